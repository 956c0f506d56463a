/-
  A part of the proofs of this seat's laws: a step on the way. It has no conditions of its own.
-/
import Derived.Test.YtibkcfpcfbodaaaLinkP
import Derived.Test.YtibkcfpcfbodaaaLinkG
namespace Go.Proofs.Ytibkcfpcfbodaaa
open Go.RowKit Vc
set_option linter.unusedVariables false
set_option linter.unusedSimpArgs false
attribute [local irreducible] T Z9 Wm Ent RdC RwC Sb Yc Wg
theorem T2 {l : X3} {entry : List UInt8} (h : (Wt l entry).2.1 = 0) : (Yn l).2.1 = 0 ∧ ∃ first, (Yn l).1 entry = some first ∧ (lk1 l (Yn l).1 402 0 [first] 0 Wk []).2.1 = 0 ∧
    Wt l entry = ((lk2 l (lk1 l (Yn l).1 402 0 [first] 0 Wk []).1.2.1 (lk1 l (Yn l).1 402 0 [first] 0 Wk []).1.1 0 [], (lk1 l (Yn l).1 402 0 [first] 0 Wk []).1.1, (lk1 l (Yn l).1 402 0 [first] 0 Wk []).1.2.2), 0, 0) := by
  unfold Wt at h ⊢
  split at h
  · rename_i h1; exact absurd h h1
  · rename_i h1
    rw [if_neg h1]
    split at h
    · simp at h
    · rename_i first hf
      split at h
      · rename_i h2; exact absurd h h2
      · rename_i h2
        refine ⟨by simpa using h1, first, hf, by simpa using h2, ?_⟩
        rw [if_neg h2]
theorem Tj (l : X3) (own : Own) (f i : Nat) (us : List Int) (at_ : Int) (g : Own) (sps : List Spot) : lk1 l own (f + 1) i us at_ g sps = if us.length ≤ i then ((us, g, sps), 0, 0) else
      if (Y1 (linesOf l (us.getD i 0)) at_).2.2.1 ≠ 0 then (([], Wk, []), (Y1 (linesOf l (us.getD i 0)) at_).2.2.1, us.getD i 0) else
      match Vq own (us.getD i 0) (Y1 (linesOf l (us.getD i 0)) at_).1 (linesOf l (us.getD i 0)) us with
      | none => (([], Wk, []), 6, us.getD i 0)
      | some us' => lk1 l own f (i + 1) us' (Y1 (linesOf l (us.getD i 0)) at_).2.1 (Sc (Y1 (linesOf l (us.getD i 0)) at_).1 g) (sps ++ T4 (Y1 (linesOf l (us.getD i 0)) at_).1) := rfl
theorem Nc {own : Own} {u : Int} {sp : List Spot} {us : List Int} (hv : ∀ s v, Uz own u sp s = some v → v ∈ us) : ∀ {ls : List Ln} {us' : List Int}, Vq own u sp ls us = some us' → us' = us
  | [], us', h => by cases h; rfl
  | x :: ls, us', h => by
    simp only [Vq] at h
    split at h
    · exact Nc hv h
    · split at h
      · cases h
      · rename_i v hr
        rw [if_pos (hv _ _ hr)] at h
        exact Nc hv h
theorem I9 {g : Own} {l : List Ln} {a : Int} {s : List UInt8} (ho : Wz s = true) (hs : s ∈ Xz l) : T8 g (X2 l a) s = (Wp l s a, true) := by
  unfold T8
  rw [if_pos ho]
  obtain ⟨i, h1, h2⟩ := Nj s (X2 l a) 0 (by rw [W4]; exact hs)
  rw [h1, Int.toNat_natCast, Nat.zero_add, h2, To (Ts hs) l a hs]
theorem int_one {v : Int} (h : 0 ≤ v ∧ v < ((1 : Nat) : Int)) : v = 0 := by omega
theorem alone_law (l : List Ln) (entry : List UInt8) (h : (Wt [([], l)] entry).2.1 = 0) : (M7 l).2.1 = 0 ∧ (M7 l).1 = (Wt [([], l)] entry).1.1 := by
  obtain ⟨hc, first, hf, hz, e⟩ := T2 h
  rw [e]
  obtain ⟨hl, hu, ho⟩ := W8 hc
  have hown := Ty hc
  generalize (Yn [([], l)]).1 = own at *
  obtain ⟨hul, hu0⟩ := hu ([], l) (by simp)
  simp only at hul hu0
  have h0 : ∀ s v, own s = some v → v = 0 := fun s v hv => int_one (ho s v hv)
  obtain rfl := h0 _ _ hf
  have hsl : linesOf [([], l)] (([0] : List Int).getD 0 0) = l := rfl
  obtain ⟨hsp, hnd⟩ := U8 hu0
  have hwr : ∀ x ∈ l, W6 x = 0 := Vv l 0 0 [] [] hu0
  have hsz := (Tq hu0).1
  obtain ⟨_, _, _, hend⟩ := S9 l 0 (by omega) (by omega)
  have hin : ∀ s v, Uz own 0 (Y1 l 0).1 s = some v → v ∈ [(0 : Int)] := fun s v hr => by
    unfold Uz at hr
    split at hr
    · split at hr
      · cases hr; simp
      · cases hr
    · simp [h0 s v hr]
  rw [show (402 : Nat) = 401 + 1 from rfl, Tj, if_neg (by simp), hsl, if_neg (by simpa using hu0)] at hz ⊢
  have hg0 : ([0] : List Int).getD 0 0 = 0 := rfl
  rw [hg0] at hz ⊢
  cases hr : Vq own 0 (Y1 l 0).1 l [0] with
  | none => rw [hr] at hz; simp at hz
  | some us' =>
    have hall := R8 hr
    obtain rfl := Nc hin hr
    simp only
    rw [show (401 : Nat) = 400 + 1 from rfl, Tj, if_pos (by simp)]
    rw [hsp] at hall ⊢
    have hnames : ((X2 l 0).map Spot.name).Nodup := by rw [W4]; exact hnd
    have hmem : ∀ x ∈ l, x.ref ≠ [] → x.ref ∈ Xz l := fun x hx hrf => by
      obtain ⟨v, h1, _⟩ := hall x hx hrf
      unfold Uz at h1
      split at h1
      · split at h1
        · rename_i h2
          rw [Rc, W4] at h2
          simpa using h2
        · cases h1
      · obtain ⟨_, n, hn, _, hs⟩ := (hown _ _).1 h1
        have : n = 0 := by simp at hn; omega
        subst this; exact hs
    have hk1 : ∀ x ∈ l, x.ref ≠ [] → T8 (Sc (X2 l 0) Wk) (X2 l 0) x.ref = (Wp l x.ref 0, true) := fun x hx hrf => by
      have hm := hmem x hx hrf
      cases hos : Wz x.ref with
      | true => exact I9 hos hm
      | false =>
        unfold T8
        rw [if_neg (by rw [hos]; decide), Po _ _ _ hnames, if_pos ⟨hos, by rw [W4]; exact hm⟩, To hrf l 0 hm]
        rfl
    have hk2 : ∀ x ∈ l, x.ref ≠ [] → knA (Uu (X2 l 0) Wk) x.ref = (Wp l x.ref 0, true) := fun x hx hrf => by
      have hm := hmem x hx hrf
      unfold knA
      rw [N4 _ _ _ hnames, if_pos (by rw [W4]; exact hm), To hrf l 0 hm]
      rfl
    have r1 := Sy (h := T8 (Sc (X2 l 0) Wk) (X2 l 0)) l 0 [] fun x hx _ hrf => by rw [hk1 x hx hrf]
    have r2 := Sy (h := knA (Uu (X2 l 0) Wk)) l 0 [] fun x hx _ hrf => by rw [hk2 x hx hrf]
    have hcg : Tl (knA (Uu (X2 l 0) Wk)) l = Tl (T8 (Sc (X2 l 0) Wk) (X2 l 0)) l := Kr fun x hx _ hrf => by rw [hk1 x hx hrf, hk2 x hx hrf]
    obtain ⟨i1, i2⟩ := M9 (h := knA (Uu (X2 l 0) Wk)) l hwr fun x hx hrf => by
      rw [hk2 x hx hrf]
      have := Tr l 0 (by omega) (hmem x hx hrf)
      simp only; omega
    have he := Q7 i1 (by omega)
    have hA : M7 l = (Wf (Tl (knA (Uu (X2 l 0) Wk)) l), 0, 0) := by
      unfold M7
      rw [if_neg (by omega), if_neg (by simpa using hu0), hsp]
      unfold W7
      rw [r2]
      simp only [List.nil_append, ne_eq, not_true, if_false]
      exact he
    rw [hA]
    refine ⟨rfl, ?_⟩
    have hL : lk2 [([], l)] (Sc (X2 l 0) Wk) [0] 0 [] = [] ++ (Uw (W7 (T8 (Sc (X2 l 0) Wk) (Y1 l 0).1) l).1).1 := rfl
    rw [hL, hsp]
    unfold W7
    rw [r1, List.nil_append, List.nil_append, ← hcg, he]
end Go.Proofs.Ytibkcfpcfbodaaa
