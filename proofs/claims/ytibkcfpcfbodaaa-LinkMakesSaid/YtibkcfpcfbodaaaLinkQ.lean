/-
  A part of the proofs of this seat's laws: a step on the way. It has no conditions of its own.
-/
import Derived.Test.YtibkcfpcfbodaaaLinkP
import Derived.Test.YtibkcfpcfbodaaaLinkG
namespace Go.Proofs.Ytibkcfpcfbodaaa
open Go.RowKit Vc
set_option linter.unusedVariables false
set_option linter.unusedSimpArgs false
attribute [local irreducible] T Yi X9 Ent RdC RwC Tw Yu Xv
theorem R9 {l : X5} {entry : List UInt8} (h : (Wm l entry).2.1 = 0) : (Yw l).2.1 = 0 ∧ ∃ first, (Yw l).1 entry = some first ∧ (lk1 l (Yw l).1 402 0 [first] 0 Wr []).2.1 = 0 ∧
    Wm l entry = ((lk2 l (lk1 l (Yw l).1 402 0 [first] 0 Wr []).1.2.1 (lk1 l (Yw l).1 402 0 [first] 0 Wr []).1.1 0 [], (lk1 l (Yw l).1 402 0 [first] 0 Wr []).1.1, (lk1 l (Yw l).1 402 0 [first] 0 Wr []).1.2.2), 0, 0) := by
  unfold Wm at h ⊢
  split at h
  · rename_i h1; exact absurd h h1
  · rename_i h1
    rw [if_neg h1]
    split at h
    · simp at h
    · rename_i first hf
      split at h
      · rename_i h2; exact absurd h h2
      · rename_i h2
        refine ⟨by simpa using h1, first, hf, by simpa using h2, ?_⟩
        rw [if_neg h2]
theorem To (l : X5) (own : Own) (f i : Nat) (us : List Int) (at_ : Int) (g : Own) (sps : List Spot) : lk1 l own (f + 1) i us at_ g sps = if us.length ≤ i then ((us, g, sps), 0, 0) else
      if (Xr (linesOf l (us.getD i 0)) at_).2.2.1 ≠ 0 then (([], Wr, []), (Xr (linesOf l (us.getD i 0)) at_).2.2.1, us.getD i 0) else
      match Vu own (us.getD i 0) (Xr (linesOf l (us.getD i 0)) at_).1 (linesOf l (us.getD i 0)) us with
      | none => (([], Wr, []), 6, us.getD i 0)
      | some us' => lk1 l own f (i + 1) us' (Xr (linesOf l (us.getD i 0)) at_).2.1 (Rd (Xr (linesOf l (us.getD i 0)) at_).1 g) (sps ++ Sy (Xr (linesOf l (us.getD i 0)) at_).1) := rfl
theorem Nt {own : Own} {u : Int} {sp : List Spot} {us : List Int} (hv : ∀ s v, U7 own u sp s = some v → v ∈ us) : ∀ {ls : List Ln} {us' : List Int}, Vu own u sp ls us = some us' → us' = us
  | [], us', h => by cases h; rfl
  | x :: ls, us', h => by
    simp only [Vu] at h
    split at h
    · exact Nt hv h
    · split at h
      · cases h
      · rename_i v hr
        rw [if_pos (hv _ _ hr)] at h
        exact Nt hv h
theorem I2 {g : Own} {l : List Ln} {a : Int} {s : List UInt8} (ho : W2 s = true) (hs : s ∈ X4 l) : Sc g (X8 l a) s = (whereL l s a, true) := by
  unfold Sc
  rw [if_pos ho]
  obtain ⟨i, h1, h2⟩ := Nk s (X8 l a) 0 (by rw [W3]; exact hs)
  rw [h1, Int.toNat_natCast, Nat.zero_add, h2, Tv (Tb hs) l a hs]
theorem int_one {v : Int} (h : 0 ≤ v ∧ v < ((1 : Nat) : Int)) : v = 0 := by omega
theorem alone_law (l : List Ln) (entry : List UInt8) (h : (Wm [([], l)] entry).2.1 = 0) : (Mr l).2.1 = 0 ∧ (Mr l).1 = (Wm [([], l)] entry).1.1 := by
  obtain ⟨hc, first, hf, hz, e⟩ := R9 h
  rw [e]
  obtain ⟨hl, hu, ho⟩ := Vf hc
  have hown := Tn hc
  generalize (Yw [([], l)]).1 = own at *
  obtain ⟨hul, hu0⟩ := hu ([], l) (by simp)
  simp only at hul hu0
  have h0 : ∀ s v, own s = some v → v = 0 := fun s v hv => int_one (ho s v hv)
  obtain rfl := h0 _ _ hf
  have hsl : linesOf [([], l)] (([0] : List Int).getD 0 0) = l := rfl
  obtain ⟨hsp, hnd⟩ := T1 hu0
  have hwr : ∀ x ∈ l, Vj x = 0 := Uf l 0 0 [] [] hu0
  have hsz := (T0 hu0).1
  obtain ⟨_, _, _, hend⟩ := Qf l 0 (by omega) (by omega)
  have hin : ∀ s v, U7 own 0 (Xr l 0).1 s = some v → v ∈ [(0 : Int)] := fun s v hr => by
    unfold U7 at hr
    split at hr
    · split at hr
      · cases hr; simp
      · cases hr
    · simp [h0 s v hr]
  rw [show (402 : Nat) = 401 + 1 from rfl, To, if_neg (by simp), hsl, if_neg (by simpa using hu0)] at hz ⊢
  have hg0 : ([0] : List Int).getD 0 0 = 0 := rfl
  rw [hg0] at hz ⊢
  cases hr : Vu own 0 (Xr l 0).1 l [0] with
  | none => rw [hr] at hz; simp at hz
  | some us' =>
    have hall := Qs hr
    obtain rfl := Nt hin hr
    simp only
    rw [show (401 : Nat) = 400 + 1 from rfl, To, if_pos (by simp)]
    rw [hsp] at hall ⊢
    have hnames : ((X8 l 0).map Spot.name).Nodup := by rw [W3]; exact hnd
    have hmem : ∀ x ∈ l, x.ref ≠ [] → x.ref ∈ X4 l := fun x hx hrf => by
      obtain ⟨v, h1, _⟩ := hall x hx hrf
      unfold U7 at h1
      split at h1
      · split at h1
        · rename_i h2
          rw [Rm, W3] at h2
          simpa using h2
        · cases h1
      · obtain ⟨_, n, hn, _, hs⟩ := (hown _ _).1 h1
        have : n = 0 := by simp at hn; omega
        subst this; exact hs
    have hk1 : ∀ x ∈ l, x.ref ≠ [] → Sc (Rd (X8 l 0) Wr) (X8 l 0) x.ref = (whereL l x.ref 0, true) := fun x hx hrf => by
      have hm := hmem x hx hrf
      cases hos : W2 x.ref with
      | true => exact I2 hos hm
      | false =>
        unfold Sc
        rw [if_neg (by rw [hos]; decide), P4 _ _ _ hnames, if_pos ⟨hos, by rw [W3]; exact hm⟩, Tv hrf l 0 hm]
        rfl
    have hk2 : ∀ x ∈ l, x.ref ≠ [] → knA (Rb (X8 l 0) Wr) x.ref = (whereL l x.ref 0, true) := fun x hx hrf => by
      have hm := hmem x hx hrf
      unfold knA
      rw [N4 _ _ _ hnames, if_pos (by rw [W3]; exact hm), Tv hrf l 0 hm]
      rfl
    have r1 := S5 (h := Sc (Rd (X8 l 0) Wr) (X8 l 0)) l 0 [] fun x hx _ hrf => by rw [hk1 x hx hrf]
    have r2 := S5 (h := knA (Rb (X8 l 0) Wr)) l 0 [] fun x hx _ hrf => by rw [hk2 x hx hrf]
    have hcg : Ts (knA (Rb (X8 l 0) Wr)) l = Ts (Sc (Rd (X8 l 0) Wr) (X8 l 0)) l := Kq fun x hx _ hrf => by rw [hk1 x hx hrf, hk2 x hx hrf]
    obtain ⟨i1, i2⟩ := M8 (h := knA (Rb (X8 l 0) Wr)) l hwr fun x hx hrf => by
      rw [hk2 x hx hrf]
      have := Tx l 0 (by omega) (hmem x hx hrf)
      simp only; omega
    have he := Oh i1 (by omega)
    have hA : Mr l = (W6 (Ts (knA (Rb (X8 l 0) Wr)) l), 0, 0) := by
      unfold Mr
      rw [if_neg (by omega), if_neg (by simpa using hu0), hsp]
      unfold W4
      rw [r2]
      simp only [List.nil_append, ne_eq, not_true, if_false]
      exact he
    rw [hA]
    refine ⟨rfl, ?_⟩
    have hL : lk2 [([], l)] (Rd (X8 l 0) Wr) [0] 0 [] = [] ++ (Uv (W4 (Sc (Rd (X8 l 0) Wr) (Xr l 0).1) l).1).1 := rfl
    rw [hL, hsp]
    unfold W4
    rw [r1, List.nil_append, List.nil_append, ← hcg, he]
end Go.Proofs.Ytibkcfpcfbodaaa
