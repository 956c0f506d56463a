/-
  A part of the proofs of this seat's laws: a step on the way. It has no conditions of its own.
-/
import Derived.Test.YtibkcfpcfbodaaaLinkP
import Derived.Test.YtibkcfpcfbodaaaLinkG
namespace Go.Proofs.Ytibkcfpcfbodaaa
open Go.RowKit Vc
set_option linter.unusedVariables false
set_option linter.unusedSimpArgs false
attribute [local irreducible] T CallVC QCallVC Ent RdC RwC Rw1C GCallVC GQCallVC

theorem linkS_ok {l : Units} {entry : List UInt8} (h : (linkS l entry).2.1 = 0) : (checkedS l).2.1 = 0 ∧ ∃ first, (checkedS l).1 entry = some first ∧ (lk1 l (checkedS l).1 402 0 [first] 0 own0 []).2.1 = 0 ∧
    linkS l entry = ((lk2 l (lk1 l (checkedS l).1 402 0 [first] 0 own0 []).1.2.1 (lk1 l (checkedS l).1 402 0 [first] 0 own0 []).1.1 0 [], (lk1 l (checkedS l).1 402 0 [first] 0 own0 []).1.1, (lk1 l (checkedS l).1 402 0 [first] 0 own0 []).1.2.2), 0, 0) := by
  unfold linkS at h ⊢
  split at h
  · rename_i h1; exact absurd h h1
  · rename_i h1
    rw [if_neg h1]
    split at h
    · simp at h
    · rename_i first hf
      split at h
      · rename_i h2; exact absurd h h2
      · rename_i h2
        refine ⟨by simpa using h1, first, hf, by simpa using h2, ?_⟩
        rw [if_neg h2]

theorem lk1_succ (l : Units) (own : Own) (f i : Nat) (us : List Int) (at_ : Int) (g : Own) (sps : List Spot) : lk1 l own (f + 1) i us at_ g sps = if us.length ≤ i then ((us, g, sps), 0, 0) else
      if (spotsS (linesOf l (us.getD i 0)) at_).2.2.1 ≠ 0 then (([], own0, []), (spotsS (linesOf l (us.getD i 0)) at_).2.2.1, us.getD i 0) else
      match refsL own (us.getD i 0) (spotsS (linesOf l (us.getD i 0)) at_).1 (linesOf l (us.getD i 0)) us with
      | none => (([], own0, []), 6, us.getD i 0)
      | some us' => lk1 l own f (i + 1) us' (spotsS (linesOf l (us.getD i 0)) at_).2.1 (putG (spotsS (linesOf l (us.getD i 0)) at_).1 g) (sps ++ visF (spotsS (linesOf l (us.getD i 0)) at_).1) := rfl

theorem refsL_in {own : Own} {u : Int} {sp : List Spot} {us : List Int} (hv : ∀ s v, refOf own u sp s = some v → v ∈ us) : ∀ {ls : List Ln} {us' : List Int}, refsL own u sp ls us = some us' → us' = us
  | [], us', h => by cases h; rfl
  | x :: ls, us', h => by
    simp only [refsL] at h
    split at h
    · exact refsL_in hv h
    · split at h
      · cases h
      · rename_i v hr
        rw [if_pos (hv _ _ hr)] at h
        exact refsL_in hv h

/-- what is known of a label of the unit's own -/
theorem knOf_own {g : Own} {l : List Ln} {a : Int} {s : List UInt8} (ho : ownS s = true) (hs : s ∈ labelsL l) : knOf g (spotsOf l a) s = (whereL l s a, true) := by
  unfold knOf
  rw [if_pos ho]
  obtain ⟨i, h1, h2⟩ := idxP_atS s (spotsOf l a) 0 (by rw [spotsOf_names]; exact hs)
  rw [h1, Int.toNat_natCast, Nat.zero_add, h2, atS_where (labelsL_ne hs) l a hs]

theorem int_one {v : Int} (h : 0 ≤ v ∧ v < ((1 : Nat) : Int)) : v = 0 := by omega
theorem alone_law (l : List Ln) (entry : List UInt8) (h : (linkS [([], l)] entry).2.1 = 0) : (asmS l).2.1 = 0 ∧ (asmS l).1 = (linkS [([], l)] entry).1.1 := by
  obtain ⟨hc, first, hf, hz, e⟩ := linkS_ok h
  rw [e]
  obtain ⟨hl, hu, ho⟩ := checkedS_ok hc
  have hown := own_spec hc
  generalize (checkedS [([], l)]).1 = own at *
  obtain ⟨hul, hu0⟩ := hu ([], l) (by simp)
  simp only at hul hu0
  have h0 : ∀ s v, own s = some v → v = 0 := fun s v hv => int_one (ho s v hv)
  obtain rfl := h0 _ _ hf
  have hsl : linesOf [([], l)] (([0] : List Int).getD 0 0) = l := rfl
  obtain ⟨hsp, hnd⟩ := spots_spec hu0
  have hwr : ∀ x ∈ l, wrongL x = 0 := spotsL_right l 0 0 [] [] hu0
  have hsz := (spots_end hu0).1
  obtain ⟨_, _, _, hend⟩ := spots_ok l 0 (by omega) (by omega)
  have hin : ∀ s v, refOf own 0 (spotsS l 0).1 s = some v → v ∈ [(0 : Int)] := fun s v hr => by
    unfold refOf at hr
    split at hr
    · split at hr
      · cases hr; simp
      · cases hr
    · simp [h0 s v hr]
  rw [show (402 : Nat) = 401 + 1 from rfl, lk1_succ, if_neg (by simp), hsl, if_neg (by simpa using hu0)] at hz ⊢
  have hg0 : ([0] : List Int).getD 0 0 = 0 := rfl
  rw [hg0] at hz ⊢
  cases hr : refsL own 0 (spotsS l 0).1 l [0] with
  | none => rw [hr] at hz; simp at hz
  | some us' =>
    have hall := refsL_all hr
    obtain rfl := refsL_in hin hr
    simp only
    rw [show (401 : Nat) = 400 + 1 from rfl, lk1_succ, if_pos (by simp)]
    rw [hsp] at hall ⊢
    have hnames : ((spotsOf l 0).map Spot.name).Nodup := by rw [spotsOf_names]; exact hnd
    have hmem : ∀ x ∈ l, x.ref ≠ [] → x.ref ∈ labelsL l := fun x hx hrf => by
      obtain ⟨v, h1, _⟩ := hall x hx hrf
      unfold refOf at h1
      split at h1
      · split at h1
        · rename_i h2
          rw [any_names, spotsOf_names] at h2
          simpa using h2
        · cases h1
      · obtain ⟨_, n, hn, _, hs⟩ := (hown _ _).1 h1
        have : n = 0 := by simp at hn; omega
        subst this; exact hs
    have hk1 : ∀ x ∈ l, x.ref ≠ [] → knOf (putG (spotsOf l 0) own0) (spotsOf l 0) x.ref = (whereL l x.ref 0, true) := fun x hx hrf => by
      have hm := hmem x hx hrf
      cases hos : ownS x.ref with
      | true => exact knOf_own hos hm
      | false =>
        unfold knOf
        rw [if_neg (by rw [hos]; decide), putG_spec _ _ _ hnames, if_pos ⟨hos, by rw [spotsOf_names]; exact hm⟩, atS_where hrf l 0 hm]
        rfl
    have hk2 : ∀ x ∈ l, x.ref ≠ [] → knA (putA (spotsOf l 0) own0) x.ref = (whereL l x.ref 0, true) := fun x hx hrf => by
      have hm := hmem x hx hrf
      unfold knA
      rw [putA_spec _ _ _ hnames, if_pos (by rw [spotsOf_names]; exact hm), atS_where hrf l 0 hm]
      rfl
    have r1 := resolveL_of (h := knOf (putG (spotsOf l 0) own0) (spotsOf l 0)) l 0 [] fun x hx _ hrf => by rw [hk1 x hx hrf]
    have r2 := resolveL_of (h := knA (putA (spotsOf l 0) own0)) l 0 [] fun x hx _ hrf => by rw [hk2 x hx hrf]
    have hcg : resI (knA (putA (spotsOf l 0) own0)) l = resI (knOf (putG (spotsOf l 0) own0) (spotsOf l 0)) l := resI_congr fun x hx _ hrf => by rw [hk1 x hx hrf, hk2 x hx hrf]
    obtain ⟨i1, i2⟩ := resI_ok (h := knA (putA (spotsOf l 0) own0)) l hwr fun x hx hrf => by
      rw [hk2 x hx hrf]
      have := whereL_rng l 0 (by omega) (hmem x hx hrf)
      simp only; omega
    have he := encS_of i1 (by omega)
    have hA : asmS l = (wordsL (resI (knA (putA (spotsOf l 0) own0)) l), 0, 0) := by
      unfold asmS
      rw [if_neg (by omega), if_neg (by simpa using hu0), hsp]
      unfold resolveS
      rw [r2]
      simp only [List.nil_append, ne_eq, not_true, if_false]
      exact he
    rw [hA]
    refine ⟨rfl, ?_⟩
    have hL : lk2 [([], l)] (putG (spotsOf l 0) own0) [0] 0 [] = [] ++ (encS (resolveS (knOf (putG (spotsOf l 0) own0) (spotsS l 0).1) l).1).1 := rfl
    rw [hL, hsp]
    unfold resolveS
    rw [r1, List.nil_append, List.nil_append, ← hcg, he]
end Go.Proofs.Ytibkcfpcfbodaaa
