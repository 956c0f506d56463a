/-
  Plain law of LinkMore: a unit more, behind all others, leaves the image as it was where both link. It has no conditions of its own.
-/
import Derived.Test.YtibkcfpcfbodaaaLinkU
namespace Go.Proofs.Ytibkcfpcfbodaaa
open Go.RowKit Vc
set_option linter.unusedVariables false
set_option linter.unusedSimpArgs false
theorem Qv {own own' : Own} (hle : ∀ s v, own s = some v → own' s = some v) {u : Int} {sp : List Spot} : ∀ {ls : List Ln} {us us' : List Int}, Vq own u sp ls us = some us' → Vq own' u sp ls us = some us'
  | [], us, us', h => h
  | x :: ls, us, us', h => by
    simp only [Vq] at h ⊢
    by_cases hr : x.ref = []
    · rw [if_pos hr] at h ⊢; exact Qv hle h
    · rw [if_neg hr] at h ⊢
      cases hq : Uz own u sp x.ref with
      | none => rw [hq] at h; cases h
      | some n =>
        have hq' : Uz own' u sp x.ref = some n := by
          unfold Uz at hq ⊢
          split at hq
          · rename_i ho; rw [if_pos ho]; exact hq
          · rename_i ho; rw [if_neg ho]; exact hle _ _ hq
        rw [hq] at h
        rw [hq']
        exact Qv hle h
theorem Q9 {l : X3} {m : List UInt8 × List Ln} {u : Int} (h : 0 ≤ u ∧ u < l.length) : linesOf (l ++ [m]) u = linesOf l u := by
  have : u.toNat < l.length := by omega
  simp [linesOf, List.getD, List.getElem?_append_left this]
theorem Lt {l : X3} {m : List UInt8 × List Ln} {own own' : Own} (hle : ∀ s v, own s = some v → own' s = some v) (ho : ∀ s v, own s = some v → 0 ≤ v ∧ v < l.length) : ∀ (f i : Nat) (us : List Int) (at_ : Int) (g : Own) (sps : List Spot),
    (lk1 l own f i us at_ g sps).2.1 = 0 → Qf l.length us → lk1 (l ++ [m]) own' f i us at_ g sps = lk1 l own f i us at_ g sps
  | 0, i, us, at_, g, sps, h, _ => rfl
  | f + 1, i, us, at_, g, sps, h, hus => by
    rw [Tj] at h
    rw [Tj, Tj]
    by_cases h1 : us.length ≤ i
    · rw [if_pos h1, if_pos h1]
    · have hi : i < us.length := by omega
      have hmem : us.getD i 0 ∈ us := by simp [List.getD, hi]
      rw [Q9 (hus.2 _ hmem)]
      rw [if_neg h1] at h
      rw [if_neg h1, if_neg h1]
      by_cases h2 : (Y1 (linesOf l (us.getD i 0)) at_).2.2.1 ≠ 0
      · rw [if_pos h2] at h; exact absurd h h2
      · rw [if_neg h2] at h
        rw [if_neg h2, if_neg h2]
        cases hr : Vq own (us.getD i 0) (Y1 (linesOf l (us.getD i 0)) at_).1 (linesOf l (us.getD i 0)) us with
        | none => rw [hr] at h; simp at h
        | some us' =>
          rw [hr] at h
          rw [Qv hle hr]
          exact Lt hle ho f (i + 1) us' _ _ _ h (Sl (hus.2 _ hmem) ho hr hus).1
theorem Lo {l : X3} {m : List UInt8 × List Ln} {g : Own} : ∀ (us : List Int) (at_ : Int) (acc : List Int), (∀ v ∈ us, 0 ≤ v ∧ v < l.length) → lk2 (l ++ [m]) g us at_ acc = lk2 l g us at_ acc
  | [], _, _, _ => rfl
  | u :: us, at_, acc, h => by
    simp only [lk2]
    rw [Q9 (h u (List.mem_cons_self ..))]
    exact Lo us _ _ fun v hv => h v (List.mem_cons_of_mem _ hv)
theorem Ip {l : X3} {m : List UInt8 × List Ln} {entry : List UInt8} (h1 : (Wt l entry).2.1 = 0) (h2 : (Wt (l ++ [m]) entry).2.1 = 0) : (Wt (l ++ [m]) entry).1 = (Wt l entry).1 := by
  obtain ⟨hc, first, hf, hz, e⟩ := T2 h1
  obtain ⟨hc', first', hf', hz', e'⟩ := T2 h2
  obtain ⟨hl, hu, ho⟩ := W8 hc
  have hle : ∀ s v, (Yn l).1 s = some v → (Yn (l ++ [m])).1 s = some v := fun s v hv => by
    obtain ⟨k1, n, k2, k3, k4⟩ := (Ty hc s v).1 hv
    refine (Ty hc' s v).2 ⟨k1, n, by rw [List.length_append]; omega, k3, ?_⟩
    rw [show (l ++ [m]).getD n Ud = l.getD n Ud by simp [List.getD, List.getElem?_append_left k2]]
    exact k4
  have hff := hle _ _ hf
  rw [hf'] at hff
  obtain rfl := Option.some.inj hff
  have hus0 : Qf l.length [first'] := ⟨by simp, fun v hv => by
    simp only [List.mem_singleton] at hv; subst hv; exact ho _ _ hf⟩
  have hus := Oi hu ho 402 0 [first'] 0 Wk [] hz hus0
  rw [e, e', Lt hle ho 402 0 [first'] 0 Wk [] hz hus0]
  simp only
  rw [Lo _ _ _ hus.2]
end Go.Proofs.Ytibkcfpcfbodaaa
