/-
  A part of the proofs of this seat's laws: a step on the way. It has no conditions of its own.
-/
import Derived.Test.YtccjjcdjgibilaaDoorAsmC
namespace Go.Proofs.YtccjjcdjgibilaaDoor
open Go.RowKit Vc
set_option linter.unusedVariables false
set_option linter.unusedSimpArgs false
def Hx : Spot := ⟨[], 0⟩
def Jd (s : Spot) : Prop := (0 ≤ s.at_ ∧ s.at_ ≤ 65536) ∧ W3 s.name = true ∧ s.name ≠ []
theorem Pe : ∀ (l : List Ln) (k : Nat) (a : Int) (seen : List (List UInt8)) (acc : List Spot), 0 ≤ a → a ≤ 65536 → (∀ s ∈ acc, Jd s) → (∀ s ∈ (Va l k a seen acc).1, Jd s) ∧ (Va l k a seen acc).1.length ≤ acc.length + l.length ∧ 0 ≤ (Va l k a seen acc).2.1 ∧ (Va l k a seen acc).2.1 ≤ 65536
  | [], k, a, seen, acc, h0, h1, h => ⟨h, Nat.le_refl _, h0, h1⟩
  | x :: l, k, a, seen, acc, h0, h1, h => by
    unfold Va
    have hle := Ts x
    split
    · simp
    · rename_i hw
      have hw' : Vm x = 0 := by simpa using hw
      split
      · rename_i hlb
        split
        · simp
        · obtain ⟨g1, g2, g3⟩ := Pe l (k + 1) a (x.label :: seen) (acc ++ [⟨x.label, a⟩]) h0 h1 (fun s hs => by
            rcases List.mem_append.1 hs with hs | hs
            · exact h s hs
            · simp only [List.mem_singleton] at hs; subst hs
              exact ⟨⟨h0, h1⟩, (Tw hw' hlb).1, hlb⟩)
          refine ⟨g1, ?_, g3⟩
          simp only [List.length_append, List.length_cons, List.length_nil] at g2 ⊢; omega
      · split
        · simp
        · obtain ⟨g1, g2, g3⟩ := Pe l (k + 1) (a + Vx x) seen acc (by omega) (by omega) h
          refine ⟨g1, ?_, g3⟩
          simp only [List.length_cons]; omega
theorem Kj (l : List Ln) (a : Int) (h0 : 0 ≤ a) (h1 : a ≤ 65536) : (∀ s ∈ (Wo l a).1, Jd s) ∧ (Wo l a).1.length ≤ l.length ∧ 0 ≤ (Wo l a).2.1 ∧ (Wo l a).2.1 ≤ 65536 := by
  have := Pe l 0 a [] [] h0 h1 (by simp)
  simpa [Wo] using this
@[reducible] def Own : Type := List UInt8 → Option (Kd.ty (.int .i64))
def Si : Own := fun _ => none
theorem P3 : (fun _ => none) = Si := rfl
theorem Tx : ∀ (l : List Ln) (k : Nat) (a : Int) (seen : List (List UInt8)) (acc : List Spot), (Va l k a seen acc).2.2.1 = 0 → ∀ x ∈ l, Vm x = 0
  | [], _, _, _, _, _, x, hx => nomatch hx
  | y :: l, k, a, seen, acc, h, x, hx => by
    unfold Va at h
    split at h
    · rename_i h1; exact absurd h h1
    · rename_i h1
      have hy : Vm y = 0 := by simpa using h1
      rcases List.mem_cons.1 hx with rfl | hx
      · exact hy
      · split at h
        · split at h
          · exact absurd h (by simp)
          · exact Tx l _ _ _ _ h x hx
        · split at h
          · exact absurd h (by simp)
          · exact Tx l _ _ _ _ h x hx
end Go.Proofs.YtccjjcdjgibilaaDoor
