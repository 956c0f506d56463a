/-
  A part of the proofs of this seat's laws: a step on the way. It has no conditions of its own.
-/
import Derived.Test.YtjochhncheheaaaGreatDoorReadM
namespace Go.Proofs.YtjochhncheheaaaGreatDoor
open Go Go.RowKit Vc
set_option linter.unusedVariables false
set_option linter.unusedSimpArgs false
attribute [local irreducible] T Za Z2 Ent RdC RwC Xl Zc Zs
theorem Lf {b : Bool} {ps : List (List UInt8)} {e : Int} (h : Sv b ps = .error e) : e ≠ 0 := by
  unfold Sv at h
  split at h
  · cases h
  · split at h
    · cases h; decide
    · split at h
      · cases h
      · cases h; decide
theorem Dk {op : Int} {d s : Nat} {ps : List (List UInt8)} {e : Int} (h : Mj op d s ps = .error e) : e ≠ 0 := by
  unfold Mj Tv at h
  split at h
  · rename_i e' he
    cases h
    split at he
    · cases he
    · split at he
      · cases he; decide
      · split at he
        · cases he
        · split at he
          · cases he
          · cases he; decide
  · split at h
    · cases h
    · cases h; decide
theorem F9 {op : Int} {ps : List (List UInt8)} {e : Int} (h : insV op ps = .error e) : e ≠ 0 := by
  rw [Gc] at h
  split at h
  · rename_i e' he
    cases h; exact Lf he
  · unfold insS at h
    split at h
    · rename_i e' he
      cases h; exact Lf he
    · exact Dk h
theorem Gz {s : List UInt8} {e : Int} (h : R6 s = .error e) : e ≠ 0 := by
  unfold R6 at h
  simp only at h
  split at h
  · cases h
  · split at h
    · split at h
      · cases h
      · cases h; decide
    · split at h
      · cases h; decide
      · split at h
        · rename_i e' he
          cases h; exact F9 he
        · cases h
theorem Hs (s : List UInt8) (l : List (List UInt8)) (k : Nat) (acc : List Ln) :
    Ss (s :: l) k acc = if (lineT s).2.2 ≠ 0 then (([], (lineT s).2.2, (k : Int)) : List Ln × Int × Int) else if (lineT s).2.1 = true then Ss l (k + 1) (acc ++ [(lineT s).1]) else Ss l (k + 1) acc := by
  rw [Ss]
  unfold lineT
  cases hv : R6 s with
  | error e => simp only; rw [if_pos (Gz hv)]
  | ok o => cases o <;> simp
theorem linesS_len (t : List UInt8) : (∀ p ∈ Up t, p.length ≤ t.length) ∧ (Up t).length ≤ t.length + 1 := by
  have h1 := Sm 10 t
  have h2 := List.count_le_length (a := (10 : UInt8)) (l := t)
  unfold Up
  split
  · refine ⟨fun p hp => V7 10 t p (List.dropLast_subset _ hp), ?_⟩
    rw [List.length_dropLast]; omega
  · exact ⟨V7 10 t, by omega⟩
end Go.Proofs.YtjochhncheheaaaGreatDoor
