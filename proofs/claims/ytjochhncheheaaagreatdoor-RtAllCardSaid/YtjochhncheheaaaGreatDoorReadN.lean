/-
  A part of the proofs of this seat's laws: a step on the way. It has no conditions of its own.
-/
import Derived.Test.YtjochhncheheaaaGreatDoorReadM
namespace Go.Proofs.YtjochhncheheaaaGreatDoor
open Go Go.RowKit Vc
set_option linter.unusedVariables false
set_option linter.unusedSimpArgs false
attribute [local irreducible] T Za Z2 Ent RdC RwC Xm Zc Zs
theorem M6 {b : Bool} {ps : List (List UInt8)} {e : Int} (h : Sn b ps = .error e) : e ≠ 0 := by
  unfold Sn at h
  split at h
  · cases h
  · split at h
    · cases h; decide
    · split at h
      · cases h
      · cases h; decide
theorem De {op : Int} {d s : Nat} {ps : List (List UInt8)} {e : Int} (h : Mh op d s ps = .error e) : e ≠ 0 := by
  unfold Mh Ts at h
  split at h
  · rename_i e' he
    cases h
    split at he
    · cases he
    · split at he
      · cases he; decide
      · split at he
        · cases he
        · split at he
          · cases he
          · cases he; decide
  · split at h
    · cases h
    · cases h; decide
theorem F6 {op : Int} {ps : List (List UInt8)} {e : Int} (h : insV op ps = .error e) : e ≠ 0 := by
  rw [Hr] at h
  split at h
  · rename_i e' he
    cases h; exact M6 he
  · unfold insS at h
    split at h
    · rename_i e' he
      cases h; exact M6 he
    · exact De h
theorem Gx {s : List UInt8} {e : Int} (h : Ry s = .error e) : e ≠ 0 := by
  unfold Ry at h
  simp only at h
  split at h
  · cases h
  · split at h
    · split at h
      · cases h
      · cases h; decide
    · split at h
      · cases h; decide
      · split at h
        · rename_i e' he
          cases h; exact F6 he
        · cases h
theorem Ix (s : List UInt8) (l : List (List UInt8)) (k : Nat) (acc : List Ln) :
    Sp (s :: l) k acc = if (lineT s).2.2 ≠ 0 then (([], (lineT s).2.2, (k : Int)) : List Ln × Int × Int) else if (lineT s).2.1 = true then Sp l (k + 1) (acc ++ [(lineT s).1]) else Sp l (k + 1) acc := by
  rw [Sp]
  unfold lineT
  cases hv : Ry s with
  | error e => simp only; rw [if_pos (Gx hv)]
  | ok o => cases o <;> simp
theorem linesS_len (t : List UInt8) : (∀ p ∈ Ug t, p.length ≤ t.length) ∧ (Ug t).length ≤ t.length + 1 := by
  have h1 := T2 10 t
  have h2 := List.count_le_length (a := (10 : UInt8)) (l := t)
  unfold Ug
  split
  · refine ⟨fun p hp => V1 10 t p (List.dropLast_subset _ hp), ?_⟩
    rw [List.length_dropLast]; omega
  · exact ⟨V1 10 t, by omega⟩
end Go.Proofs.YtjochhncheheaaaGreatDoor
