/-
  A part of the proofs of this seat's laws: a step on the way. It has no conditions of its own.
-/
import Derived.Test.YtjochhncheheaaaGreatDoorReadF
namespace Go.Proofs.YtjochhncheheaaaGreatDoor
open Go Go.RowKit Vc
set_option linter.unusedVariables false
set_option linter.unusedSimpArgs false
attribute [local irreducible] T Za Z2 Ent RdC RwC Xl Zc Zs
theorem P7 (s : List UInt8) (c : UInt8) : Lib.hasSuffix s [c] = decide (s.getLast? = some c) := by
  unfold Lib.hasSuffix List.isSuffixOf
  rcases List.eq_nil_or_concat s with rfl | ⟨r, x, rfl⟩
  · rfl
  · simp only [List.concat_eq_append, List.reverse_append, List.reverse_cons, List.reverse_nil, List.nil_append, List.cons_append, List.isPrefixOf, Bool.and_true, List.getLast?_concat, Option.some.injEq]
    rw [Bool.eq_iff_iff, beq_iff_eq, decide_eq_true_eq]
    first | exact Iff.rfl | exact ⟨fun e => e.symm, fun e => e.symm⟩
theorem Hd {s : List UInt8} {c : UInt8} (h : s.getLast? = some c) : Lib.trimSuffix s [c] = s.dropLast := by
  unfold Lib.trimSuffix
  rw [P7, decide_eq_true h, if_pos rfl, List.dropLast_eq_take]
  rfl
theorem last_byte {s : List UInt8} (h : s ≠ []) (c : UInt8) : Y8 s (s.length - 1) = ((c.toNat : Nat) : Int) ↔ s.getLast? = some c := by
  rcases List.eq_nil_or_concat s with rfl | ⟨r, x, rfl⟩
  · exact absurd rfl h
  · have hx : Y8 (r ++ [x]) r.length = ((x.toNat : Nat) : Int) := by simp [Y8, List.getD]
    simp only [List.concat_eq_append, List.length_append, List.length_cons, List.length_nil, Nat.zero_add, Nat.add_sub_cancel, hx, List.getLast?_concat, Option.some.injEq]
    constructor
    · intro e; exact UInt8.toNat_inj.1 (by omega)
    · rintro rfl; rfl
def Fi : Except Int Ln → Ln × Bool × Int
  | .error e => (ln0, false, e)
  | .ok l => (l, true, 0)
theorem I2 {s : List UInt8} (h : trimB (upToS 59 s).1 = []) : lineT s = (ln0, false, 0) := by unfold lineT R6; simp only [h, if_true]
theorem Jh {s : List UInt8} (h : trimB (upToS 59 s).1 ≠ []) (hl : (trimB (upToS 59 s).1).getLast? = some 58) (hn : Xo (trimB (upToS 59 s).1).dropLast = true) : lineT s = (⟨(trimB (upToS 59 s).1).dropLast, W1, []⟩, true, 0) := by
  unfold lineT R6; simp only [h, hl, hn, if_true, if_false]
theorem I3 {s : List UInt8} (h : trimB (upToS 59 s).1 ≠ []) (hl : (trimB (upToS 59 s).1).getLast? = some 58) (hn : Xo (trimB (upToS 59 s).1).dropLast = false) : lineT s = (ln0, false, 7) := by
  unfold lineT R6; simp only [h, hl, hn, if_true, if_false, Bool.false_eq_true]
theorem I6 {s : List UInt8} (h : trimB (upToS 59 s).1 ≠ []) (hl : (trimB (upToS 59 s).1).getLast? ≠ some 58) (hk : kindS (upToS 32 (trimB (upToS 59 s).1)).1 < 0) : lineT s = (ln0, false, 1) := by
  unfold lineT R6; simp only [h, hl, hk, if_true, if_false]
theorem Fy {s : List UInt8} (h : trimB (upToS 59 s).1 ≠ []) (hl : (trimB (upToS 59 s).1).getLast? ≠ some 58) (hk : ¬ kindS (upToS 32 (trimB (upToS 59 s).1)).1 < 0) :
    lineT s = Fi (insV (kindS (upToS 32 (trimB (upToS 59 s).1)).1) (Tp (upToS 32 (trimB (upToS 59 s).1)).2.1)) := by
  unfold lineT R6
  simp only [h, hl, hk, if_false]
  cases insV (kindS (upToS 32 (trimB (upToS 59 s).1)).1) (Tp (upToS 32 (trimB (upToS 59 s).1)).2.1) <;> rfl
end Go.Proofs.YtjochhncheheaaaGreatDoor
