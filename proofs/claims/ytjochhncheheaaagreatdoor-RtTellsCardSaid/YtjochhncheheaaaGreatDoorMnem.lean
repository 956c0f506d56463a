/-
  A part of the proofs of this seat's laws: a step on the way. It has no conditions of its own.
-/
import Derived.Test.YtjochhncheheaaaGreatDoorInstr
import Derived.Test.YtjochhncheheaaaGreatDoorIrA
namespace Go.Proofs.YtjochhncheheaaaGreatDoor
open Go Go.RowKit Vc
set_option linter.unusedVariables false
set_option linter.unusedSimpArgs false
attribute [local irreducible] T Za Z2 Ent RdC RwC Xl Zc Zs
def Tc : List (List UInt8) := [[104, 97, 108, 116], [109, 111, 118], [108, 100, 105], [108, 100], [115, 116], [97, 100, 100], [97, 100, 99], [115, 117, 98], [115, 98, 99], [97, 110, 100], [111, 114], [120, 111, 114], [99, 109, 112], [99, 112, 99], [115, 104, 108], [114, 111, 108], [115, 104, 114], [115, 97, 114], [114, 111, 114], [106, 109, 112], [106, 122], [106, 110, 122], [106, 99], [106, 110, 99], [106, 108, 116], [106, 103, 101], [99, 97, 108, 108], [114, 101, 116], [112, 117, 115, 104], [112, 111, 112], [111, 117, 116], [105, 110], [116, 114, 97, 112]]
def H3 (op : Int) : List UInt8 := Tc.getD op.toNat []
theorem wordS_len (op : Int) : (H3 op).length ≤ 4 := by
  unfold H3
  generalize op.toNat = k
  by_cases hk : k < 33
  · revert k; decide
  · have : Tc.length ≤ k := by simp [Tc]; omega
    simp [List.getD, this]
theorem L3 : GC Tryz.prog 68 [] [] 0 [] (.one (.a (.ref 0))) [(0, .row 9 .str Tc)] 1 := by
  refine Xw.fn.gc (by simp) (by simp [Yo, Yr, Yp, Zw, Zp, Vc.S1.okN, At.okN, SV.okN, Res.okN, Res.outOk, Z1, Res.own, Value.oneCell']) fun w X fr => ?_
  refine T.regs ?_
  simp only [Zh, Zi, Int.reduceEq, Int.reduceNeg, Int.reduceLE, Int.reduceLT, Nat.reduceSub, ↓reduceIte, reduceCtorEq, Nat.reduceEqDiff, Nat.reduceAdd, Nat.reduceMul, Nat.reduceLeDiff, Nat.reduceLT, Nat.reduceBEq, Nat.reduceBNe, implies_true, Xw.r0]
  refine T.regs ?_
  simp only [Zh, Zi, Int.reduceEq, Int.reduceNeg, Int.reduceLE, Int.reduceLT, Nat.reduceSub, ↓reduceIte, reduceCtorEq, Nat.reduceEqDiff, Nat.reduceAdd, Nat.reduceMul, Nat.reduceLeDiff, Nat.reduceLT, Nat.reduceBEq, Nat.reduceBNe, implies_true, Xw.r1]
  refine T.weak (Ent.litRow (m := 0) .str Tc rfl rfl rfl rfl (by decide)) ?_
  simp only [Zh, Zi, Int.reduceEq, Int.reduceNeg, Int.reduceLE, Int.reduceLT, Nat.reduceSub, ↓reduceIte, reduceCtorEq, Nat.reduceEqDiff, Nat.reduceAdd, Nat.reduceMul, Nat.reduceLeDiff, Nat.reduceLT, Nat.reduceBEq, Nat.reduceBNe, implies_true]
  repeat' (first | ((first | (with_reducible first | refine T.regs ?_ | refine T.cond ?_ | refine T.reg ?_ | refine T.ret ?_ | refine T.exit ?_ | refine T.skip ?_) | ((with_reducible first | refine T.dregs ?_ ?_ | refine T.dreg ?_ ?_ | refine T.dregts ?_ ?_ | refine T.dregt ?_ ?_ | refine T.danys ?_ ?_ | refine T.dany ?_ ?_); exact mix)); simp only [Zh, Zi, Int.reduceEq, Int.reduceNeg, Int.reduceLE, Int.reduceLT, Nat.reduceSub, ↓reduceIte, reduceCtorEq, Nat.reduceEqDiff, Nat.reduceAdd, Nat.reduceMul, Nat.reduceLeDiff, Nat.reduceLT, Nat.reduceBEq, Nat.reduceBNe, implies_true, Xw.rs, Xw.res]) | (with_reducible first | refine T.seq ?_ | refine T.block ?_ | assumption | refine And.intro ?_ ?_) | (intro h; first | (exfalso; omega) | exact (tf h ‹_›).elim | exact (tf ‹_› h).elim | skip))
end Go.Proofs.YtjochhncheheaaaGreatDoor
