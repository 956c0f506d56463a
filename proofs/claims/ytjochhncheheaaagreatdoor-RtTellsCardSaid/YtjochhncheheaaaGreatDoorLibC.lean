/-
  A part of the proofs of this seat's laws: a step on the way. It has no conditions of its own.
-/
import Derived.Test.YtjochhncheheaaaGreatDoorLibB
import Derived.Test.YtjochhncheheaaaGreatDoorShelfT
import Derived.Lib.AppendIntMem
import Derived.Test.YtjochhncheheaaaGreatDoorInstr
namespace Go.Proofs.YtjochhncheheaaaGreatDoor
open Go Go.RowKit Vc
set_option linter.unusedVariables false
set_option linter.unusedSimpArgs false
attribute [local irreducible] T Za Z2 Ent RdC RwC Xl Zc Zs
@[reducible] def BT : Nat := 62
@[reducible] def U8 : Nat := 5
abbrev Dc : Type := List (Kd.ty (.int .u8))
theorem Pl (l : Dc) (s : List UInt8) (h : l.length + s.length ≤ 140737488355328) :
    GC Tryz.prog 62 [.a (.loc 0 0), .a (.str s)] [(0, .cells 62 [.loc 0 0, .ref 1]), (1, .row 5 (.int .u8) l)] 2 [0] (.tup [.a (.int .i64 s.length), .a (.raw .nilIface)]) [(0, .cells 62 [.loc 0 0, .ref 2]), (2, .row 5 (.int .u8) (l ++ bytesI s))] 3 := by
  refine Zt.fn.gc (by simp) (by simp [Yo, Yr, Yp, Zw, Zp, Vc.S1.okN, At.okN, SV.okN, Res.okN, Res.outOk, Z1, Res.own, Value.oneCell']) fun w X fr => ?_
  repeat' (first | ((first | (with_reducible first | refine T.regs ?_ | refine T.cond ?_ | refine T.reg ?_ | refine T.ret ?_ | refine T.exit ?_ | refine T.skip ?_) | ((with_reducible first | refine T.dregs ?_ ?_ | refine T.dreg ?_ ?_ | refine T.dregts ?_ ?_ | refine T.dregt ?_ ?_ | refine T.danys ?_ ?_ | refine T.dany ?_ ?_); exact mix) | ((with_reducible refine Za.gc (Mz (E := 62) (E2 := 5) Th l) ?_ ?_); (focus ((simp [Zm]))))); simp only [Zh, Zi, Int.reduceEq, Int.reduceNeg, Int.reduceLE, Int.reduceLT, Nat.reduceSub, ↓reduceIte, reduceCtorEq, Nat.reduceEqDiff, Nat.reduceAdd, Nat.reduceMul, Nat.reduceLeDiff, Nat.reduceLT, Nat.reduceBEq, Nat.reduceBNe, implies_true, Zt.rs, Zt.res]) | (with_reducible first | refine T.seq ?_ | refine T.block ?_ | assumption | refine And.intro ?_ ?_) | (intro h; first | (exfalso; omega) | exact (tf h ‹_›).elim | exact (tf ‹_› h).elim | skip))
  all_goals first | omega | skip
theorem Gk (s : List UInt8) (h : s.length ≤ 140737488355328) :
    GC Tryz.prog 62 [.a (.loc 0 0), .a (.str s)] [(0, .cells 62 [.raw (.pointer none), .raw (.slice none 0 0)])] 1 [0] (.tup [.a (.int .i64 s.length), .a (.raw .nilIface)]) [(0, .cells 62 [.loc 0 0, .ref 1]), (1, .row 5 (.int .u8) (bytesI s))] 2 := by
  refine Zt.fn.gc (by simp) (by simp [Yo, Yr, Yp, Zw, Zp, Vc.S1.okN, At.okN, SV.okN, Res.okN, Res.outOk, Z1, Res.own, Value.oneCell']) fun w X fr => ?_
  repeat' (first | ((first | (with_reducible first | refine T.regs ?_ | refine T.cond ?_ | refine T.reg ?_ | refine T.ret ?_ | refine T.exit ?_ | refine T.skip ?_) | ((with_reducible first | refine T.dregs ?_ ?_ | refine T.dreg ?_ ?_ | refine T.dregts ?_ ?_ | refine T.dregt ?_ ?_ | refine T.danys ?_ ?_ | refine T.dany ?_ ?_); exact mix) | ((with_reducible refine Za.gc (Nl Sy) ?_ ?_); (focus ((simp [Zm]))))); simp only [Zh, Zi, Int.reduceEq, Int.reduceNeg, Int.reduceLE, Int.reduceLT, Nat.reduceSub, ↓reduceIte, reduceCtorEq, Nat.reduceEqDiff, Nat.reduceAdd, Nat.reduceMul, Nat.reduceLeDiff, Nat.reduceLT, Nat.reduceBEq, Nat.reduceBNe, implies_true, Zt.rs, Zt.res]) | (with_reducible first | refine T.seq ?_ | refine T.block ?_ | assumption | refine And.intro ?_ ?_) | (intro h; first | (exfalso; omega) | exact (tf h ‹_›).elim | exact (tf ‹_› h).elim | skip))
  all_goals first | omega | skip
theorem Mf (l : Dc) (c : Int) (h : l.length + 1 ≤ 140737488355328) :
    GC Tryz.prog 61 [.a (.loc 0 0), .a (.int .u8 c)] [(0, .cells 62 [.loc 0 0, .ref 1]), (1, .row 5 (.int .u8) l)] 2 [0] (.one (.a (.raw .nilIface))) [(0, .cells 62 [.loc 0 0, .ref 2]), (2, .row 5 (.int .u8) (l ++ [c]))] 3 := by
  refine Z3.fn.gc (by simp) (by simp [Yo, Yr, Yp, Zw, Zp, Vc.S1.okN, At.okN, SV.okN, Res.okN, Res.outOk, Z1, Res.own, Value.oneCell']) fun w X fr => ?_
  repeat' (first | ((first | (with_reducible first | refine T.regs ?_ | refine T.cond ?_ | refine T.reg ?_ | refine T.ret ?_ | refine T.exit ?_ | refine T.skip ?_) | ((with_reducible first | refine T.dregs ?_ ?_ | refine T.dreg ?_ ?_ | refine T.dregts ?_ ?_ | refine T.dregt ?_ ?_ | refine T.danys ?_ ?_ | refine T.dany ?_ ?_); exact mix) | ((with_reducible refine Za.gc (Mz (E := 62) (E2 := 5) Th l) ?_ ?_); (focus ((simp [Zm]))))); simp only [Zh, Zi, Int.reduceEq, Int.reduceNeg, Int.reduceLE, Int.reduceLT, Nat.reduceSub, ↓reduceIte, reduceCtorEq, Nat.reduceEqDiff, Nat.reduceAdd, Nat.reduceMul, Nat.reduceLeDiff, Nat.reduceLT, Nat.reduceBEq, Nat.reduceBNe, implies_true, Z3.rs, Z3.res]) | (with_reducible first | refine T.seq ?_ | refine T.block ?_ | assumption | refine And.intro ?_ ?_) | (intro h; first | (exfalso; omega) | exact (tf h ‹_›).elim | exact (tf ‹_› h).elim | skip))
  all_goals first | omega | skip
theorem Ol (c : Int) :
    GC Tryz.prog 61 [.a (.loc 0 0), .a (.int .u8 c)] [(0, .cells 62 [.raw (.pointer none), .raw (.slice none 0 0)])] 1 [0] (.one (.a (.raw .nilIface))) [(0, .cells 62 [.loc 0 0, .ref 1]), (1, .row 5 (.int .u8) [c])] 2 := by
  refine Z3.fn.gc (by simp) (by simp [Yo, Yr, Yp, Zw, Zp, Vc.S1.okN, At.okN, SV.okN, Res.okN, Res.outOk, Z1, Res.own, Value.oneCell']) fun w X fr => ?_
  repeat' (first | ((first | (with_reducible first | refine T.regs ?_ | refine T.cond ?_ | refine T.reg ?_ | refine T.ret ?_ | refine T.exit ?_ | refine T.skip ?_) | ((with_reducible first | refine T.dregs ?_ ?_ | refine T.dreg ?_ ?_ | refine T.dregts ?_ ?_ | refine T.dregt ?_ ?_ | refine T.danys ?_ ?_ | refine T.dany ?_ ?_); exact mix) | ((with_reducible refine Za.gc (Nl Sy) ?_ ?_); (focus ((simp [Zm]))))); simp only [Zh, Zi, Int.reduceEq, Int.reduceNeg, Int.reduceLE, Int.reduceLT, Nat.reduceSub, ↓reduceIte, reduceCtorEq, Nat.reduceEqDiff, Nat.reduceAdd, Nat.reduceMul, Nat.reduceLeDiff, Nat.reduceLT, Nat.reduceBEq, Nat.reduceBNe, implies_true, Z3.rs, Z3.res]) | (with_reducible first | refine T.seq ?_ | refine T.block ?_ | assumption | refine And.intro ?_ ?_) | (intro h; first | (exfalso; omega) | exact (tf h ‹_›).elim | exact (tf ‹_› h).elim | skip))
  all_goals first | omega | skip
theorem N8 (a b : List UInt8) : bytesI a ++ bytesI b = bytesI (a ++ b) := by simp [bytesI]
theorem Si (a : List UInt8) : (bytesI a).length = a.length := by simp [bytesI]
theorem P9 (a : List UInt8) (c : UInt8) : bytesI a ++ [((c.toNat : Nat) : Int)] = bytesI (a ++ [c]) := by simp [bytesI]
theorem WriteString_b (a s : List UInt8) (h : a.length + s.length ≤ 140737488355328) :
    GC Tryz.prog 62 [.a (.loc 0 0), .a (.str s)] [(0, .cells 62 [.loc 0 0, .ref 1]), (1, .row 5 (.int .u8) (bytesI a))] 2 [0] (.tup [.a (.int .i64 s.length), .a (.raw .nilIface)]) [(0, .cells 62 [.loc 0 0, .ref 2]), (2, .row 5 (.int .u8) (bytesI (a ++ s)))] 3 := by
  rw [← N8]; exact Pl (bytesI a) s (by rw [Si]; exact h)
theorem WriteByte_b (a : List UInt8) (c : UInt8) (h : a.length + 1 ≤ 140737488355328) :
    GC Tryz.prog 61 [.a (.loc 0 0), .a (.int .u8 ((c.toNat : Nat) : Int))] [(0, .cells 62 [.loc 0 0, .ref 1]), (1, .row 5 (.int .u8) (bytesI a))] 2 [0] (.one (.a (.raw .nilIface))) [(0, .cells 62 [.loc 0 0, .ref 2]), (2, .row 5 (.int .u8) (bytesI (a ++ [c])))] 3 := by
  rw [← P9]; exact Mf (bytesI a) _ (by rw [Si]; exact h)
theorem WriteByte_n (c : UInt8) : GC Tryz.prog 61 [.a (.loc 0 0), .a (.int .u8 ((c.toNat : Nat) : Int))] [(0, .cells 62 [.raw (.pointer none), .raw (.slice none 0 0)])] 1 [0] (.one (.a (.raw .nilIface))) [(0, .cells 62 [.loc 0 0, .ref 1]), (1, .row 5 (.int .u8) (bytesI [c]))] 2 := Ol _
theorem BString_used (l : List UInt8) (h : l ≠ []) : GC Tryz.prog 19 [.a (.loc 0 0)] [(0, .cells 62 [.loc 0 0, .ref 1]), (1, .row 5 (.int .u8) (bytesI l))] 2 [] (.one (.a (.str l))) [] 2 := F5 Q8 l h
theorem BString_fresh : GC Tryz.prog 19 [.a (.loc 0 0)] [(0, .cells 62 [.raw (.pointer none), .raw (.slice none 0 0)])] 1 [] (.one (.a (.str []))) [] 1 := Fo Q2
@[reducible] def Y7 (G : Nat) (H : Nat → Option Obj) : Prop := ∀ w X, X3 G H w X → Lib.TabIs Tryz.prog w "internal/strconv.uint64pow10" .u64 Lib.pow10Tab
theorem Et (G : Nat) (H : Nat → Option Obj) (hH : Y7 G H) (n : Int) (h0 : 0 ≤ n) (h1 : n ≤ 65535) :
    GCp G H Tryz.prog 144 [.a (.int .i64 n)] [] 0 [] (.one (.a (.str (Lib.itoa n)))) [] 0 :=
  GCp.plain (by simp [S1.bd, At.bd]) (by simp [SV.bd, S1.bd, At.bd]) (by simp [Yo, Yr, Yp, Zw, Zp, Vc.S1.okN, At.okN, SV.okN, Res.okN, Res.outOk, Z1, Res.own, Value.oneCell']) fun w hg => (Tryz.strconv_Itoa n (by omega) (by omega) w (hH w _ hg)).mono fun e w' ⟨he, k, os, hw⟩ => ⟨he, hw ▸ Lib.below_grow _ w (Nat.le_refl _) k os⟩
end Go.Proofs.YtjochhncheheaaaGreatDoor
