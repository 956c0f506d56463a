/-
  A part of the proofs of this seat's laws: a step on the way. It has no conditions of its own.
-/
import Derived.Test.YtjochhncheheaaaGreatDoorRtE
namespace Go.Proofs.YtjochhncheheaaaGreatDoor
open Go Go.RowKit Vc
set_option linter.unusedVariables false
set_option linter.unusedSimpArgs false
attribute [local irreducible] T Za Z2 Ent RdC RwC Xl Zc Zs
def rep (n : Nat) (f : Nat → List (List UInt8)) : List UInt8 := (List.range n).flatMap fun i => putS (f i)
theorem Y0 (k : Nat) (f : Nat → List (List UInt8)) : rep (k + 1) f = rep k f ++ putS (f k) := by simp [rep, List.range_succ]
theorem Wm (f : Nat → List (List UInt8)) {k n : Nat} (h : k ≤ n) : (rep k f).length ≤ (rep n f).length := by
  induction n with
  | zero => have : k = 0 := by omega
            rw [this]; exact Nat.le_refl _
  | succ n ih =>
    rcases Nat.lt_or_ge n k with h1 | h1
    · have : k = n + 1 := by omega
      rw [this]; exact Nat.le_refl _
    · have := ih h1
      rw [Y0]; simp only [List.length_append]; omega
theorem Rr {a b : List UInt8} (ha : a.length ≤ 100) (hb : b.length ≤ 100) (i : Int) : (Xu a b i).length ≤ 100 := by unfold Xu; split <;> assumption
def T3 (k : Int) : List UInt8 := putS [sayS [108, 100, 105, 32, 114, 50, 44, 32, 37, 100] [k], [97, 100, 100, 32, 114, 55, 44, 32, 114, 50], [114, 101, 116]]
set_option maxHeartbeats 4000000 in
theorem S8 {G : Nat} {H : Nat → Option Obj} (hM : Xh G H) (hH : Y7 G H) (n : Int) (k : Int) (hk : 0 ≤ k ∧ k ≤ 65535) (acc : List UInt8) (hb : acc.length + (T3 k).length ≤ 100000) :
    GCp G H Tryz.prog 97 ([.a (.loc 0 0)] ++ [.a (.int .i64 k)]) [(0, .cells 64 [.loc 0 0, .ref 1, .int .i64 n]), (1, .row 5 (.int .u8) (bytesI (acc)))] 2 [0] (.tup []) [(0, .cells 64 [.loc 0 0, .ref 2, .int .i64 n]), (2, .row 5 (.int .u8) (bytesI (acc ++ T3 k)))] 3 := by
  unfold T3 at *
  have hP := Zv n acc [sayS [108, 100, 105, 32, 114, 50, 44, 32, 37, 100] [k], [97, 100, 100, 32, 114, 55, 44, 32, 114, 50], [114, 101, 116]] (by omega) (by simp)
  have hS0 := Ys hM hH [108, 100, 105, 32, 114, 50, 44, 32, 37, 100] [k] (by simp; omega) (by simp) (by simp)
  generalize sayS [108, 100, 105, 32, 114, 50, 44, 32, 37, 100] [k] = z0 at *
  refine Wq.fn.gcp (by simp) (by simp [Yo, Yr, Yp, Zw, Zp, Vc.S1.okN, At.okN, SV.okN, Res.okN, Res.outOk, Z1, Res.own, Value.oneCell']) fun w X fr hglob => ?_
  repeat' (first | ((first | (with_reducible first | refine T.regs ?_ | refine T.cond ?_ | refine T.reg ?_ | refine T.ret ?_ | refine T.exit ?_ | refine T.skip ?_) | ((with_reducible first | refine T.dregs ?_ ?_ | refine T.dreg ?_ ?_ | refine T.dregts ?_ ?_ | refine T.dregt ?_ ?_ | refine T.danys ?_ ?_ | refine T.dany ?_ ?_); exact mix) | ((with_reducible refine Za.gcp hglob (hS0) ?_ ?_); (focus ((simp [Zm]); done))) | ((with_reducible refine Za.gc (hP) ?_ ?_); (focus ((simp [Zm]); done)))); simp only [Zh, Zi, Int.reduceEq, Int.reduceNeg, Int.reduceLE, Int.reduceLT, Nat.reduceSub, ↓reduceIte, reduceCtorEq, Nat.reduceEqDiff, Nat.reduceAdd, Nat.reduceMul, Nat.reduceLeDiff, Nat.reduceLT, Nat.reduceBEq, Nat.reduceBNe, implies_true, Wq.rs, Wq.res]) | (with_reducible first | refine T.seq ?_ | refine T.block ?_ | assumption | refine And.intro ?_ ?_) | (intro h; first | (exfalso; omega) | exact (tf h ‹_›).elim | exact (tf ‹_› h).elim | skip))
  all_goals first | omega | (simp only [List.length_cons, List.length_nil]; omega) | skip
def Sb : List UInt8 := putS [[108, 100, 105, 32, 114, 52, 44, 32, 49], [115, 117, 98, 32, 114, 51, 44, 32, 114, 52], [106, 110, 122, 32, 46, 108, 111, 111, 112]]
set_option maxHeartbeats 4000000 in
theorem Py {G : Nat} {H : Nat → Option Obj} (hM : Xh G H) (hH : Y7 G H) (n : Int) (acc : List UInt8) (hb : acc.length + (Sb ).length ≤ 100000) :
    GCp G H Tryz.prog 96 ([.a (.loc 0 0)] ++ []) [(0, .cells 64 [.loc 0 0, .ref 1, .int .i64 n]), (1, .row 5 (.int .u8) (bytesI (acc)))] 2 [0] (.tup []) [(0, .cells 64 [.loc 0 0, .ref 2, .int .i64 n]), (2, .row 5 (.int .u8) (bytesI (acc ++ Sb )))] 3 := by
  unfold Sb at *
  have hP := Zv n acc [[108, 100, 105, 32, 114, 52, 44, 32, 49], [115, 117, 98, 32, 114, 51, 44, 32, 114, 52], [106, 110, 122, 32, 46, 108, 111, 111, 112]] (by omega) (by simp)
  refine Wk.fn.gcp (by simp) (by simp [Yo, Yr, Yp, Zw, Zp, Vc.S1.okN, At.okN, SV.okN, Res.okN, Res.outOk, Z1, Res.own, Value.oneCell']) fun w X fr hglob => ?_
  repeat' (first | ((first | (with_reducible first | refine T.regs ?_ | refine T.cond ?_ | refine T.reg ?_ | refine T.ret ?_ | refine T.exit ?_ | refine T.skip ?_) | ((with_reducible first | refine T.dregs ?_ ?_ | refine T.dreg ?_ ?_ | refine T.dregts ?_ ?_ | refine T.dregt ?_ ?_ | refine T.danys ?_ ?_ | refine T.dany ?_ ?_); exact mix) | ((with_reducible refine Za.gc (hP) ?_ ?_); (focus ((simp [Zm]); done)))); simp only [Zh, Zi, Int.reduceEq, Int.reduceNeg, Int.reduceLE, Int.reduceLT, Nat.reduceSub, ↓reduceIte, reduceCtorEq, Nat.reduceEqDiff, Nat.reduceAdd, Nat.reduceMul, Nat.reduceLeDiff, Nat.reduceLT, Nat.reduceBEq, Nat.reduceBNe, implies_true, Wk.rs, Wk.res]) | (with_reducible first | refine T.seq ?_ | refine T.block ?_ | assumption | refine And.intro ?_ ?_) | (intro h; first | (exfalso; omega) | exact (tf h ‹_›).elim | exact (tf ‹_› h).elim | skip))
  all_goals first | omega | (simp only [List.length_cons, List.length_nil]; omega) | skip
def Xf (reg : Int) (word : Int) (lb : List UInt8) : List UInt8 := putS [sayS [108, 100, 32, 114, 50, 44, 32, 114, 37, 100, 44, 32, 37, 100] [reg, word], [115, 104, 108, 32, 114, 50], [106, 110, 99, 32] ++ lb]
set_option maxHeartbeats 4000000 in
theorem Ww {G : Nat} {H : Nat → Option Obj} (hM : Xh G H) (hH : Y7 G H) (n : Int) (reg : Int) (word : Int) (lb : List UInt8) (h1 : 0 ≤ reg ∧ reg ≤ 65535) (h2 : 0 ≤ word ∧ word ≤ 65535) (h3 : lb.length ≤ 100) (acc : List UInt8) (hb : acc.length + (Xf reg word lb).length ≤ 100000) :
    GCp G H Tryz.prog 98 ([.a (.loc 0 0)] ++ [.a (.int .i64 reg), .a (.int .i64 word), .a (.str lb)]) [(0, .cells 64 [.loc 0 0, .ref 1, .int .i64 n]), (1, .row 5 (.int .u8) (bytesI (acc)))] 2 [0] (.tup []) [(0, .cells 64 [.loc 0 0, .ref 2, .int .i64 n]), (2, .row 5 (.int .u8) (bytesI (acc ++ Xf reg word lb)))] 3 := by
  unfold Xf at *
  have hP := Zv n acc [sayS [108, 100, 32, 114, 50, 44, 32, 114, 37, 100, 44, 32, 37, 100] [reg, word], [115, 104, 108, 32, 114, 50], [106, 110, 99, 32] ++ lb] (by omega) (by simp)
  have hS0 := Ys hM hH [108, 100, 32, 114, 50, 44, 32, 114, 37, 100, 44, 32, 37, 100] [reg, word] (by simp; omega) (by simp) (by simp)
  generalize sayS [108, 100, 32, 114, 50, 44, 32, 114, 37, 100, 44, 32, 37, 100] [reg, word] = z0 at *
  refine Xz.fn.gcp (by simp) (by simp [Yo, Yr, Yp, Zw, Zp, Vc.S1.okN, At.okN, SV.okN, Res.okN, Res.outOk, Z1, Res.own, Value.oneCell']) fun w X fr hglob => ?_
  repeat' (first | ((first | (with_reducible first | refine T.regs ?_ | refine T.cond ?_ | refine T.reg ?_ | refine T.ret ?_ | refine T.exit ?_ | refine T.skip ?_) | ((with_reducible first | refine T.dregs ?_ ?_ | refine T.dreg ?_ ?_ | refine T.dregts ?_ ?_ | refine T.dregt ?_ ?_ | refine T.danys ?_ ?_ | refine T.dany ?_ ?_); exact mix) | ((with_reducible refine Za.gcp hglob (hS0) ?_ ?_); (focus ((simp [Zm]); done))) | ((with_reducible refine Za.gc (hP) ?_ ?_); (focus ((simp [Zm]); done)))); simp only [Zh, Zi, Int.reduceEq, Int.reduceNeg, Int.reduceLE, Int.reduceLT, Nat.reduceSub, ↓reduceIte, reduceCtorEq, Nat.reduceEqDiff, Nat.reduceAdd, Nat.reduceMul, Nat.reduceLeDiff, Nat.reduceLT, Nat.reduceBEq, Nat.reduceBNe, implies_true, Xz.rs, Xz.res]) | (with_reducible first | refine T.seq ?_ | refine T.block ?_ | assumption | refine And.intro ?_ ?_) | (intro h; first | (exfalso; omega) | exact (tf h ‹_›).elim | exact (tf ‹_› h).elim | skip))
  all_goals first | omega | (simp only [List.length_cons, List.length_nil]; omega) | skip
def Vw (n : Nat) (reg : Int) (i : Nat) : List (List UInt8) := [sayS [108, 100, 32, 114, 50, 44, 32, 114, 37, 100, 44, 32, 37, 100] [reg, (n : Int) - 1 - (i : Int)], [112, 117, 115, 104, 32, 114, 50]]
def Vs (n : Nat) (reg : Int) : List UInt8 := rep n (Vw n reg)
set_option maxHeartbeats 8000000 in
set_option maxRecDepth 100000 in
theorem Sl {G : Nat} {H : Nat → Option Obj} (hM : Xh G H) (hH : Y7 G H) (n : Nat) (hn : n ≤ 100) (reg : Int) (h1 : 0 ≤ reg ∧ reg ≤ 1000) (acc : List UInt8) (hb : acc.length + (Vs n reg).length ≤ 100000) :
    GCp G H Tryz.prog 91 ([.a (.loc 0 0)] ++ [.a (.int .i64 reg)]) [(0, .cells 64 [.loc 0 0, .ref 1, .int .i64 (n : Int)]), (1, .row 5 (.int .u8) (bytesI (acc)))] 2 [0] (.tup []) [(0, .cells 64 [.loc 0 0, .ref 2, .int .i64 (n : Int)]), (2, .row 5 (.int .u8) (bytesI (acc ++ Vs n reg)))] 3 := by
  unfold Vs at *
  refine Yw.fn.gcp (by simp) (by simp [Yo, Yr, Yp, Zw, Zp, Vc.S1.okN, At.okN, SV.okN, Res.okN, Res.outOk, Z1, Res.own, Value.oneCell']) fun w X fr hglob => ?_
  repeat' (first | ((first | (with_reducible first | refine T.regs ?_ | refine T.cond ?_ | refine T.reg ?_ | refine T.ret ?_ | refine T.exit ?_ | refine T.skip ?_) | ((with_reducible first | refine T.dregs ?_ ?_ | refine T.dreg ?_ ?_ | refine T.dregts ?_ ?_ | refine T.dregt ?_ ?_ | refine T.danys ?_ ?_ | refine T.dany ?_ ?_); exact mix)); simp only [Zh, Zi, Int.reduceEq, Int.reduceNeg, Int.reduceLE, Int.reduceLT, Nat.reduceSub, ↓reduceIte, reduceCtorEq, Nat.reduceEqDiff, Nat.reduceAdd, Nat.reduceMul, Nat.reduceLeDiff, Nat.reduceLT, Nat.reduceBEq, Nat.reduceBNe, implies_true, Yw.rs, Yw.res]) | (with_reducible first | refine T.seq ?_ | refine T.block ?_ | assumption | refine And.intro ?_ ?_) | (intro h; first | (exfalso; omega) | exact (tf h ‹_›).elim | exact (tf ‹_› h).elim | skip))
  all_goals first | omega | skip
  refine T.loop (ι := { k : Nat // k ≤ n })
    (fun x => ⟨[(9, .one (.a (.int .i64 (x.1 : Int)))), (8, .one (.a (.int .i64 (n : Int)))), (0, .one (.a (.loc 0 0))), (1, .one (.a (.int .i64 reg))), (1000000, .one (.a (.ref 0)))],
      [(0, .cells 64 [.loc 0 0, .ref 1, .int .i64 (n : Int)]), (1, .row 5 (.int .u8) (bytesI (acc ++ rep x.1 (Vw n reg))))], 2⟩) (fun x => n - x.1) ⟨0, by simp⟩ (Ent.mk1 (id) (by simp [Z7, rep])) ?_
  rintro ⟨k, hk⟩
  simp only
  by_cases hlt : k < n
  · have hmono := Wm (Vw n reg) (show k + 1 ≤ n from hlt)
    rw [Y0] at hmono
    simp only [List.length_append] at hmono
    have hac : (acc ++ rep k (Vw n reg)).length = acc.length + (rep k (Vw n reg)).length := by simp
    have ha2 : acc ++ rep (k + 1) (Vw n reg) = (acc ++ rep k (Vw n reg)) ++ putS (Vw n reg k) := by rw [Y0, List.append_assoc]
    have hw : IntKind.i64.wrap ((k : Int) + 1) = ((k + 1 : Nat) : Int) := Z4 (by omega)
    generalize hacc : acc ++ rep k (Vw n reg) = a at *
    generalize rep k (Vw n reg) = pre at *
    have hBk : Vw n reg k = [sayS [108, 100, 32, 114, 50, 44, 32, 114, 37, 100, 44, 32, 37, 100] [reg, (n : Int) - 1 - (k : Int)], [112, 117, 115, 104, 32, 114, 50]] := rfl
    rw [hBk] at hmono ha2
    have hw1 : IntKind.i64.wrap ((n : Int) - 1) = (n : Int) - 1 := Ya (by omega) (by omega)
    have hw2 : IntKind.i64.wrap ((n : Int) - 1 - (k : Int)) = (n : Int) - 1 - (k : Int) := Ya (by omega) (by omega)
    have hS0 := Ys hM hH [108, 100, 32, 114, 50, 44, 32, 114, 37, 100, 44, 32, 37, 100] [reg, (n : Int) - 1 - (k : Int)] (by simp; omega) (by simp) (by simp)
    generalize sayS [108, 100, 32, 114, 50, 44, 32, 114, 37, 100, 44, 32, 37, 100] [reg, (n : Int) - 1 - (k : Int)] = z0 at *
    have hP0 := Zv (n : Int) (a) [z0, [112, 117, 115, 104, 32, 114, 50]] (by omega) (by simp)
    repeat' (first | ((first | (with_reducible first | refine T.regs ?_ | refine T.cond ?_ | refine T.reg ?_ | refine T.ret ?_ | refine T.exit ?_ | refine T.skip ?_) | ((with_reducible first | refine T.dregs ?_ ?_ | refine T.dreg ?_ ?_ | refine T.dregts ?_ ?_ | refine T.dregt ?_ ?_ | refine T.danys ?_ ?_ | refine T.dany ?_ ?_); exact mix) | ((with_reducible refine Za.gcp hglob (hS0) ?_ ?_); (focus ((simp [Zm]); done))) | ((with_reducible refine Za.gc (hP0) ?_ ?_); (focus ((simp [Zm]); done))) | ((with_reducible first | apply Za.rd (Xx _ _ _) | apply Zc.rd (Xx _ _ _)); (focus ((repeat' (first | exact rfl | exact trivial | refine And.intro ?_ ?_ | (simp [SV.bd, Vc.S1.bd, At.bd, Zq, Zr, Ins.cells, Ln.cells]; done))); done)))); simp only [Zh, Zi, Int.reduceEq, Int.reduceNeg, Int.reduceLE, Int.reduceLT, Nat.reduceSub, ↓reduceIte, reduceCtorEq, Nat.reduceEqDiff, Nat.reduceAdd, Nat.reduceMul, Nat.reduceLeDiff, Nat.reduceLT, Nat.reduceBEq, Nat.reduceBNe, implies_true, Yw.rs, Yw.res, hw1, hw2, hw, Int.ofNat_lt]) | (with_reducible first | refine T.seq ?_ | refine T.block ?_ | assumption | refine And.intro ?_ ?_) | (intro h; first | (exfalso; omega) | exact (tf h ‹_›).elim | exact (tf ‹_› h).elim | skip))
    all_goals first | omega | (simp only [List.length_append, List.length_cons, List.length_nil]; omega) | skip
    exact ⟨⟨k + 1, hlt⟩, (Ent.mk1 (fun n => if n = 1 then 4 else n) (by simp [Z7, ha2, hw])), by simp only; omega⟩
  · have hk2 : k = n := by omega
    subst hk2
    repeat' (first | ((first | (with_reducible first | refine T.regs ?_ | refine T.cond ?_ | refine T.reg ?_ | refine T.ret ?_ | refine T.exit ?_ | refine T.skip ?_) | ((with_reducible first | refine T.dregs ?_ ?_ | refine T.dreg ?_ ?_ | refine T.dregts ?_ ?_ | refine T.dregt ?_ ?_ | refine T.danys ?_ ?_ | refine T.dany ?_ ?_); exact mix)); simp only [Zh, Zi, Int.reduceEq, Int.reduceNeg, Int.reduceLE, Int.reduceLT, Nat.reduceSub, ↓reduceIte, reduceCtorEq, Nat.reduceEqDiff, Nat.reduceAdd, Nat.reduceMul, Nat.reduceLeDiff, Nat.reduceLT, Nat.reduceBEq, Nat.reduceBNe, implies_true, Yw.rs, Yw.res, Int.ofNat_lt]) | (with_reducible first | refine T.seq ?_ | refine T.block ?_ | assumption | refine And.intro ?_ ?_) | (intro h; first | (exfalso; omega) | exact (tf h ‹_›).elim | exact (tf ‹_› h).elim | skip))
    all_goals first | omega | skip
def Vz (n : Nat) (reg : Int) (i : Nat) : List (List UInt8) := [[108, 100, 105, 32, 114, 52, 44, 32, 48], sayS [108, 100, 32, 114, 50, 44, 32, 114, 37, 100, 44, 32, 37, 100] [reg, (i : Int)], Xu [115, 117, 98] [115, 98, 99] (i : Int) ++ [32, 114, 52, 44, 32, 114, 50], sayS [115, 116, 32, 114, 37, 100, 44, 32, 114, 52, 44, 32, 37, 100] [reg, (i : Int)]]
def Wp (n : Nat) (reg : Int) : List UInt8 := rep n (Vz n reg)
set_option maxHeartbeats 8000000 in
set_option maxRecDepth 100000 in
theorem Ua {G : Nat} {H : Nat → Option Obj} (hM : Xh G H) (hH : Y7 G H) (n : Nat) (hn : n ≤ 100) (reg : Int) (h1 : 0 ≤ reg ∧ reg ≤ 1000) (acc : List UInt8) (hb : acc.length + (Wp n reg).length ≤ 100000) :
    GCp G H Tryz.prog 99 ([.a (.loc 0 0)] ++ [.a (.int .i64 reg)]) [(0, .cells 64 [.loc 0 0, .ref 1, .int .i64 (n : Int)]), (1, .row 5 (.int .u8) (bytesI (acc)))] 2 [0] (.tup []) [(0, .cells 64 [.loc 0 0, .ref 2, .int .i64 (n : Int)]), (2, .row 5 (.int .u8) (bytesI (acc ++ Wp n reg)))] 3 := by
  unfold Wp at *
  refine Yx.fn.gcp (by simp) (by simp [Yo, Yr, Yp, Zw, Zp, Vc.S1.okN, At.okN, SV.okN, Res.okN, Res.outOk, Z1, Res.own, Value.oneCell']) fun w X fr hglob => ?_
  repeat' (first | ((first | (with_reducible first | refine T.regs ?_ | refine T.cond ?_ | refine T.reg ?_ | refine T.ret ?_ | refine T.exit ?_ | refine T.skip ?_) | ((with_reducible first | refine T.dregs ?_ ?_ | refine T.dreg ?_ ?_ | refine T.dregts ?_ ?_ | refine T.dregt ?_ ?_ | refine T.danys ?_ ?_ | refine T.dany ?_ ?_); exact mix)); simp only [Zh, Zi, Int.reduceEq, Int.reduceNeg, Int.reduceLE, Int.reduceLT, Nat.reduceSub, ↓reduceIte, reduceCtorEq, Nat.reduceEqDiff, Nat.reduceAdd, Nat.reduceMul, Nat.reduceLeDiff, Nat.reduceLT, Nat.reduceBEq, Nat.reduceBNe, implies_true, Yx.rs, Yx.res]) | (with_reducible first | refine T.seq ?_ | refine T.block ?_ | assumption | refine And.intro ?_ ?_) | (intro h; first | (exfalso; omega) | exact (tf h ‹_›).elim | exact (tf ‹_› h).elim | skip))
  all_goals first | omega | skip
  refine T.loop (ι := { k : Nat // k ≤ n })
    (fun x => ⟨[(9, .one (.a (.int .i64 (x.1 : Int)))), (8, .one (.a (.int .i64 (n : Int)))), (0, .one (.a (.loc 0 0))), (1, .one (.a (.int .i64 reg))), (1000000, .one (.a (.ref 0)))],
      [(0, .cells 64 [.loc 0 0, .ref 1, .int .i64 (n : Int)]), (1, .row 5 (.int .u8) (bytesI (acc ++ rep x.1 (Vz n reg))))], 2⟩) (fun x => n - x.1) ⟨0, by simp⟩ (Ent.mk1 (id) (by simp [Z7, rep])) ?_
  rintro ⟨k, hk⟩
  simp only
  by_cases hlt : k < n
  · have hmono := Wm (Vz n reg) (show k + 1 ≤ n from hlt)
    rw [Y0] at hmono
    simp only [List.length_append] at hmono
    have hac : (acc ++ rep k (Vz n reg)).length = acc.length + (rep k (Vz n reg)).length := by simp
    have ha2 : acc ++ rep (k + 1) (Vz n reg) = (acc ++ rep k (Vz n reg)) ++ putS (Vz n reg k) := by rw [Y0, List.append_assoc]
    have hw : IntKind.i64.wrap ((k : Int) + 1) = ((k + 1 : Nat) : Int) := Z4 (by omega)
    generalize hacc : acc ++ rep k (Vz n reg) = a at *
    generalize rep k (Vz n reg) = pre at *
    have hBk : Vz n reg k = [[108, 100, 105, 32, 114, 52, 44, 32, 48], sayS [108, 100, 32, 114, 50, 44, 32, 114, 37, 100, 44, 32, 37, 100] [reg, (k : Int)], Xu [115, 117, 98] [115, 98, 99] (k : Int) ++ [32, 114, 52, 44, 32, 114, 50], sayS [115, 116, 32, 114, 37, 100, 44, 32, 114, 52, 44, 32, 37, 100] [reg, (k : Int)]] := rfl
    rw [hBk] at hmono ha2
    have hcl := Rr (a := [115, 117, 98]) (b := [115, 98, 99]) (by simp) (by simp) (k : Int)
    have hS0 := Ys hM hH [108, 100, 32, 114, 50, 44, 32, 114, 37, 100, 44, 32, 37, 100] [reg, (k : Int)] (by simp; omega) (by simp) (by simp)
    have hS1 := Ys hM hH [115, 116, 32, 114, 37, 100, 44, 32, 114, 52, 44, 32, 37, 100] [reg, (k : Int)] (by simp; omega) (by simp) (by simp)
    generalize sayS [108, 100, 32, 114, 50, 44, 32, 114, 37, 100, 44, 32, 37, 100] [reg, (k : Int)] = z0 at *
    generalize sayS [115, 116, 32, 114, 37, 100, 44, 32, 114, 52, 44, 32, 37, 100] [reg, (k : Int)] = z1 at *
    have hP0 := Zv (n : Int) (a) [[108, 100, 105, 32, 114, 52, 44, 32, 48], z0, Xu [115, 117, 98] [115, 98, 99] (k : Int) ++ [32, 114, 52, 44, 32, 114, 50], z1] (by omega) (by simp)
    repeat' (first | ((first | (with_reducible first | refine T.regs ?_ | refine T.cond ?_ | refine T.reg ?_ | refine T.ret ?_ | refine T.exit ?_ | refine T.skip ?_) | ((with_reducible first | refine T.dregs ?_ ?_ | refine T.dreg ?_ ?_ | refine T.dregts ?_ ?_ | refine T.dregt ?_ ?_ | refine T.danys ?_ ?_ | refine T.dany ?_ ?_); exact mix) | ((with_reducible refine Za.gcp hglob (hS0) ?_ ?_); (focus ((simp [Zm]); done))) | ((with_reducible refine Za.gcp hglob (hS1) ?_ ?_); (focus ((simp [Zm]); done))) | ((with_reducible refine Za.gc (hP0) ?_ ?_); (focus ((simp [Zm]); done))) | ((with_reducible first | apply Za.rd (Xx _ _ _) | apply Zc.rd (Xx _ _ _)); (focus ((repeat' (first | exact rfl | exact trivial | refine And.intro ?_ ?_ | (simp [SV.bd, Vc.S1.bd, At.bd, Zq, Zr, Ins.cells, Ln.cells]; done))); done)))); simp only [Zh, Zi, Int.reduceEq, Int.reduceNeg, Int.reduceLE, Int.reduceLT, Nat.reduceSub, ↓reduceIte, reduceCtorEq, Nat.reduceEqDiff, Nat.reduceAdd, Nat.reduceMul, Nat.reduceLeDiff, Nat.reduceLT, Nat.reduceBEq, Nat.reduceBNe, implies_true, Yx.rs, Yx.res, hw, Int.ofNat_lt]) | (with_reducible first | refine T.seq ?_ | refine T.block ?_ | assumption | refine And.intro ?_ ?_) | (intro h; first | (exfalso; omega) | exact (tf h ‹_›).elim | exact (tf ‹_› h).elim | skip))
    all_goals first | omega | (simp only [List.length_append, List.length_cons, List.length_nil]; omega) | skip
    exact ⟨⟨k + 1, hlt⟩, (Ent.mk1 (fun n => if n = 1 then 5 else n) (by simp [Z7, ha2, hw])), by simp only; omega⟩
  · have hk2 : k = n := by omega
    subst hk2
    repeat' (first | ((first | (with_reducible first | refine T.regs ?_ | refine T.cond ?_ | refine T.reg ?_ | refine T.ret ?_ | refine T.exit ?_ | refine T.skip ?_) | ((with_reducible first | refine T.dregs ?_ ?_ | refine T.dreg ?_ ?_ | refine T.dregts ?_ ?_ | refine T.dregt ?_ ?_ | refine T.danys ?_ ?_ | refine T.dany ?_ ?_); exact mix)); simp only [Zh, Zi, Int.reduceEq, Int.reduceNeg, Int.reduceLE, Int.reduceLT, Nat.reduceSub, ↓reduceIte, reduceCtorEq, Nat.reduceEqDiff, Nat.reduceAdd, Nat.reduceMul, Nat.reduceLeDiff, Nat.reduceLT, Nat.reduceBEq, Nat.reduceBNe, implies_true, Yx.rs, Yx.res, Int.ofNat_lt]) | (with_reducible first | refine T.seq ?_ | refine T.block ?_ | assumption | refine And.intro ?_ ?_) | (intro h; first | (exfalso; omega) | exact (tf h ‹_›).elim | exact (tf ‹_› h).elim | skip))
    all_goals first | omega | skip
def Rq (n : Nat) (reg : Int) (fst : List UInt8) (i : Nat) : List (List UInt8) := [sayS [108, 100, 32, 114, 50, 44, 32, 114, 37, 100, 44, 32, 37, 100] [reg, (n : Int) - 1 - (i : Int)], Xu fst [114, 111, 114] (i : Int) ++ [32, 114, 50], sayS [115, 116, 32, 114, 37, 100, 44, 32, 114, 50, 44, 32, 37, 100] [reg, (n : Int) - 1 - (i : Int)]]
def Q4 (n : Nat) (reg : Int) (fst : List UInt8) : List UInt8 := rep n (Rq n reg fst)
set_option maxHeartbeats 8000000 in
set_option maxRecDepth 100000 in
theorem O0 {G : Nat} {H : Nat → Option Obj} (hM : Xh G H) (hH : Y7 G H) (n : Nat) (hn : n ≤ 100) (reg : Int) (fst : List UInt8) (h1 : 0 ≤ reg ∧ reg ≤ 1000) (h2 : fst.length ≤ 100) (acc : List UInt8) (hb : acc.length + (Q4 n reg fst).length ≤ 100000) :
    GCp G H Tryz.prog 93 ([.a (.loc 0 0)] ++ [.a (.int .i64 reg), .a (.str fst)]) [(0, .cells 64 [.loc 0 0, .ref 1, .int .i64 (n : Int)]), (1, .row 5 (.int .u8) (bytesI (acc)))] 2 [0] (.tup []) [(0, .cells 64 [.loc 0 0, .ref 2, .int .i64 (n : Int)]), (2, .row 5 (.int .u8) (bytesI (acc ++ Q4 n reg fst)))] 3 := by
  unfold Q4 at *
  refine Xa.fn.gcp (by simp) (by simp [Yo, Yr, Yp, Zw, Zp, Vc.S1.okN, At.okN, SV.okN, Res.okN, Res.outOk, Z1, Res.own, Value.oneCell']) fun w X fr hglob => ?_
  repeat' (first | ((first | (with_reducible first | refine T.regs ?_ | refine T.cond ?_ | refine T.reg ?_ | refine T.ret ?_ | refine T.exit ?_ | refine T.skip ?_) | ((with_reducible first | refine T.dregs ?_ ?_ | refine T.dreg ?_ ?_ | refine T.dregts ?_ ?_ | refine T.dregt ?_ ?_ | refine T.danys ?_ ?_ | refine T.dany ?_ ?_); exact mix)); simp only [Zh, Zi, Int.reduceEq, Int.reduceNeg, Int.reduceLE, Int.reduceLT, Nat.reduceSub, ↓reduceIte, reduceCtorEq, Nat.reduceEqDiff, Nat.reduceAdd, Nat.reduceMul, Nat.reduceLeDiff, Nat.reduceLT, Nat.reduceBEq, Nat.reduceBNe, implies_true, Xa.rs, Xa.res]) | (with_reducible first | refine T.seq ?_ | refine T.block ?_ | assumption | refine And.intro ?_ ?_) | (intro h; first | (exfalso; omega) | exact (tf h ‹_›).elim | exact (tf ‹_› h).elim | skip))
  all_goals first | omega | skip
  refine T.loop (ι := { k : Nat // k ≤ n })
    (fun x => ⟨[(12, .one (.a (.int .i64 (x.1 : Int)))), (11, .one (.a (.int .i64 (n : Int)))), (0, .one (.a (.loc 0 0))), (1, .one (.a (.int .i64 reg))), (2, .one (.a (.str fst))), (1000000, .one (.a (.ref 0)))],
      [(0, .cells 64 [.loc 0 0, .ref 1, .int .i64 (n : Int)]), (1, .row 5 (.int .u8) (bytesI (acc ++ rep x.1 (Rq n reg fst))))], 2⟩) (fun x => n - x.1) ⟨0, by simp⟩ (Ent.mk1 (id) (by simp [Z7, rep])) ?_
  rintro ⟨k, hk⟩
  simp only
  by_cases hlt : k < n
  · have hmono := Wm (Rq n reg fst) (show k + 1 ≤ n from hlt)
    rw [Y0] at hmono
    simp only [List.length_append] at hmono
    have hac : (acc ++ rep k (Rq n reg fst)).length = acc.length + (rep k (Rq n reg fst)).length := by simp
    have ha2 : acc ++ rep (k + 1) (Rq n reg fst) = (acc ++ rep k (Rq n reg fst)) ++ putS (Rq n reg fst k) := by rw [Y0, List.append_assoc]
    have hw : IntKind.i64.wrap ((k : Int) + 1) = ((k + 1 : Nat) : Int) := Z4 (by omega)
    generalize hacc : acc ++ rep k (Rq n reg fst) = a at *
    generalize rep k (Rq n reg fst) = pre at *
    have hBk : Rq n reg fst k = [sayS [108, 100, 32, 114, 50, 44, 32, 114, 37, 100, 44, 32, 37, 100] [reg, (n : Int) - 1 - (k : Int)], Xu fst [114, 111, 114] (k : Int) ++ [32, 114, 50], sayS [115, 116, 32, 114, 37, 100, 44, 32, 114, 50, 44, 32, 37, 100] [reg, (n : Int) - 1 - (k : Int)]] := rfl
    rw [hBk] at hmono ha2
    have hw1 : IntKind.i64.wrap ((n : Int) - 1) = (n : Int) - 1 := Ya (by omega) (by omega)
    have hw2 : IntKind.i64.wrap ((n : Int) - 1 - (k : Int)) = (n : Int) - 1 - (k : Int) := Ya (by omega) (by omega)
    have hcl := Rr (b := [114, 111, 114]) h2 (by simp) (k : Int)
    have hS0 := Ys hM hH [108, 100, 32, 114, 50, 44, 32, 114, 37, 100, 44, 32, 37, 100] [reg, (n : Int) - 1 - (k : Int)] (by simp; omega) (by simp) (by simp)
    have hS1 := Ys hM hH [115, 116, 32, 114, 37, 100, 44, 32, 114, 50, 44, 32, 37, 100] [reg, (n : Int) - 1 - (k : Int)] (by simp; omega) (by simp) (by simp)
    generalize sayS [108, 100, 32, 114, 50, 44, 32, 114, 37, 100, 44, 32, 37, 100] [reg, (n : Int) - 1 - (k : Int)] = z0 at *
    generalize sayS [115, 116, 32, 114, 37, 100, 44, 32, 114, 50, 44, 32, 37, 100] [reg, (n : Int) - 1 - (k : Int)] = z1 at *
    have hP0 := Zv (n : Int) (a) [z0, Xu fst [114, 111, 114] (k : Int) ++ [32, 114, 50], z1] (by omega) (by simp)
    repeat' (first | ((first | (with_reducible first | refine T.regs ?_ | refine T.cond ?_ | refine T.reg ?_ | refine T.ret ?_ | refine T.exit ?_ | refine T.skip ?_) | ((with_reducible first | refine T.dregs ?_ ?_ | refine T.dreg ?_ ?_ | refine T.dregts ?_ ?_ | refine T.dregt ?_ ?_ | refine T.danys ?_ ?_ | refine T.dany ?_ ?_); exact mix) | ((with_reducible refine Za.gcp hglob (hS0) ?_ ?_); (focus ((simp [Zm]); done))) | ((with_reducible refine Za.gcp hglob (hS1) ?_ ?_); (focus ((simp [Zm]); done))) | ((with_reducible refine Za.gc (hP0) ?_ ?_); (focus ((simp [Zm]); done))) | ((with_reducible first | apply Za.rd (Xx _ _ _) | apply Zc.rd (Xx _ _ _)); (focus ((repeat' (first | exact rfl | exact trivial | refine And.intro ?_ ?_ | (simp [SV.bd, Vc.S1.bd, At.bd, Zq, Zr, Ins.cells, Ln.cells]; done))); done)))); simp only [Zh, Zi, Int.reduceEq, Int.reduceNeg, Int.reduceLE, Int.reduceLT, Nat.reduceSub, ↓reduceIte, reduceCtorEq, Nat.reduceEqDiff, Nat.reduceAdd, Nat.reduceMul, Nat.reduceLeDiff, Nat.reduceLT, Nat.reduceBEq, Nat.reduceBNe, implies_true, Xa.rs, Xa.res, hw1, hw2, hw, Int.ofNat_lt]) | (with_reducible first | refine T.seq ?_ | refine T.block ?_ | assumption | refine And.intro ?_ ?_) | (intro h; first | (exfalso; omega) | exact (tf h ‹_›).elim | exact (tf ‹_› h).elim | skip))
    all_goals first | omega | (simp only [List.length_append, List.length_cons, List.length_nil]; omega) | skip
    exact ⟨⟨k + 1, hlt⟩, (Ent.mk1 (fun n => if n = 1 then 5 else n) (by simp [Z7, ha2, hw])), by simp only; omega⟩
  · have hk2 : k = n := by omega
    subst hk2
    repeat' (first | ((first | (with_reducible first | refine T.regs ?_ | refine T.cond ?_ | refine T.reg ?_ | refine T.ret ?_ | refine T.exit ?_ | refine T.skip ?_) | ((with_reducible first | refine T.dregs ?_ ?_ | refine T.dreg ?_ ?_ | refine T.dregts ?_ ?_ | refine T.dregt ?_ ?_ | refine T.danys ?_ ?_ | refine T.dany ?_ ?_); exact mix)); simp only [Zh, Zi, Int.reduceEq, Int.reduceNeg, Int.reduceLE, Int.reduceLT, Nat.reduceSub, ↓reduceIte, reduceCtorEq, Nat.reduceEqDiff, Nat.reduceAdd, Nat.reduceMul, Nat.reduceLeDiff, Nat.reduceLT, Nat.reduceBEq, Nat.reduceBNe, implies_true, Xa.rs, Xa.res, Int.ofNat_lt]) | (with_reducible first | refine T.seq ?_ | refine T.block ?_ | assumption | refine And.intro ?_ ?_) | (intro h; first | (exfalso; omega) | exact (tf h ‹_›).elim | exact (tf ‹_› h).elim | skip))
    all_goals first | omega | skip
def Vg (n : Nat) (reg : Int) (off : Int) (fst : List UInt8) (oth : List UInt8) (wt : List UInt8) (i : Nat) : List (List UInt8) := [sayS [108, 100, 32, 114, 50, 44, 32, 114, 37, 100, 44, 32, 37, 100] [reg, off + (i : Int)]] ++ ([(Xu fst oth (i : Int) ++ [32, 114, 50]) ++ wt] ++ [sayS [115, 116, 32, 114, 37, 100, 44, 32, 114, 50, 44, 32, 37, 100] [reg, off + (i : Int)]])
def X9 (n : Nat) (reg : Int) (off : Int) (fst : List UInt8) (oth : List UInt8) (wt : List UInt8) : List UInt8 := rep n (Vg n reg off fst oth wt)
set_option maxHeartbeats 8000000 in
set_option maxRecDepth 100000 in
theorem V6 {G : Nat} {H : Nat → Option Obj} (hM : Xh G H) (hH : Y7 G H) (n : Nat) (hn : n ≤ 100) (reg : Int) (off : Int) (fst : List UInt8) (oth : List UInt8) (wt : List UInt8) (h1 : 0 ≤ reg ∧ reg ≤ 1000) (h2 : 0 ≤ off ∧ off ≤ 1000) (h3 : fst.length ≤ 100) (h4 : oth.length ≤ 100) (h5 : wt.length ≤ 100) (acc : List UInt8) (hb : acc.length + (X9 n reg off fst oth wt).length ≤ 100000) :
    GCp G H Tryz.prog 95 ([.a (.loc 0 0)] ++ [.a (.int .i64 reg), .a (.int .i64 off), .a (.str fst), .a (.str oth), .a (.str wt)]) [(0, .cells 64 [.loc 0 0, .ref 1, .int .i64 (n : Int)]), (1, .row 5 (.int .u8) (bytesI (acc)))] 2 [0] (.tup []) [(0, .cells 64 [.loc 0 0, .ref 2, .int .i64 (n : Int)]), (2, .row 5 (.int .u8) (bytesI (acc ++ X9 n reg off fst oth wt)))] 3 := by
  unfold X9 at *
  refine Yz.fn.gcp (by simp) (by simp [Yo, Yr, Yp, Zw, Zp, Vc.S1.okN, At.okN, SV.okN, Res.okN, Res.outOk, Z1, Res.own, Value.oneCell']) fun w X fr hglob => ?_
  repeat' (first | ((first | (with_reducible first | refine T.regs ?_ | refine T.cond ?_ | refine T.reg ?_ | refine T.ret ?_ | refine T.exit ?_ | refine T.skip ?_) | ((with_reducible first | refine T.dregs ?_ ?_ | refine T.dreg ?_ ?_ | refine T.dregts ?_ ?_ | refine T.dregt ?_ ?_ | refine T.danys ?_ ?_ | refine T.dany ?_ ?_); exact mix)); simp only [Zh, Zi, Int.reduceEq, Int.reduceNeg, Int.reduceLE, Int.reduceLT, Nat.reduceSub, ↓reduceIte, reduceCtorEq, Nat.reduceEqDiff, Nat.reduceAdd, Nat.reduceMul, Nat.reduceLeDiff, Nat.reduceLT, Nat.reduceBEq, Nat.reduceBNe, implies_true, Yz.rs, Yz.res]) | (with_reducible first | refine T.seq ?_ | refine T.block ?_ | assumption | refine And.intro ?_ ?_) | (intro h; first | (exfalso; omega) | exact (tf h ‹_›).elim | exact (tf ‹_› h).elim | skip))
  all_goals first | omega | skip
  refine T.loop (ι := { k : Nat // k ≤ n })
    (fun x => ⟨[(17, .one (.a (.int .i64 (x.1 : Int)))), (16, .one (.a (.int .i64 (n : Int)))), (0, .one (.a (.loc 0 0))), (1, .one (.a (.int .i64 reg))), (2, .one (.a (.int .i64 off))), (3, .one (.a (.str fst))), (4, .one (.a (.str oth))), (5, .one (.a (.str wt))), (1000000, .one (.a (.ref 0)))],
      [(0, .cells 64 [.loc 0 0, .ref 1, .int .i64 (n : Int)]), (1, .row 5 (.int .u8) (bytesI (acc ++ rep x.1 (Vg n reg off fst oth wt))))], 2⟩) (fun x => n - x.1) ⟨0, by simp⟩ (Ent.mk1 (id) (by simp [Z7, rep])) ?_
  rintro ⟨k, hk⟩
  simp only
  by_cases hlt : k < n
  · have hmono := Wm (Vg n reg off fst oth wt) (show k + 1 ≤ n from hlt)
    rw [Y0] at hmono
    simp only [List.length_append] at hmono
    have hac : (acc ++ rep k (Vg n reg off fst oth wt)).length = acc.length + (rep k (Vg n reg off fst oth wt)).length := by simp
    have ha2 : acc ++ rep (k + 1) (Vg n reg off fst oth wt) = (acc ++ rep k (Vg n reg off fst oth wt)) ++ putS (Vg n reg off fst oth wt k) := by rw [Y0, List.append_assoc]
    have hw : IntKind.i64.wrap ((k : Int) + 1) = ((k + 1 : Nat) : Int) := Z4 (by omega)
    generalize hacc : acc ++ rep k (Vg n reg off fst oth wt) = a at *
    generalize rep k (Vg n reg off fst oth wt) = pre at *
    have hBk : Vg n reg off fst oth wt k = [sayS [108, 100, 32, 114, 50, 44, 32, 114, 37, 100, 44, 32, 37, 100] [reg, off + (k : Int)]] ++ ([(Xu fst oth (k : Int) ++ [32, 114, 50]) ++ wt] ++ [sayS [115, 116, 32, 114, 37, 100, 44, 32, 114, 50, 44, 32, 37, 100] [reg, off + (k : Int)]]) := rfl
    rw [hBk] at hmono ha2
    have hw1 : IntKind.i64.wrap (off + (k : Int)) = off + (k : Int) := Ya (by omega) (by omega)
    have hcl := Rr h3 h4 (k : Int)
    have hS0 := Ys hM hH [108, 100, 32, 114, 50, 44, 32, 114, 37, 100, 44, 32, 37, 100] [reg, off + (k : Int)] (by simp; omega) (by simp) (by simp)
    have hS1 := Ys hM hH [115, 116, 32, 114, 37, 100, 44, 32, 114, 50, 44, 32, 37, 100] [reg, off + (k : Int)] (by simp; omega) (by simp) (by simp)
    generalize sayS [108, 100, 32, 114, 50, 44, 32, 114, 37, 100, 44, 32, 37, 100] [reg, off + (k : Int)] = z0 at *
    generalize sayS [115, 116, 32, 114, 37, 100, 44, 32, 114, 50, 44, 32, 37, 100] [reg, off + (k : Int)] = z1 at *
    simp only [T0, List.length_append] at hmono
    have hP0 := Zv (n : Int) (a) [z0] (by omega) (by simp)
    have hP1 := Zv (n : Int) ((a) ++ putS [z0]) [(Xu fst oth (k : Int) ++ [32, 114, 50]) ++ wt] (by simp only [List.length_append]; omega) (by simp)
    have hP2 := Zv (n : Int) (((a) ++ putS [z0]) ++ putS [(Xu fst oth (k : Int) ++ [32, 114, 50]) ++ wt]) [z1] (by simp only [List.length_append]; omega) (by simp)
    have hj : (((a) ++ putS [z0]) ++ putS [(Xu fst oth (k : Int) ++ [32, 114, 50]) ++ wt]) ++ putS [z1] = a ++ putS ([z0] ++ [(Xu fst oth (k : Int) ++ [32, 114, 50]) ++ wt] ++ [z1]) := by simp only [T0, List.append_assoc]
    have hlast := hP2
    rw [hj] at hlast
    repeat' (first | ((first | (with_reducible first | refine T.regs ?_ | refine T.cond ?_ | refine T.reg ?_ | refine T.ret ?_ | refine T.exit ?_ | refine T.skip ?_) | ((with_reducible first | refine T.dregs ?_ ?_ | refine T.dreg ?_ ?_ | refine T.dregts ?_ ?_ | refine T.dregt ?_ ?_ | refine T.danys ?_ ?_ | refine T.dany ?_ ?_); exact mix) | ((with_reducible refine Za.gcp hglob (hS0) ?_ ?_); (focus ((simp [Zm]); done))) | ((with_reducible refine Za.gcp hglob (hS1) ?_ ?_); (focus ((simp [Zm]); done))) | ((with_reducible refine Za.gc (hP0) ?_ ?_); (focus ((simp [Zm]); done))) | ((with_reducible refine Za.gc (hP1) ?_ ?_); (focus ((simp [Zm]); done))) | ((with_reducible refine Za.gc (hlast) ?_ ?_); (focus ((simp [Zm]); done))) | ((with_reducible first | apply Za.rd (Xx _ _ _) | apply Zc.rd (Xx _ _ _)); (focus ((repeat' (first | exact rfl | exact trivial | refine And.intro ?_ ?_ | (simp [SV.bd, Vc.S1.bd, At.bd, Zq, Zr, Ins.cells, Ln.cells]; done))); done)))); simp only [Zh, Zi, Int.reduceEq, Int.reduceNeg, Int.reduceLE, Int.reduceLT, Nat.reduceSub, ↓reduceIte, reduceCtorEq, Nat.reduceEqDiff, Nat.reduceAdd, Nat.reduceMul, Nat.reduceLeDiff, Nat.reduceLT, Nat.reduceBEq, Nat.reduceBNe, implies_true, Yz.rs, Yz.res, hw1, hw, Int.ofNat_lt]) | (with_reducible first | refine T.seq ?_ | refine T.block ?_ | assumption | refine And.intro ?_ ?_) | (intro h; first | (exfalso; omega) | exact (tf h ‹_›).elim | exact (tf ‹_› h).elim | skip))
    all_goals first | omega | (simp only [List.length_append, List.length_cons, List.length_nil]; omega) | skip
    exact ⟨⟨k + 1, hlt⟩, (Ent.mk1 (fun n => if n = 1 then 9 else n) (by simp [Z7, ha2, hw])), by simp only; omega⟩
  · have hk2 : k = n := by omega
    subst hk2
    repeat' (first | ((first | (with_reducible first | refine T.regs ?_ | refine T.cond ?_ | refine T.reg ?_ | refine T.ret ?_ | refine T.exit ?_ | refine T.skip ?_) | ((with_reducible first | refine T.dregs ?_ ?_ | refine T.dreg ?_ ?_ | refine T.dregts ?_ ?_ | refine T.dregt ?_ ?_ | refine T.danys ?_ ?_ | refine T.dany ?_ ?_); exact mix)); simp only [Zh, Zi, Int.reduceEq, Int.reduceNeg, Int.reduceLE, Int.reduceLT, Nat.reduceSub, ↓reduceIte, reduceCtorEq, Nat.reduceEqDiff, Nat.reduceAdd, Nat.reduceMul, Nat.reduceLeDiff, Nat.reduceLT, Nat.reduceBEq, Nat.reduceBNe, implies_true, Yz.rs, Yz.res, Int.ofNat_lt]) | (with_reducible first | refine T.seq ?_ | refine T.block ?_ | assumption | refine And.intro ?_ ?_) | (intro h; first | (exfalso; omega) | exact (tf h ‹_›).elim | exact (tf ‹_› h).elim | skip))
    all_goals first | omega | skip
def Rp (n : Nat) (ra : Int) (rb : Int) (off : Int) (fst : List UInt8) (oth : List UInt8) (keep : Bool) (i : Nat) : List (List UInt8) := [sayS [108, 100, 32, 114, 50, 44, 32, 114, 37, 100, 44, 32, 37, 100] [ra, (i : Int)], sayS [108, 100, 32, 114, 52, 44, 32, 114, 37, 100, 44, 32, 37, 100] [rb, off + (i : Int)], Xu fst oth (i : Int) ++ [32, 114, 50, 44, 32, 114, 52]] ++ (if keep = true then [sayS [115, 116, 32, 114, 37, 100, 44, 32, 114, 50, 44, 32, 37, 100] [ra, (i : Int)]] else [])
def Tw (n : Nat) (ra : Int) (rb : Int) (off : Int) (fst : List UInt8) (oth : List UInt8) (keep : Bool) : List UInt8 := rep n (Rp n ra rb off fst oth keep)
set_option maxHeartbeats 8000000 in
set_option maxRecDepth 100000 in
theorem Rh {G : Nat} {H : Nat → Option Obj} (hM : Xh G H) (hH : Y7 G H) (n : Nat) (hn : n ≤ 100) (ra : Int) (rb : Int) (off : Int) (fst : List UInt8) (oth : List UInt8) (keep : Bool) (h1 : 0 ≤ ra ∧ ra ≤ 1000) (h1' : 0 ≤ rb ∧ rb ≤ 1000) (h2 : 0 ≤ off ∧ off ≤ 1000) (h3 : fst.length ≤ 100) (h4 : oth.length ≤ 100) (acc : List UInt8) (hb : acc.length + (Tw n ra rb off fst oth keep).length ≤ 100000) :
    GCp G H Tryz.prog 94 ([.a (.loc 0 0)] ++ [.a (.int .i64 ra), .a (.int .i64 rb), .a (.int .i64 off), .a (.str fst), .a (.str oth), .a (.bool keep)]) [(0, .cells 64 [.loc 0 0, .ref 1, .int .i64 (n : Int)]), (1, .row 5 (.int .u8) (bytesI (acc)))] 2 [0] (.tup []) [(0, .cells 64 [.loc 0 0, .ref 2, .int .i64 (n : Int)]), (2, .row 5 (.int .u8) (bytesI (acc ++ Tw n ra rb off fst oth keep)))] 3 := by
  unfold Tw at *
  refine Yt.fn.gcp (by simp) (by simp [Yo, Yr, Yp, Zw, Zp, Vc.S1.okN, At.okN, SV.okN, Res.okN, Res.outOk, Z1, Res.own, Value.oneCell']) fun w X fr hglob => ?_
  repeat' (first | ((first | (with_reducible first | refine T.regs ?_ | refine T.cond ?_ | refine T.reg ?_ | refine T.ret ?_ | refine T.exit ?_ | refine T.skip ?_) | ((with_reducible first | refine T.dregs ?_ ?_ | refine T.dreg ?_ ?_ | refine T.dregts ?_ ?_ | refine T.dregt ?_ ?_ | refine T.danys ?_ ?_ | refine T.dany ?_ ?_); exact mix)); simp only [Zh, Zi, Int.reduceEq, Int.reduceNeg, Int.reduceLE, Int.reduceLT, Nat.reduceSub, ↓reduceIte, reduceCtorEq, Nat.reduceEqDiff, Nat.reduceAdd, Nat.reduceMul, Nat.reduceLeDiff, Nat.reduceLT, Nat.reduceBEq, Nat.reduceBNe, implies_true, Yt.rs, Yt.res]) | (with_reducible first | refine T.seq ?_ | refine T.block ?_ | assumption | refine And.intro ?_ ?_) | (intro h; first | (exfalso; omega) | exact (tf h ‹_›).elim | exact (tf ‹_› h).elim | skip))
  all_goals first | omega | skip
  refine T.loop (ι := { k : Nat // k ≤ n })
    (fun x => ⟨[(19, .one (.a (.int .i64 (x.1 : Int)))), (18, .one (.a (.int .i64 (n : Int)))), (0, .one (.a (.loc 0 0))), (1, .one (.a (.int .i64 ra))), (2, .one (.a (.int .i64 rb))), (3, .one (.a (.int .i64 off))), (4, .one (.a (.str fst))), (5, .one (.a (.str oth))), (6, .one (.a (.bool keep))), (1000000, .one (.a (.ref 0)))],
      [(0, .cells 64 [.loc 0 0, .ref 1, .int .i64 (n : Int)]), (1, .row 5 (.int .u8) (bytesI (acc ++ rep x.1 (Rp n ra rb off fst oth keep))))], 2⟩) (fun x => n - x.1) ⟨0, by simp⟩ (Ent.mk1 (id) (by simp [Z7, rep])) ?_
  rintro ⟨k, hk⟩
  simp only
  by_cases hlt : k < n
  · have hmono := Wm (Rp n ra rb off fst oth keep) (show k + 1 ≤ n from hlt)
    rw [Y0] at hmono
    simp only [List.length_append] at hmono
    have hac : (acc ++ rep k (Rp n ra rb off fst oth keep)).length = acc.length + (rep k (Rp n ra rb off fst oth keep)).length := by simp
    have ha2 : acc ++ rep (k + 1) (Rp n ra rb off fst oth keep) = (acc ++ rep k (Rp n ra rb off fst oth keep)) ++ putS (Rp n ra rb off fst oth keep k) := by rw [Y0, List.append_assoc]
    have hw : IntKind.i64.wrap ((k : Int) + 1) = ((k + 1 : Nat) : Int) := Z4 (by omega)
    generalize hacc : acc ++ rep k (Rp n ra rb off fst oth keep) = a at *
    generalize rep k (Rp n ra rb off fst oth keep) = pre at *
    have hBk : Rp n ra rb off fst oth keep k = [sayS [108, 100, 32, 114, 50, 44, 32, 114, 37, 100, 44, 32, 37, 100] [ra, (k : Int)], sayS [108, 100, 32, 114, 52, 44, 32, 114, 37, 100, 44, 32, 37, 100] [rb, off + (k : Int)], Xu fst oth (k : Int) ++ [32, 114, 50, 44, 32, 114, 52]] ++ (if keep = true then [sayS [115, 116, 32, 114, 37, 100, 44, 32, 114, 50, 44, 32, 37, 100] [ra, (k : Int)]] else []) := rfl
    rw [hBk] at hmono ha2
    have hw1 : IntKind.i64.wrap (off + (k : Int)) = off + (k : Int) := Ya (by omega) (by omega)
    have hcl := Rr h3 h4 (k : Int)
    cases keep
    · simp only [if_true, if_false, Bool.false_eq_true, List.append_nil] at hmono ha2
      have hS0 := Ys hM hH [108, 100, 32, 114, 50, 44, 32, 114, 37, 100, 44, 32, 37, 100] [ra, (k : Int)] (by simp; omega) (by simp) (by simp)
      have hS1 := Ys hM hH [108, 100, 32, 114, 52, 44, 32, 114, 37, 100, 44, 32, 37, 100] [rb, off + (k : Int)] (by simp; omega) (by simp) (by simp)
      generalize sayS [108, 100, 32, 114, 50, 44, 32, 114, 37, 100, 44, 32, 37, 100] [ra, (k : Int)] = z0 at *
      generalize sayS [108, 100, 32, 114, 52, 44, 32, 114, 37, 100, 44, 32, 37, 100] [rb, off + (k : Int)] = z1 at *
      have hP0 := Zv (n : Int) (a) [z0, z1, Xu fst oth (k : Int) ++ [32, 114, 50, 44, 32, 114, 52]] (by omega) (by simp)
      repeat' (first | ((first | (with_reducible first | refine T.regs ?_ | refine T.cond ?_ | refine T.reg ?_ | refine T.ret ?_ | refine T.exit ?_ | refine T.skip ?_) | ((with_reducible first | refine T.dregs ?_ ?_ | refine T.dreg ?_ ?_ | refine T.dregts ?_ ?_ | refine T.dregt ?_ ?_ | refine T.danys ?_ ?_ | refine T.dany ?_ ?_); exact mix) | ((with_reducible refine Za.gcp hglob (hS0) ?_ ?_); (focus ((simp [Zm]); done))) | ((with_reducible refine Za.gcp hglob (hS1) ?_ ?_); (focus ((simp [Zm]); done))) | ((with_reducible refine Za.gc (hP0) ?_ ?_); (focus ((simp [Zm]); done))) | ((with_reducible first | apply Za.rd (Xx _ _ _) | apply Zc.rd (Xx _ _ _)); (focus ((repeat' (first | exact rfl | exact trivial | refine And.intro ?_ ?_ | (simp [SV.bd, Vc.S1.bd, At.bd, Zq, Zr, Ins.cells, Ln.cells]; done))); done)))); simp only [Zh, Zi, Int.reduceEq, Int.reduceNeg, Int.reduceLE, Int.reduceLT, Nat.reduceSub, ↓reduceIte, reduceCtorEq, Nat.reduceEqDiff, Nat.reduceAdd, Nat.reduceMul, Nat.reduceLeDiff, Nat.reduceLT, Nat.reduceBEq, Nat.reduceBNe, implies_true, Yt.rs, Yt.res, hw1, hw, Int.ofNat_lt]) | (with_reducible first | refine T.seq ?_ | refine T.block ?_ | assumption | refine And.intro ?_ ?_) | (intro h; first | (exfalso; omega) | exact (tf h ‹_›).elim | exact (tf ‹_› h).elim | skip))
      all_goals first | omega | (simp only [List.length_append, List.length_cons, List.length_nil]; omega) | skip
      exact ⟨⟨k + 1, hlt⟩, (Ent.mk1 (fun n => if n = 1 then 5 else n) (by simp [Z7, ha2, hw])), by simp only; omega⟩
    · simp only [if_true, if_false, Bool.false_eq_true, List.append_nil] at hmono ha2
      have hS0 := Ys hM hH [108, 100, 32, 114, 50, 44, 32, 114, 37, 100, 44, 32, 37, 100] [ra, (k : Int)] (by simp; omega) (by simp) (by simp)
      have hS1 := Ys hM hH [108, 100, 32, 114, 52, 44, 32, 114, 37, 100, 44, 32, 37, 100] [rb, off + (k : Int)] (by simp; omega) (by simp) (by simp)
      have hS2 := Ys hM hH [115, 116, 32, 114, 37, 100, 44, 32, 114, 50, 44, 32, 37, 100] [ra, (k : Int)] (by simp; omega) (by simp) (by simp)
      generalize sayS [108, 100, 32, 114, 50, 44, 32, 114, 37, 100, 44, 32, 37, 100] [ra, (k : Int)] = z0 at *
      generalize sayS [108, 100, 32, 114, 52, 44, 32, 114, 37, 100, 44, 32, 37, 100] [rb, off + (k : Int)] = z1 at *
      generalize sayS [115, 116, 32, 114, 37, 100, 44, 32, 114, 50, 44, 32, 37, 100] [ra, (k : Int)] = z2 at *
      simp only [T0, List.length_append] at hmono
      have hP0 := Zv (n : Int) (a) [z0, z1, Xu fst oth (k : Int) ++ [32, 114, 50, 44, 32, 114, 52]] (by omega) (by simp)
      have hP1 := Zv (n : Int) ((a) ++ putS [z0, z1, Xu fst oth (k : Int) ++ [32, 114, 50, 44, 32, 114, 52]]) [z2] (by simp only [List.length_append]; omega) (by simp)
      have hj : ((a) ++ putS [z0, z1, Xu fst oth (k : Int) ++ [32, 114, 50, 44, 32, 114, 52]]) ++ putS [z2] = a ++ putS ([z0, z1, Xu fst oth (k : Int) ++ [32, 114, 50, 44, 32, 114, 52]] ++ [z2]) := by simp only [T0, List.append_assoc]
      have hlast := hP1
      rw [hj] at hlast
      repeat' (first | ((first | (with_reducible first | refine T.regs ?_ | refine T.cond ?_ | refine T.reg ?_ | refine T.ret ?_ | refine T.exit ?_ | refine T.skip ?_) | ((with_reducible first | refine T.dregs ?_ ?_ | refine T.dreg ?_ ?_ | refine T.dregts ?_ ?_ | refine T.dregt ?_ ?_ | refine T.danys ?_ ?_ | refine T.dany ?_ ?_); exact mix) | ((with_reducible refine Za.gcp hglob (hS0) ?_ ?_); (focus ((simp [Zm]); done))) | ((with_reducible refine Za.gcp hglob (hS1) ?_ ?_); (focus ((simp [Zm]); done))) | ((with_reducible refine Za.gcp hglob (hS2) ?_ ?_); (focus ((simp [Zm]); done))) | ((with_reducible refine Za.gc (hP0) ?_ ?_); (focus ((simp [Zm]); done))) | ((with_reducible refine Za.gc (hlast) ?_ ?_); (focus ((simp [Zm]); done))) | ((with_reducible first | apply Za.rd (Xx _ _ _) | apply Zc.rd (Xx _ _ _)); (focus ((repeat' (first | exact rfl | exact trivial | refine And.intro ?_ ?_ | (simp [SV.bd, Vc.S1.bd, At.bd, Zq, Zr, Ins.cells, Ln.cells]; done))); done)))); simp only [Zh, Zi, Int.reduceEq, Int.reduceNeg, Int.reduceLE, Int.reduceLT, Nat.reduceSub, ↓reduceIte, reduceCtorEq, Nat.reduceEqDiff, Nat.reduceAdd, Nat.reduceMul, Nat.reduceLeDiff, Nat.reduceLT, Nat.reduceBEq, Nat.reduceBNe, implies_true, Yt.rs, Yt.res, hw1, hw, Int.ofNat_lt]) | (with_reducible first | refine T.seq ?_ | refine T.block ?_ | assumption | refine And.intro ?_ ?_) | (intro h; first | (exfalso; omega) | exact (tf h ‹_›).elim | exact (tf ‹_› h).elim | skip))
      all_goals first | omega | (simp only [List.length_append, List.length_cons, List.length_nil]; omega) | skip
      exact ⟨⟨k + 1, hlt⟩, (Ent.mk1 (fun n => if n = 1 then 8 else n) (by simp [Z7, ha2, hw])), by simp only; omega⟩
  · have hk2 : k = n := by omega
    subst hk2
    repeat' (first | ((first | (with_reducible first | refine T.regs ?_ | refine T.cond ?_ | refine T.reg ?_ | refine T.ret ?_ | refine T.exit ?_ | refine T.skip ?_) | ((with_reducible first | refine T.dregs ?_ ?_ | refine T.dreg ?_ ?_ | refine T.dregts ?_ ?_ | refine T.dregt ?_ ?_ | refine T.danys ?_ ?_ | refine T.dany ?_ ?_); exact mix)); simp only [Zh, Zi, Int.reduceEq, Int.reduceNeg, Int.reduceLE, Int.reduceLT, Nat.reduceSub, ↓reduceIte, reduceCtorEq, Nat.reduceEqDiff, Nat.reduceAdd, Nat.reduceMul, Nat.reduceLeDiff, Nat.reduceLT, Nat.reduceBEq, Nat.reduceBNe, implies_true, Yt.rs, Yt.res, Int.ofNat_lt]) | (with_reducible first | refine T.seq ?_ | refine T.block ?_ | assumption | refine And.intro ?_ ?_) | (intro h; first | (exfalso; omega) | exact (tf h ‹_›).elim | exact (tf ‹_› h).elim | skip))
    all_goals first | omega | skip
end Go.Proofs.YtjochhncheheaaaGreatDoor
