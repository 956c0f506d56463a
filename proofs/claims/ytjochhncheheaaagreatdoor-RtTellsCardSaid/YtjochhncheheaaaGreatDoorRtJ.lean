/-
  A part of the proofs of this seat's laws: a step on the way. It has no conditions of its own.
-/
import Derived.Test.YtjochhncheheaaaGreatDoorRtH
namespace Go.Proofs.YtjochhncheheaaaGreatDoor
open Go Go.RowKit Vc
set_option linter.unusedVariables false
set_option linter.unusedSimpArgs false
attribute [local irreducible] T Za Z2 Ent RdC RwC Xl Zc Zs
def Tf (n : Nat) : List UInt8 := ((((((((((((((((putS [sayS [108, 100, 32, 114, 53, 44, 32, 114, 48, 44, 32, 37, 100] [(n : Int) - 1]]) ++ (putS [sayS [108, 100, 32, 114, 50, 44, 32, 114, 49, 44, 32, 37, 100] [(n : Int) - 1], [120, 111, 114, 32, 114, 53, 44, 32, 114, 50]])) ++ (putS [[112, 117, 115, 104, 32, 114, 53]])) ++ (Vs n 1)) ++ (putS [[109, 111, 118, 32, 114, 49, 44, 32, 114, 55]])) ++ (Xf 1 ((n : Int) - 1) [46, 111, 118, 101, 114])) ++ (Wp n 1)) ++ (putS [[46, 111, 118, 101, 114, 58]])) ++ (Xf 0 ((n : Int) - 1) [46, 98, 111, 116, 104])) ++ (Wp n 0)) ++ (putS [[46, 98, 111, 116, 104, 58]])) ++ (putS [sayS [99, 97, 108, 108, 32, 117, 100, 105, 118, 37, 100] [(n : Int)]])) ++ (Xf 7 ((n : Int)) [46, 100, 111, 110, 101])) ++ (Wp n 0)) ++ (putS [[46, 100, 111, 110, 101, 58]])) ++ (T3 ((n : Int) + 1)))
set_option maxHeartbeats 16000000 in
set_option maxRecDepth 100000 in
theorem K5 {G : Nat} {H : Nat → Option Obj} (hM : Xh G H) (hH : Y7 G H) (n : Nat) (hn : 1 ≤ n ∧ n ≤ 100) (acc : List UInt8) (hb : acc.length + (Tf n).length ≤ 100000) :
    GCp G H Tryz.prog 51 ([.a (.loc 0 0)] ++ [.a (.bool false)]) [(0, .cells 64 [.loc 0 0, .ref 1, .int .i64 (n : Int)]), (1, .row 5 (.int .u8) (bytesI (acc)))] 2 [0] (.tup []) [(0, .cells 64 [.loc 0 0, .ref 2, .int .i64 (n : Int)]), (2, .row 5 (.int .u8) (bytesI (acc ++ Tf n)))] 3 := by
  unfold Tf at *
  simp only [List.length_append] at hb
  have hm16 : IntKind.i64.wrap (16 * (n : Int)) = 16 * (n : Int) := Ya (by omega) (by omega)
  have hm2 : IntKind.i64.wrap (2 * (n : Int)) = 2 * (n : Int) := Ya (by omega) (by omega)
  have hm1 : IntKind.i64.wrap ((n : Int) - 1) = (n : Int) - 1 := Ya (by omega) (by omega)
  have hp1 : IntKind.i64.wrap ((n : Int) + 1) = (n : Int) + 1 := Ya (by omega) (by omega)
  have hSz0_0 := Ys hM hH [108, 100, 32, 114, 53, 44, 32, 114, 48, 44, 32, 37, 100] [(n : Int) - 1] (by simp; omega) (by simp) (by simp)
  generalize sayS [108, 100, 32, 114, 53, 44, 32, 114, 48, 44, 32, 37, 100] [(n : Int) - 1] = z0_0 at *
  have hP0 := Zv (n : Int) (acc) [z0_0] (by omega) (by simp)
  generalize putS [z0_0] = p0 at *
  have hSz1_1 := Ys hM hH [108, 100, 32, 114, 50, 44, 32, 114, 49, 44, 32, 37, 100] [(n : Int) - 1] (by simp; omega) (by simp) (by simp)
  generalize sayS [108, 100, 32, 114, 50, 44, 32, 114, 49, 44, 32, 37, 100] [(n : Int) - 1] = z1_1 at *
  have hP1 := Zv (n : Int) ((acc) ++ p0) [z1_1, [120, 111, 114, 32, 114, 53, 44, 32, 114, 50]] (by simp only [List.length_append]; omega) (by simp)
  generalize putS [z1_1, [120, 111, 114, 32, 114, 53, 44, 32, 114, 50]] = p1 at *
  have hP2 := Zv (n : Int) (((acc) ++ p0) ++ p1) [[112, 117, 115, 104, 32, 114, 53]] (by simp only [List.length_append]; omega) (by simp)
  generalize putS [[112, 117, 115, 104, 32, 114, 53]] = p2 at *
  have hP3 := Sl hM hH n (by omega) 1 (by omega) ((((acc) ++ p0) ++ p1) ++ p2) (by first | omega | (simp only [List.length_append]; omega))
  generalize hgp3 : (Vs n 1) = p3 at *
  have hP4 := Zv (n : Int) (((((acc) ++ p0) ++ p1) ++ p2) ++ p3) [[109, 111, 118, 32, 114, 49, 44, 32, 114, 55]] (by simp only [List.length_append]; omega) (by simp)
  generalize putS [[109, 111, 118, 32, 114, 49, 44, 32, 114, 55]] = p4 at *
  have hP5 := Ww hM hH n 1 ((n : Int) - 1) [46, 111, 118, 101, 114] (by omega) (by omega) (by simp) ((((((acc) ++ p0) ++ p1) ++ p2) ++ p3) ++ p4) (by first | omega | (simp only [List.length_append]; omega))
  generalize hgp5 : (Xf 1 ((n : Int) - 1) [46, 111, 118, 101, 114]) = p5 at *
  have hP6 := Ua hM hH n (by omega) 1 (by omega) (((((((acc) ++ p0) ++ p1) ++ p2) ++ p3) ++ p4) ++ p5) (by first | omega | (simp only [List.length_append]; omega))
  generalize hgp6 : (Wp n 1) = p6 at *
  have hP7 := Zv (n : Int) ((((((((acc) ++ p0) ++ p1) ++ p2) ++ p3) ++ p4) ++ p5) ++ p6) [[46, 111, 118, 101, 114, 58]] (by simp only [List.length_append]; omega) (by simp)
  generalize putS [[46, 111, 118, 101, 114, 58]] = p7 at *
  have hP8 := Ww hM hH n 0 ((n : Int) - 1) [46, 98, 111, 116, 104] (by omega) (by omega) (by simp) (((((((((acc) ++ p0) ++ p1) ++ p2) ++ p3) ++ p4) ++ p5) ++ p6) ++ p7) (by first | omega | (simp only [List.length_append]; omega))
  generalize hgp8 : (Xf 0 ((n : Int) - 1) [46, 98, 111, 116, 104]) = p8 at *
  have hP9 := Ua hM hH n (by omega) 0 (by omega) ((((((((((acc) ++ p0) ++ p1) ++ p2) ++ p3) ++ p4) ++ p5) ++ p6) ++ p7) ++ p8) (by first | omega | (simp only [List.length_append]; omega))
  generalize hgp9 : (Wp n 0) = p9 at *
  have hP10 := Zv (n : Int) (((((((((((acc) ++ p0) ++ p1) ++ p2) ++ p3) ++ p4) ++ p5) ++ p6) ++ p7) ++ p8) ++ p9) [[46, 98, 111, 116, 104, 58]] (by simp only [List.length_append]; omega) (by simp)
  generalize putS [[46, 98, 111, 116, 104, 58]] = p10 at *
  have hSz11_2 := Ys hM hH [99, 97, 108, 108, 32, 117, 100, 105, 118, 37, 100] [(n : Int)] (by simp; omega) (by simp) (by simp)
  generalize sayS [99, 97, 108, 108, 32, 117, 100, 105, 118, 37, 100] [(n : Int)] = z11_2 at *
  have hP11 := Zv (n : Int) ((((((((((((acc) ++ p0) ++ p1) ++ p2) ++ p3) ++ p4) ++ p5) ++ p6) ++ p7) ++ p8) ++ p9) ++ p10) [z11_2] (by simp only [List.length_append]; omega) (by simp)
  generalize putS [z11_2] = p11 at *
  have hP12 := Ww hM hH n 7 ((n : Int)) [46, 100, 111, 110, 101] (by omega) (by omega) (by simp) (((((((((((((acc) ++ p0) ++ p1) ++ p2) ++ p3) ++ p4) ++ p5) ++ p6) ++ p7) ++ p8) ++ p9) ++ p10) ++ p11) (by first | omega | (simp only [List.length_append]; omega))
  generalize hgp12 : (Xf 7 ((n : Int)) [46, 100, 111, 110, 101]) = p12 at *
  have hP13 := Ua hM hH n (by omega) 0 (by omega) ((((((((((((((acc) ++ p0) ++ p1) ++ p2) ++ p3) ++ p4) ++ p5) ++ p6) ++ p7) ++ p8) ++ p9) ++ p10) ++ p11) ++ p12) (by rw [hgp9]; simp only [List.length_append]; omega)
  rw [hgp9] at hP13
  have hP14 := Zv (n : Int) (((((((((((((((acc) ++ p0) ++ p1) ++ p2) ++ p3) ++ p4) ++ p5) ++ p6) ++ p7) ++ p8) ++ p9) ++ p10) ++ p11) ++ p12) ++ p9) [[46, 100, 111, 110, 101, 58]] (by simp only [List.length_append]; omega) (by simp)
  generalize putS [[46, 100, 111, 110, 101, 58]] = p14 at *
  have hP15 := S8 hM hH n ((n : Int) + 1) (by omega) ((((((((((((((((acc) ++ p0) ++ p1) ++ p2) ++ p3) ++ p4) ++ p5) ++ p6) ++ p7) ++ p8) ++ p9) ++ p10) ++ p11) ++ p12) ++ p9) ++ p14) (by first | omega | (simp only [List.length_append]; omega))
  generalize hgp15 : (T3 ((n : Int) + 1)) = p15 at *
  refine Y9.fn.gcp (by simp) (by simp [Yo, Yr, Yp, Zw, Zp, Vc.S1.okN, At.okN, SV.okN, Res.okN, Res.outOk, Z1, Res.own, Value.oneCell']) fun w X fr hglob => ?_
  have hj : ((((((((((((((((acc) ++ p0) ++ p1) ++ p2) ++ p3) ++ p4) ++ p5) ++ p6) ++ p7) ++ p8) ++ p9) ++ p10) ++ p11) ++ p12) ++ p9) ++ p14) ++ p15 = acc ++ (((((((((((((((p0 ++ p1) ++ p2) ++ p3) ++ p4) ++ p5) ++ p6) ++ p7) ++ p8) ++ p9) ++ p10) ++ p11) ++ p12) ++ p9) ++ p14) ++ p15) := by simp only [List.append_assoc]
  rw [hj] at hP15
  repeat' (first | ((first | (with_reducible first | refine T.regs ?_ | refine T.cond ?_ | refine T.reg ?_ | refine T.ret ?_ | refine T.exit ?_ | refine T.skip ?_) | ((with_reducible first | refine T.dregs ?_ ?_ | refine T.dreg ?_ ?_ | refine T.dregts ?_ ?_ | refine T.dregt ?_ ?_ | refine T.danys ?_ ?_ | refine T.dany ?_ ?_); exact mix) | ((with_reducible refine Za.gcp hglob (hSz0_0) ?_ ?_); (focus ((simp [Zm]); done))) | ((with_reducible refine Za.gc (hP0) ?_ ?_); (focus ((simp [Zm]); done))) | ((with_reducible refine Za.gcp hglob (hSz1_1) ?_ ?_); (focus ((simp [Zm]); done))) | ((with_reducible refine Za.gc (hP1) ?_ ?_); (focus ((simp [Zm]); done))) | ((with_reducible refine Za.gc (hP2) ?_ ?_); (focus ((simp [Zm]); done))) | ((with_reducible refine Za.gcp hglob (hP3) ?_ ?_); (focus ((simp [Zm]); done))) | ((with_reducible refine Za.gc (hP4) ?_ ?_); (focus ((simp [Zm]); done))) | ((with_reducible refine Za.gcp hglob (hP5) ?_ ?_); (focus ((simp [Zm]); done))) | ((with_reducible refine Za.gcp hglob (hP6) ?_ ?_); (focus ((simp [Zm]); done))) | ((with_reducible refine Za.gc (hP7) ?_ ?_); (focus ((simp [Zm]); done))) | ((with_reducible refine Za.gcp hglob (hP8) ?_ ?_); (focus ((simp [Zm]); done))) | ((with_reducible refine Za.gcp hglob (hP9) ?_ ?_); (focus ((simp [Zm]); done))) | ((with_reducible refine Za.gc (hP10) ?_ ?_); (focus ((simp [Zm]); done))) | ((with_reducible refine Za.gcp hglob (hSz11_2) ?_ ?_); (focus ((simp [Zm]); done))) | ((with_reducible refine Za.gc (hP11) ?_ ?_); (focus ((simp [Zm]); done))) | ((with_reducible refine Za.gcp hglob (hP12) ?_ ?_); (focus ((simp [Zm]); done))) | ((with_reducible refine Za.gcp hglob (hP13) ?_ ?_); (focus ((simp [Zm]); done))) | ((with_reducible refine Za.gc (hP14) ?_ ?_); (focus ((simp [Zm]); done))) | ((with_reducible refine Za.gcp hglob (hP15) ?_ ?_); (focus ((simp [Zm]); done)))); simp only [Zh, Zi, Int.reduceEq, Int.reduceNeg, Int.reduceLE, Int.reduceLT, Nat.reduceSub, ↓reduceIte, reduceCtorEq, Nat.reduceEqDiff, Nat.reduceAdd, Nat.reduceMul, Nat.reduceLeDiff, Nat.reduceLT, Nat.reduceBEq, Nat.reduceBNe, implies_true, Y9.rs, Y9.res, hm16, hm2, hm1, hp1, Bool.not_true, Bool.not_false, Int.ofNat_lt]) | (with_reducible first | refine T.seq ?_ | refine T.block ?_ | assumption | refine And.intro ?_ ?_) | (intro h; first | (exfalso; omega) | exact (tf h ‹_›).elim | exact (tf ‹_› h).elim | skip))
  all_goals first | omega | (simp only [List.length_append, List.length_cons, List.length_nil]; omega) | skip
def U6 (n : Nat) : List UInt8 := (((((((((((((((putS [sayS [108, 100, 32, 114, 53, 44, 32, 114, 48, 44, 32, 37, 100] [(n : Int) - 1]]) ++ (putS [[112, 117, 115, 104, 32, 114, 53]])) ++ (Vs n 1)) ++ (putS [[109, 111, 118, 32, 114, 49, 44, 32, 114, 55]])) ++ (Xf 1 ((n : Int) - 1) [46, 111, 118, 101, 114])) ++ (Wp n 1)) ++ (putS [[46, 111, 118, 101, 114, 58]])) ++ (Xf 0 ((n : Int) - 1) [46, 98, 111, 116, 104])) ++ (Wp n 0)) ++ (putS [[46, 98, 111, 116, 104, 58]])) ++ (putS [sayS [99, 97, 108, 108, 32, 117, 114, 101, 109, 37, 100] [(n : Int)]])) ++ (Xf 7 ((n : Int)) [46, 100, 111, 110, 101])) ++ (Wp n 0)) ++ (putS [[46, 100, 111, 110, 101, 58]])) ++ (T3 ((n : Int) + 1)))
set_option maxHeartbeats 16000000 in
set_option maxRecDepth 100000 in
theorem Km {G : Nat} {H : Nat → Option Obj} (hM : Xh G H) (hH : Y7 G H) (n : Nat) (hn : 1 ≤ n ∧ n ≤ 100) (acc : List UInt8) (hb : acc.length + (U6 n).length ≤ 100000) :
    GCp G H Tryz.prog 51 ([.a (.loc 0 0)] ++ [.a (.bool true)]) [(0, .cells 64 [.loc 0 0, .ref 1, .int .i64 (n : Int)]), (1, .row 5 (.int .u8) (bytesI (acc)))] 2 [0] (.tup []) [(0, .cells 64 [.loc 0 0, .ref 2, .int .i64 (n : Int)]), (2, .row 5 (.int .u8) (bytesI (acc ++ U6 n)))] 3 := by
  unfold U6 at *
  simp only [List.length_append] at hb
  have hm16 : IntKind.i64.wrap (16 * (n : Int)) = 16 * (n : Int) := Ya (by omega) (by omega)
  have hm2 : IntKind.i64.wrap (2 * (n : Int)) = 2 * (n : Int) := Ya (by omega) (by omega)
  have hm1 : IntKind.i64.wrap ((n : Int) - 1) = (n : Int) - 1 := Ya (by omega) (by omega)
  have hp1 : IntKind.i64.wrap ((n : Int) + 1) = (n : Int) + 1 := Ya (by omega) (by omega)
  have hSz0_0 := Ys hM hH [108, 100, 32, 114, 53, 44, 32, 114, 48, 44, 32, 37, 100] [(n : Int) - 1] (by simp; omega) (by simp) (by simp)
  generalize sayS [108, 100, 32, 114, 53, 44, 32, 114, 48, 44, 32, 37, 100] [(n : Int) - 1] = z0_0 at *
  have hP0 := Zv (n : Int) (acc) [z0_0] (by omega) (by simp)
  generalize putS [z0_0] = p0 at *
  have hP1 := Zv (n : Int) ((acc) ++ p0) [[112, 117, 115, 104, 32, 114, 53]] (by simp only [List.length_append]; omega) (by simp)
  generalize putS [[112, 117, 115, 104, 32, 114, 53]] = p1 at *
  have hP2 := Sl hM hH n (by omega) 1 (by omega) (((acc) ++ p0) ++ p1) (by first | omega | (simp only [List.length_append]; omega))
  generalize hgp2 : (Vs n 1) = p2 at *
  have hP3 := Zv (n : Int) ((((acc) ++ p0) ++ p1) ++ p2) [[109, 111, 118, 32, 114, 49, 44, 32, 114, 55]] (by simp only [List.length_append]; omega) (by simp)
  generalize putS [[109, 111, 118, 32, 114, 49, 44, 32, 114, 55]] = p3 at *
  have hP4 := Ww hM hH n 1 ((n : Int) - 1) [46, 111, 118, 101, 114] (by omega) (by omega) (by simp) (((((acc) ++ p0) ++ p1) ++ p2) ++ p3) (by first | omega | (simp only [List.length_append]; omega))
  generalize hgp4 : (Xf 1 ((n : Int) - 1) [46, 111, 118, 101, 114]) = p4 at *
  have hP5 := Ua hM hH n (by omega) 1 (by omega) ((((((acc) ++ p0) ++ p1) ++ p2) ++ p3) ++ p4) (by first | omega | (simp only [List.length_append]; omega))
  generalize hgp5 : (Wp n 1) = p5 at *
  have hP6 := Zv (n : Int) (((((((acc) ++ p0) ++ p1) ++ p2) ++ p3) ++ p4) ++ p5) [[46, 111, 118, 101, 114, 58]] (by simp only [List.length_append]; omega) (by simp)
  generalize putS [[46, 111, 118, 101, 114, 58]] = p6 at *
  have hP7 := Ww hM hH n 0 ((n : Int) - 1) [46, 98, 111, 116, 104] (by omega) (by omega) (by simp) ((((((((acc) ++ p0) ++ p1) ++ p2) ++ p3) ++ p4) ++ p5) ++ p6) (by first | omega | (simp only [List.length_append]; omega))
  generalize hgp7 : (Xf 0 ((n : Int) - 1) [46, 98, 111, 116, 104]) = p7 at *
  have hP8 := Ua hM hH n (by omega) 0 (by omega) (((((((((acc) ++ p0) ++ p1) ++ p2) ++ p3) ++ p4) ++ p5) ++ p6) ++ p7) (by first | omega | (simp only [List.length_append]; omega))
  generalize hgp8 : (Wp n 0) = p8 at *
  have hP9 := Zv (n : Int) ((((((((((acc) ++ p0) ++ p1) ++ p2) ++ p3) ++ p4) ++ p5) ++ p6) ++ p7) ++ p8) [[46, 98, 111, 116, 104, 58]] (by simp only [List.length_append]; omega) (by simp)
  generalize putS [[46, 98, 111, 116, 104, 58]] = p9 at *
  have hSz10_1 := Ys hM hH [99, 97, 108, 108, 32, 117, 114, 101, 109, 37, 100] [(n : Int)] (by simp; omega) (by simp) (by simp)
  generalize sayS [99, 97, 108, 108, 32, 117, 114, 101, 109, 37, 100] [(n : Int)] = z10_1 at *
  have hP10 := Zv (n : Int) (((((((((((acc) ++ p0) ++ p1) ++ p2) ++ p3) ++ p4) ++ p5) ++ p6) ++ p7) ++ p8) ++ p9) [z10_1] (by simp only [List.length_append]; omega) (by simp)
  generalize putS [z10_1] = p10 at *
  have hP11 := Ww hM hH n 7 ((n : Int)) [46, 100, 111, 110, 101] (by omega) (by omega) (by simp) ((((((((((((acc) ++ p0) ++ p1) ++ p2) ++ p3) ++ p4) ++ p5) ++ p6) ++ p7) ++ p8) ++ p9) ++ p10) (by first | omega | (simp only [List.length_append]; omega))
  generalize hgp11 : (Xf 7 ((n : Int)) [46, 100, 111, 110, 101]) = p11 at *
  have hP12 := Ua hM hH n (by omega) 0 (by omega) (((((((((((((acc) ++ p0) ++ p1) ++ p2) ++ p3) ++ p4) ++ p5) ++ p6) ++ p7) ++ p8) ++ p9) ++ p10) ++ p11) (by rw [hgp8]; simp only [List.length_append]; omega)
  rw [hgp8] at hP12
  have hP13 := Zv (n : Int) ((((((((((((((acc) ++ p0) ++ p1) ++ p2) ++ p3) ++ p4) ++ p5) ++ p6) ++ p7) ++ p8) ++ p9) ++ p10) ++ p11) ++ p8) [[46, 100, 111, 110, 101, 58]] (by simp only [List.length_append]; omega) (by simp)
  generalize putS [[46, 100, 111, 110, 101, 58]] = p13 at *
  have hP14 := S8 hM hH n ((n : Int) + 1) (by omega) (((((((((((((((acc) ++ p0) ++ p1) ++ p2) ++ p3) ++ p4) ++ p5) ++ p6) ++ p7) ++ p8) ++ p9) ++ p10) ++ p11) ++ p8) ++ p13) (by first | omega | (simp only [List.length_append]; omega))
  generalize hgp14 : (T3 ((n : Int) + 1)) = p14 at *
  refine Y9.fn.gcp (by simp) (by simp [Yo, Yr, Yp, Zw, Zp, Vc.S1.okN, At.okN, SV.okN, Res.okN, Res.outOk, Z1, Res.own, Value.oneCell']) fun w X fr hglob => ?_
  have hj : (((((((((((((((acc) ++ p0) ++ p1) ++ p2) ++ p3) ++ p4) ++ p5) ++ p6) ++ p7) ++ p8) ++ p9) ++ p10) ++ p11) ++ p8) ++ p13) ++ p14 = acc ++ ((((((((((((((p0 ++ p1) ++ p2) ++ p3) ++ p4) ++ p5) ++ p6) ++ p7) ++ p8) ++ p9) ++ p10) ++ p11) ++ p8) ++ p13) ++ p14) := by simp only [List.append_assoc]
  rw [hj] at hP14
  repeat' (first | ((first | (with_reducible first | refine T.regs ?_ | refine T.cond ?_ | refine T.reg ?_ | refine T.ret ?_ | refine T.exit ?_ | refine T.skip ?_) | ((with_reducible first | refine T.dregs ?_ ?_ | refine T.dreg ?_ ?_ | refine T.dregts ?_ ?_ | refine T.dregt ?_ ?_ | refine T.danys ?_ ?_ | refine T.dany ?_ ?_); exact mix) | ((with_reducible refine Za.gcp hglob (hSz0_0) ?_ ?_); (focus ((simp [Zm]); done))) | ((with_reducible refine Za.gc (hP0) ?_ ?_); (focus ((simp [Zm]); done))) | ((with_reducible refine Za.gc (hP1) ?_ ?_); (focus ((simp [Zm]); done))) | ((with_reducible refine Za.gcp hglob (hP2) ?_ ?_); (focus ((simp [Zm]); done))) | ((with_reducible refine Za.gc (hP3) ?_ ?_); (focus ((simp [Zm]); done))) | ((with_reducible refine Za.gcp hglob (hP4) ?_ ?_); (focus ((simp [Zm]); done))) | ((with_reducible refine Za.gcp hglob (hP5) ?_ ?_); (focus ((simp [Zm]); done))) | ((with_reducible refine Za.gc (hP6) ?_ ?_); (focus ((simp [Zm]); done))) | ((with_reducible refine Za.gcp hglob (hP7) ?_ ?_); (focus ((simp [Zm]); done))) | ((with_reducible refine Za.gcp hglob (hP8) ?_ ?_); (focus ((simp [Zm]); done))) | ((with_reducible refine Za.gc (hP9) ?_ ?_); (focus ((simp [Zm]); done))) | ((with_reducible refine Za.gcp hglob (hSz10_1) ?_ ?_); (focus ((simp [Zm]); done))) | ((with_reducible refine Za.gc (hP10) ?_ ?_); (focus ((simp [Zm]); done))) | ((with_reducible refine Za.gcp hglob (hP11) ?_ ?_); (focus ((simp [Zm]); done))) | ((with_reducible refine Za.gcp hglob (hP12) ?_ ?_); (focus ((simp [Zm]); done))) | ((with_reducible refine Za.gc (hP13) ?_ ?_); (focus ((simp [Zm]); done))) | ((with_reducible refine Za.gcp hglob (hP14) ?_ ?_); (focus ((simp [Zm]); done)))); simp only [Zh, Zi, Int.reduceEq, Int.reduceNeg, Int.reduceLE, Int.reduceLT, Nat.reduceSub, ↓reduceIte, reduceCtorEq, Nat.reduceEqDiff, Nat.reduceAdd, Nat.reduceMul, Nat.reduceLeDiff, Nat.reduceLT, Nat.reduceBEq, Nat.reduceBNe, implies_true, Y9.rs, Y9.res, hm16, hm2, hm1, hp1, Bool.not_true, Bool.not_false, Int.ofNat_lt]) | (with_reducible first | refine T.seq ?_ | refine T.block ?_ | assumption | refine And.intro ?_ ?_) | (intro h; first | (exfalso; omega) | exact (tf h ‹_›).elim | exact (tf ‹_› h).elim | skip))
  all_goals first | omega | (simp only [List.length_append, List.length_cons, List.length_nil]; omega) | skip
def I1 (n : Nat) : List UInt8 := (((putS [[108, 100, 32, 114, 51, 44, 32, 114, 49, 44, 32, 48], sayS [108, 100, 105, 32, 114, 52, 44, 32, 37, 100] [16 * (n : Int)], [99, 109, 112, 32, 114, 51, 44, 32, 114, 52], [106, 99, 32, 46, 108, 111, 111, 112], [109, 111, 118, 32, 114, 51, 44, 32, 114, 52], [46, 108, 111, 111, 112, 58], [108, 100, 105, 32, 114, 52, 44, 32, 48], [99, 109, 112, 32, 114, 51, 44, 32, 114, 52], [106, 122, 32, 46, 100, 111, 110, 101]]) ++ (X9 n 0 0 [115, 104, 108] [114, 111, 108] [])) ++ (putS [[108, 100, 105, 32, 114, 52, 44, 32, 49], [115, 117, 98, 32, 114, 51, 44, 32, 114, 52], [106, 109, 112, 32, 46, 108, 111, 111, 112], [46, 100, 111, 110, 101, 58], [114, 101, 116]]))
set_option maxHeartbeats 16000000 in
set_option maxRecDepth 100000 in
theorem shl_gcp {G : Nat} {H : Nat → Option Obj} (hM : Xh G H) (hH : Y7 G H) (n : Nat) (hn : 1 ≤ n ∧ n ≤ 100) (acc : List UInt8) (hb : acc.length + (I1 n).length ≤ 100000) :
    GCp G H Tryz.prog 54 ([.a (.loc 0 0)] ++ [.a (.str [115, 104, 108])]) [(0, .cells 64 [.loc 0 0, .ref 1, .int .i64 (n : Int)]), (1, .row 5 (.int .u8) (bytesI (acc)))] 2 [0] (.tup []) [(0, .cells 64 [.loc 0 0, .ref 2, .int .i64 (n : Int)]), (2, .row 5 (.int .u8) (bytesI (acc ++ I1 n)))] 3 := by
  unfold I1 at *
  simp only [List.length_append] at hb
  have hne : (([115, 104, 108] : List UInt8) = [115, 104, 108]) = True := by simp
  have hm16 : IntKind.i64.wrap (16 * (n : Int)) = 16 * (n : Int) := Ya (by omega) (by omega)
  have hm2 : IntKind.i64.wrap (2 * (n : Int)) = 2 * (n : Int) := Ya (by omega) (by omega)
  have hm1 : IntKind.i64.wrap ((n : Int) - 1) = (n : Int) - 1 := Ya (by omega) (by omega)
  have hp1 : IntKind.i64.wrap ((n : Int) + 1) = (n : Int) + 1 := Ya (by omega) (by omega)
  have hSz0_0 := Ys hM hH [108, 100, 105, 32, 114, 52, 44, 32, 37, 100] [16 * (n : Int)] (by simp; omega) (by simp) (by simp)
  generalize sayS [108, 100, 105, 32, 114, 52, 44, 32, 37, 100] [16 * (n : Int)] = z0_0 at *
  have hP0 := Zv (n : Int) (acc) [[108, 100, 32, 114, 51, 44, 32, 114, 49, 44, 32, 48], z0_0, [99, 109, 112, 32, 114, 51, 44, 32, 114, 52], [106, 99, 32, 46, 108, 111, 111, 112], [109, 111, 118, 32, 114, 51, 44, 32, 114, 52], [46, 108, 111, 111, 112, 58], [108, 100, 105, 32, 114, 52, 44, 32, 48], [99, 109, 112, 32, 114, 51, 44, 32, 114, 52], [106, 122, 32, 46, 100, 111, 110, 101]] (by omega) (by simp)
  generalize putS [[108, 100, 32, 114, 51, 44, 32, 114, 49, 44, 32, 48], z0_0, [99, 109, 112, 32, 114, 51, 44, 32, 114, 52], [106, 99, 32, 46, 108, 111, 111, 112], [109, 111, 118, 32, 114, 51, 44, 32, 114, 52], [46, 108, 111, 111, 112, 58], [108, 100, 105, 32, 114, 52, 44, 32, 48], [99, 109, 112, 32, 114, 51, 44, 32, 114, 52], [106, 122, 32, 46, 100, 111, 110, 101]] = p0 at *
  have hP1 := V6 hM hH n (by omega) 0 0 [115, 104, 108] [114, 111, 108] [] (by omega) (by omega) (by simp) (by simp) (by simp) ((acc) ++ p0) (by first | omega | (simp only [List.length_append]; omega))
  generalize hgp1 : (X9 n 0 0 [115, 104, 108] [114, 111, 108] []) = p1 at *
  have hP2 := Zv (n : Int) (((acc) ++ p0) ++ p1) [[108, 100, 105, 32, 114, 52, 44, 32, 49], [115, 117, 98, 32, 114, 51, 44, 32, 114, 52], [106, 109, 112, 32, 46, 108, 111, 111, 112], [46, 100, 111, 110, 101, 58], [114, 101, 116]] (by simp only [List.length_append]; omega) (by simp)
  generalize putS [[108, 100, 105, 32, 114, 52, 44, 32, 49], [115, 117, 98, 32, 114, 51, 44, 32, 114, 52], [106, 109, 112, 32, 46, 108, 111, 111, 112], [46, 100, 111, 110, 101, 58], [114, 101, 116]] = p2 at *
  refine Yk.fn.gcp (by simp) (by simp [Yo, Yr, Yp, Zw, Zp, Vc.S1.okN, At.okN, SV.okN, Res.okN, Res.outOk, Z1, Res.own, Value.oneCell']) fun w X fr hglob => ?_
  have hj : (((acc) ++ p0) ++ p1) ++ p2 = acc ++ ((p0 ++ p1) ++ p2) := by simp only [List.append_assoc]
  rw [hj] at hP2
  repeat' (first | ((first | (with_reducible first | refine T.regs ?_ | refine T.cond ?_ | refine T.reg ?_ | refine T.ret ?_ | refine T.exit ?_ | refine T.skip ?_) | ((with_reducible first | refine T.dregs ?_ ?_ | refine T.dreg ?_ ?_ | refine T.dregts ?_ ?_ | refine T.dregt ?_ ?_ | refine T.danys ?_ ?_ | refine T.dany ?_ ?_); exact mix) | ((with_reducible refine Za.gcp hglob (hSz0_0) ?_ ?_); (focus ((simp [Zm]); done))) | ((with_reducible refine Za.gc (hP0) ?_ ?_); (focus ((simp [Zm]); done))) | ((with_reducible refine Za.gcp hglob (hP1) ?_ ?_); (focus ((simp [Zm]); done))) | ((with_reducible refine Za.gc (hP2) ?_ ?_); (focus ((simp [Zm]); done)))); simp only [Zh, Zi, Int.reduceEq, Int.reduceNeg, Int.reduceLE, Int.reduceLT, Nat.reduceSub, ↓reduceIte, reduceCtorEq, Nat.reduceEqDiff, Nat.reduceAdd, Nat.reduceMul, Nat.reduceLeDiff, Nat.reduceLT, Nat.reduceBEq, Nat.reduceBNe, implies_true, Yk.rs, Yk.res, hm16, hm2, hm1, hp1, Bool.not_true, Bool.not_false, Int.ofNat_lt, hne, decide_true]) | (with_reducible first | refine T.seq ?_ | refine T.block ?_ | assumption | refine And.intro ?_ ?_) | (intro h; first | (exfalso; omega) | exact (tf h ‹_›).elim | exact (tf ‹_› h).elim | skip))
  all_goals first | omega | (simp only [List.length_append, List.length_cons, List.length_nil]; omega) | skip
def Hj (n : Nat) : List UInt8 := (((putS [[108, 100, 32, 114, 51, 44, 32, 114, 49, 44, 32, 48], sayS [108, 100, 105, 32, 114, 52, 44, 32, 37, 100] [16 * (n : Int)], [99, 109, 112, 32, 114, 51, 44, 32, 114, 52], [106, 99, 32, 46, 108, 111, 111, 112], [109, 111, 118, 32, 114, 51, 44, 32, 114, 52], [46, 108, 111, 111, 112, 58], [108, 100, 105, 32, 114, 52, 44, 32, 48], [99, 109, 112, 32, 114, 51, 44, 32, 114, 52], [106, 122, 32, 46, 100, 111, 110, 101]]) ++ (Q4 n 0 [115, 104, 114])) ++ (putS [[108, 100, 105, 32, 114, 52, 44, 32, 49], [115, 117, 98, 32, 114, 51, 44, 32, 114, 52], [106, 109, 112, 32, 46, 108, 111, 111, 112], [46, 100, 111, 110, 101, 58], [114, 101, 116]]))
set_option maxHeartbeats 16000000 in
set_option maxRecDepth 100000 in
theorem shr_gcp {G : Nat} {H : Nat → Option Obj} (hM : Xh G H) (hH : Y7 G H) (n : Nat) (hn : 1 ≤ n ∧ n ≤ 100) (acc : List UInt8) (hb : acc.length + (Hj n).length ≤ 100000) :
    GCp G H Tryz.prog 54 ([.a (.loc 0 0)] ++ [.a (.str [115, 104, 114])]) [(0, .cells 64 [.loc 0 0, .ref 1, .int .i64 (n : Int)]), (1, .row 5 (.int .u8) (bytesI (acc)))] 2 [0] (.tup []) [(0, .cells 64 [.loc 0 0, .ref 2, .int .i64 (n : Int)]), (2, .row 5 (.int .u8) (bytesI (acc ++ Hj n)))] 3 := by
  unfold Hj at *
  simp only [List.length_append] at hb
  have hne : (([115, 104, 114] : List UInt8) = [115, 104, 108]) = False := by simp
  have hm16 : IntKind.i64.wrap (16 * (n : Int)) = 16 * (n : Int) := Ya (by omega) (by omega)
  have hm2 : IntKind.i64.wrap (2 * (n : Int)) = 2 * (n : Int) := Ya (by omega) (by omega)
  have hm1 : IntKind.i64.wrap ((n : Int) - 1) = (n : Int) - 1 := Ya (by omega) (by omega)
  have hp1 : IntKind.i64.wrap ((n : Int) + 1) = (n : Int) + 1 := Ya (by omega) (by omega)
  have hSz0_0 := Ys hM hH [108, 100, 105, 32, 114, 52, 44, 32, 37, 100] [16 * (n : Int)] (by simp; omega) (by simp) (by simp)
  generalize sayS [108, 100, 105, 32, 114, 52, 44, 32, 37, 100] [16 * (n : Int)] = z0_0 at *
  have hP0 := Zv (n : Int) (acc) [[108, 100, 32, 114, 51, 44, 32, 114, 49, 44, 32, 48], z0_0, [99, 109, 112, 32, 114, 51, 44, 32, 114, 52], [106, 99, 32, 46, 108, 111, 111, 112], [109, 111, 118, 32, 114, 51, 44, 32, 114, 52], [46, 108, 111, 111, 112, 58], [108, 100, 105, 32, 114, 52, 44, 32, 48], [99, 109, 112, 32, 114, 51, 44, 32, 114, 52], [106, 122, 32, 46, 100, 111, 110, 101]] (by omega) (by simp)
  generalize putS [[108, 100, 32, 114, 51, 44, 32, 114, 49, 44, 32, 48], z0_0, [99, 109, 112, 32, 114, 51, 44, 32, 114, 52], [106, 99, 32, 46, 108, 111, 111, 112], [109, 111, 118, 32, 114, 51, 44, 32, 114, 52], [46, 108, 111, 111, 112, 58], [108, 100, 105, 32, 114, 52, 44, 32, 48], [99, 109, 112, 32, 114, 51, 44, 32, 114, 52], [106, 122, 32, 46, 100, 111, 110, 101]] = p0 at *
  have hP1 := O0 hM hH n (by omega) 0 [115, 104, 114] (by omega) (by simp) ((acc) ++ p0) (by first | omega | (simp only [List.length_append]; omega))
  generalize hgp1 : (Q4 n 0 [115, 104, 114]) = p1 at *
  have hP2 := Zv (n : Int) (((acc) ++ p0) ++ p1) [[108, 100, 105, 32, 114, 52, 44, 32, 49], [115, 117, 98, 32, 114, 51, 44, 32, 114, 52], [106, 109, 112, 32, 46, 108, 111, 111, 112], [46, 100, 111, 110, 101, 58], [114, 101, 116]] (by simp only [List.length_append]; omega) (by simp)
  generalize putS [[108, 100, 105, 32, 114, 52, 44, 32, 49], [115, 117, 98, 32, 114, 51, 44, 32, 114, 52], [106, 109, 112, 32, 46, 108, 111, 111, 112], [46, 100, 111, 110, 101, 58], [114, 101, 116]] = p2 at *
  refine Yk.fn.gcp (by simp) (by simp [Yo, Yr, Yp, Zw, Zp, Vc.S1.okN, At.okN, SV.okN, Res.okN, Res.outOk, Z1, Res.own, Value.oneCell']) fun w X fr hglob => ?_
  have hj : (((acc) ++ p0) ++ p1) ++ p2 = acc ++ ((p0 ++ p1) ++ p2) := by simp only [List.append_assoc]
  rw [hj] at hP2
  repeat' (first | ((first | (with_reducible first | refine T.regs ?_ | refine T.cond ?_ | refine T.reg ?_ | refine T.ret ?_ | refine T.exit ?_ | refine T.skip ?_) | ((with_reducible first | refine T.dregs ?_ ?_ | refine T.dreg ?_ ?_ | refine T.dregts ?_ ?_ | refine T.dregt ?_ ?_ | refine T.danys ?_ ?_ | refine T.dany ?_ ?_); exact mix) | ((with_reducible refine Za.gcp hglob (hSz0_0) ?_ ?_); (focus ((simp [Zm]); done))) | ((with_reducible refine Za.gc (hP0) ?_ ?_); (focus ((simp [Zm]); done))) | ((with_reducible refine Za.gcp hglob (hP1) ?_ ?_); (focus ((simp [Zm]); done))) | ((with_reducible refine Za.gc (hP2) ?_ ?_); (focus ((simp [Zm]); done)))); simp only [Zh, Zi, Int.reduceEq, Int.reduceNeg, Int.reduceLE, Int.reduceLT, Nat.reduceSub, ↓reduceIte, reduceCtorEq, Nat.reduceEqDiff, Nat.reduceAdd, Nat.reduceMul, Nat.reduceLeDiff, Nat.reduceLT, Nat.reduceBEq, Nat.reduceBNe, implies_true, Yk.rs, Yk.res, hm16, hm2, hm1, hp1, Bool.not_true, Bool.not_false, Int.ofNat_lt, hne, decide_false]) | (with_reducible first | refine T.seq ?_ | refine T.block ?_ | assumption | refine And.intro ?_ ?_) | (intro h; first | (exfalso; omega) | exact (tf h ‹_›).elim | exact (tf ‹_› h).elim | skip))
  all_goals first | omega | (simp only [List.length_append, List.length_cons, List.length_nil]; omega) | skip
def Ir (n : Nat) : List UInt8 := (((putS [[108, 100, 32, 114, 51, 44, 32, 114, 49, 44, 32, 48], sayS [108, 100, 105, 32, 114, 52, 44, 32, 37, 100] [16 * (n : Int)], [99, 109, 112, 32, 114, 51, 44, 32, 114, 52], [106, 99, 32, 46, 108, 111, 111, 112], [109, 111, 118, 32, 114, 51, 44, 32, 114, 52], [46, 108, 111, 111, 112, 58], [108, 100, 105, 32, 114, 52, 44, 32, 48], [99, 109, 112, 32, 114, 51, 44, 32, 114, 52], [106, 122, 32, 46, 100, 111, 110, 101]]) ++ (Q4 n 0 [115, 97, 114])) ++ (putS [[108, 100, 105, 32, 114, 52, 44, 32, 49], [115, 117, 98, 32, 114, 51, 44, 32, 114, 52], [106, 109, 112, 32, 46, 108, 111, 111, 112], [46, 100, 111, 110, 101, 58], [114, 101, 116]]))
set_option maxHeartbeats 16000000 in
set_option maxRecDepth 100000 in
theorem sar_gcp {G : Nat} {H : Nat → Option Obj} (hM : Xh G H) (hH : Y7 G H) (n : Nat) (hn : 1 ≤ n ∧ n ≤ 100) (acc : List UInt8) (hb : acc.length + (Ir n).length ≤ 100000) :
    GCp G H Tryz.prog 54 ([.a (.loc 0 0)] ++ [.a (.str [115, 97, 114])]) [(0, .cells 64 [.loc 0 0, .ref 1, .int .i64 (n : Int)]), (1, .row 5 (.int .u8) (bytesI (acc)))] 2 [0] (.tup []) [(0, .cells 64 [.loc 0 0, .ref 2, .int .i64 (n : Int)]), (2, .row 5 (.int .u8) (bytesI (acc ++ Ir n)))] 3 := by
  unfold Ir at *
  simp only [List.length_append] at hb
  have hne : (([115, 97, 114] : List UInt8) = [115, 104, 108]) = False := by simp
  have hm16 : IntKind.i64.wrap (16 * (n : Int)) = 16 * (n : Int) := Ya (by omega) (by omega)
  have hm2 : IntKind.i64.wrap (2 * (n : Int)) = 2 * (n : Int) := Ya (by omega) (by omega)
  have hm1 : IntKind.i64.wrap ((n : Int) - 1) = (n : Int) - 1 := Ya (by omega) (by omega)
  have hp1 : IntKind.i64.wrap ((n : Int) + 1) = (n : Int) + 1 := Ya (by omega) (by omega)
  have hSz0_0 := Ys hM hH [108, 100, 105, 32, 114, 52, 44, 32, 37, 100] [16 * (n : Int)] (by simp; omega) (by simp) (by simp)
  generalize sayS [108, 100, 105, 32, 114, 52, 44, 32, 37, 100] [16 * (n : Int)] = z0_0 at *
  have hP0 := Zv (n : Int) (acc) [[108, 100, 32, 114, 51, 44, 32, 114, 49, 44, 32, 48], z0_0, [99, 109, 112, 32, 114, 51, 44, 32, 114, 52], [106, 99, 32, 46, 108, 111, 111, 112], [109, 111, 118, 32, 114, 51, 44, 32, 114, 52], [46, 108, 111, 111, 112, 58], [108, 100, 105, 32, 114, 52, 44, 32, 48], [99, 109, 112, 32, 114, 51, 44, 32, 114, 52], [106, 122, 32, 46, 100, 111, 110, 101]] (by omega) (by simp)
  generalize putS [[108, 100, 32, 114, 51, 44, 32, 114, 49, 44, 32, 48], z0_0, [99, 109, 112, 32, 114, 51, 44, 32, 114, 52], [106, 99, 32, 46, 108, 111, 111, 112], [109, 111, 118, 32, 114, 51, 44, 32, 114, 52], [46, 108, 111, 111, 112, 58], [108, 100, 105, 32, 114, 52, 44, 32, 48], [99, 109, 112, 32, 114, 51, 44, 32, 114, 52], [106, 122, 32, 46, 100, 111, 110, 101]] = p0 at *
  have hP1 := O0 hM hH n (by omega) 0 [115, 97, 114] (by omega) (by simp) ((acc) ++ p0) (by first | omega | (simp only [List.length_append]; omega))
  generalize hgp1 : (Q4 n 0 [115, 97, 114]) = p1 at *
  have hP2 := Zv (n : Int) (((acc) ++ p0) ++ p1) [[108, 100, 105, 32, 114, 52, 44, 32, 49], [115, 117, 98, 32, 114, 51, 44, 32, 114, 52], [106, 109, 112, 32, 46, 108, 111, 111, 112], [46, 100, 111, 110, 101, 58], [114, 101, 116]] (by simp only [List.length_append]; omega) (by simp)
  generalize putS [[108, 100, 105, 32, 114, 52, 44, 32, 49], [115, 117, 98, 32, 114, 51, 44, 32, 114, 52], [106, 109, 112, 32, 46, 108, 111, 111, 112], [46, 100, 111, 110, 101, 58], [114, 101, 116]] = p2 at *
  refine Yk.fn.gcp (by simp) (by simp [Yo, Yr, Yp, Zw, Zp, Vc.S1.okN, At.okN, SV.okN, Res.okN, Res.outOk, Z1, Res.own, Value.oneCell']) fun w X fr hglob => ?_
  have hj : (((acc) ++ p0) ++ p1) ++ p2 = acc ++ ((p0 ++ p1) ++ p2) := by simp only [List.append_assoc]
  rw [hj] at hP2
  repeat' (first | ((first | (with_reducible first | refine T.regs ?_ | refine T.cond ?_ | refine T.reg ?_ | refine T.ret ?_ | refine T.exit ?_ | refine T.skip ?_) | ((with_reducible first | refine T.dregs ?_ ?_ | refine T.dreg ?_ ?_ | refine T.dregts ?_ ?_ | refine T.dregt ?_ ?_ | refine T.danys ?_ ?_ | refine T.dany ?_ ?_); exact mix) | ((with_reducible refine Za.gcp hglob (hSz0_0) ?_ ?_); (focus ((simp [Zm]); done))) | ((with_reducible refine Za.gc (hP0) ?_ ?_); (focus ((simp [Zm]); done))) | ((with_reducible refine Za.gcp hglob (hP1) ?_ ?_); (focus ((simp [Zm]); done))) | ((with_reducible refine Za.gc (hP2) ?_ ?_); (focus ((simp [Zm]); done)))); simp only [Zh, Zi, Int.reduceEq, Int.reduceNeg, Int.reduceLE, Int.reduceLT, Nat.reduceSub, ↓reduceIte, reduceCtorEq, Nat.reduceEqDiff, Nat.reduceAdd, Nat.reduceMul, Nat.reduceLeDiff, Nat.reduceLT, Nat.reduceBEq, Nat.reduceBNe, implies_true, Yk.rs, Yk.res, hm16, hm2, hm1, hp1, Bool.not_true, Bool.not_false, Int.ofNat_lt, hne, decide_false]) | (with_reducible first | refine T.seq ?_ | refine T.block ?_ | assumption | refine And.intro ?_ ?_) | (intro h; first | (exfalso; omega) | exact (tf h ‹_›).elim | exact (tf ‹_› h).elim | skip))
  all_goals first | omega | (simp only [List.length_append, List.length_cons, List.length_nil]; omega) | skip
end Go.Proofs.YtjochhncheheaaaGreatDoor
