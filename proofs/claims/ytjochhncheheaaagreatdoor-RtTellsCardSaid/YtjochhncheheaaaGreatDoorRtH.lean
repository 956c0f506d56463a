/-
  A part of the proofs of this seat's laws: a step on the way. It has no conditions of its own.
-/
import Derived.Test.YtjochhncheheaaaGreatDoorRtG
namespace Go.Proofs.YtjochhncheheaaaGreatDoor
open Go Go.RowKit Vc
set_option linter.unusedVariables false
set_option linter.unusedSimpArgs false
attribute [local irreducible] T Za Z2 Ent RdC RwC Xl Zc Zs
def mulS (n : Nat) : List UInt8 := ((((((((((((Vs n 0) ++ (Vs n 1)) ++ (putS [[108, 100, 105, 32, 114, 50, 44, 32, 48]])) ++ (rep (n) fun i => [sayS [115, 116, 32, 114, 48, 44, 32, 114, 50, 44, 32, 37, 100] [(i : Int)]])) ++ (putS [sayS [108, 100, 105, 32, 114, 51, 44, 32, 37, 100] [16 * (n : Int)], [46, 108, 111, 111, 112, 58]])) ++ (Q4 n 7 [115, 104, 114])) ++ (putS [[106, 110, 99, 32, 46, 115, 107, 105, 112]])) ++ (Tw n 0 7 (n : Int) [97, 100, 100] [97, 100, 99] true)) ++ (putS [[46, 115, 107, 105, 112, 58]])) ++ (X9 n 7 (n : Int) [115, 104, 108] [114, 111, 108] [])) ++ (Sb )) ++ (T3 (2 * (n : Int))))
set_option maxHeartbeats 16000000 in
set_option maxRecDepth 100000 in
theorem mul_gcp {G : Nat} {H : Nat → Option Obj} (hM : Xh G H) (hH : Y7 G H) (n : Nat) (hn : 1 ≤ n ∧ n ≤ 100) (acc : List UInt8) (hb : acc.length + (mulS n).length ≤ 100000) :
    GCp G H Tryz.prog 46 ([.a (.loc 0 0)] ++ []) [(0, .cells 64 [.loc 0 0, .ref 1, .int .i64 (n : Int)]), (1, .row 5 (.int .u8) (bytesI (acc)))] 2 [0] (.tup []) [(0, .cells 64 [.loc 0 0, .ref 2, .int .i64 (n : Int)]), (2, .row 5 (.int .u8) (bytesI (acc ++ mulS n)))] 3 := by
  unfold mulS at *
  simp only [List.length_append] at hb
  have hm16 : IntKind.i64.wrap (16 * (n : Int)) = 16 * (n : Int) := Ya (by omega) (by omega)
  have hm2 : IntKind.i64.wrap (2 * (n : Int)) = 2 * (n : Int) := Ya (by omega) (by omega)
  have hm1 : IntKind.i64.wrap ((n : Int) - 1) = (n : Int) - 1 := Ya (by omega) (by omega)
  have hp1 : IntKind.i64.wrap ((n : Int) + 1) = (n : Int) + 1 := Ya (by omega) (by omega)
  have hP0 := Sl hM hH n (by omega) 0 (by omega) (acc) (by omega)
  generalize hgp0 : (Vs n 0) = p0 at *
  have hP1 := Sl hM hH n (by omega) 1 (by omega) ((acc) ++ p0) (by first | omega | (simp only [List.length_append]; omega))
  generalize hgp1 : (Vs n 1) = p1 at *
  have hP2 := Zv (n : Int) (((acc) ++ p0) ++ p1) [[108, 100, 105, 32, 114, 50, 44, 32, 48]] (by simp only [List.length_append]; omega) (by simp)
  generalize putS [[108, 100, 105, 32, 114, 50, 44, 32, 48]] = p2 at *
  refine Y6.fn.gcp (by simp) (by simp [Yo, Yr, Yp, Zw, Zp, Vc.S1.okN, At.okN, SV.okN, Res.okN, Res.outOk, Z1, Res.own, Value.oneCell']) fun w X fr hglob => ?_
  repeat' (first | ((first | (with_reducible first | refine T.regs ?_ | refine T.cond ?_ | refine T.reg ?_ | refine T.ret ?_ | refine T.exit ?_ | refine T.skip ?_) | ((with_reducible first | refine T.dregs ?_ ?_ | refine T.dreg ?_ ?_ | refine T.dregts ?_ ?_ | refine T.dregt ?_ ?_ | refine T.danys ?_ ?_ | refine T.dany ?_ ?_); exact mix) | ((with_reducible refine Za.gcp hglob (hP0) ?_ ?_); (focus ((simp [Zm]); done))) | ((with_reducible refine Za.gcp hglob (hP1) ?_ ?_); (focus ((simp [Zm]); done))) | ((with_reducible refine Za.gc (hP2) ?_ ?_); (focus ((simp [Zm]); done)))); simp only [Zh, Zi, Int.reduceEq, Int.reduceNeg, Int.reduceLE, Int.reduceLT, Nat.reduceSub, ↓reduceIte, reduceCtorEq, Nat.reduceEqDiff, Nat.reduceAdd, Nat.reduceMul, Nat.reduceLeDiff, Nat.reduceLT, Nat.reduceBEq, Nat.reduceBNe, implies_true, Y6.rs, Y6.res, hm16, hm2, hm1, hp1, Bool.not_true, Bool.not_false, Int.ofNat_lt]) | (with_reducible first | refine T.seq ?_ | refine T.block ?_ | assumption | refine And.intro ?_ ?_) | (intro h; first | (exfalso; omega) | exact (tf h ‹_›).elim | exact (tf ‹_› h).elim | skip))
  all_goals first | omega | (simp only [List.length_append, List.length_cons, List.length_nil]; omega) | skip
  have hAl3 : ((((acc) ++ p0) ++ p1) ++ p2).length = ((((acc) ++ p0) ++ p1) ++ p2).length := rfl
  conv at hAl3 => rhs; simp only [List.length_append]
  generalize hA3 : (((acc) ++ p0) ++ p1) ++ p2 = a3 at *
  refine T.loop (ι := { k : Nat // k ≤ n })
    (fun x => ⟨[(14, .one (.a (.int .i64 (x.1 : Int)))), (13, .one (.a (.int .i64 (n : Int)))), (0, .one (.a (.loc 0 0))), (1000000, .one (.a (.ref 0)))],
      [(0, .cells 64 [.loc 0 0, .ref 1, .int .i64 (n : Int)]), (1, .row 5 (.int .u8) (bytesI (a3 ++ rep x.1 fun i => [sayS [115, 116, 32, 114, 48, 44, 32, 114, 50, 44, 32, 37, 100] [(i : Int)]])))], 2⟩) (fun x => n - x.1) ⟨0, by simp⟩ (Ent.mk1 (fun n => if n = 1 then 5 else n) (by simp [Z7, rep, hA3])) ?_
  rintro ⟨k, hk⟩
  simp only
  by_cases hlt : k < n
  · have hmono := Wm (fun i => [sayS [115, 116, 32, 114, 48, 44, 32, 114, 50, 44, 32, 37, 100] [(i : Int)]]) (show k + 1 ≤ n from hlt)
    rw [Y0] at hmono
    simp only [List.length_append] at hmono
    have ha2 : a3 ++ rep (k + 1) (fun i => [sayS [115, 116, 32, 114, 48, 44, 32, 114, 50, 44, 32, 37, 100] [(i : Int)]]) = (a3 ++ rep k (fun i => [sayS [115, 116, 32, 114, 48, 44, 32, 114, 50, 44, 32, 37, 100] [(i : Int)]])) ++ putS [sayS [115, 116, 32, 114, 48, 44, 32, 114, 50, 44, 32, 37, 100] [(k : Int)]] := by rw [Y0, List.append_assoc]
    have hac : (a3 ++ rep k (fun i => [sayS [115, 116, 32, 114, 48, 44, 32, 114, 50, 44, 32, 37, 100] [(i : Int)]])).length = a3.length + (rep k (fun i => [sayS [115, 116, 32, 114, 48, 44, 32, 114, 50, 44, 32, 37, 100] [(i : Int)]])).length := by simp
    have hw : IntKind.i64.wrap ((k : Int) + 1) = ((k + 1 : Nat) : Int) := Z4 (by omega)
    have hw2 : IntKind.i64.wrap ((k : Int) + 1 + 1) = ((k + 1 : Nat) : Int) + 1 := by have := Z4 (k := k + 1) (by omega); simpa using this
    have hlt2 : ((k : Nat) : Int) < (n : Int) := by omega
    generalize hacc : a3 ++ rep k (fun i => [sayS [115, 116, 32, 114, 48, 44, 32, 114, 50, 44, 32, 37, 100] [(i : Int)]]) = a at *
    generalize rep k (fun i => [sayS [115, 116, 32, 114, 48, 44, 32, 114, 50, 44, 32, 37, 100] [(i : Int)]]) = pre at *
    have hS0 := Ys hM hH [115, 116, 32, 114, 48, 44, 32, 114, 50, 44, 32, 37, 100] [(k : Int)] (by simp; omega) (by simp) (by simp)
    generalize sayS [115, 116, 32, 114, 48, 44, 32, 114, 50, 44, 32, 37, 100] [(k : Int)] = z0 at *
    have hP := Zv (n : Int) a [z0] (by omega) (by simp)
    repeat' (first | ((first | (with_reducible first | refine T.regs ?_ | refine T.cond ?_ | refine T.reg ?_ | refine T.ret ?_ | refine T.exit ?_ | refine T.skip ?_) | ((with_reducible first | refine T.dregs ?_ ?_ | refine T.dreg ?_ ?_ | refine T.dregts ?_ ?_ | refine T.dregt ?_ ?_ | refine T.danys ?_ ?_ | refine T.dany ?_ ?_); exact mix) | ((with_reducible refine Za.gcp hglob (hS0) ?_ ?_); (focus ((simp [Zm]); done))) | ((with_reducible refine Za.gc (hP) ?_ ?_); (focus ((simp [Zm]); done)))); simp only [Zh, Zi, Int.reduceEq, Int.reduceNeg, Int.reduceLE, Int.reduceLT, Nat.reduceSub, ↓reduceIte, reduceCtorEq, Nat.reduceEqDiff, Nat.reduceAdd, Nat.reduceMul, Nat.reduceLeDiff, Nat.reduceLT, Nat.reduceBEq, Nat.reduceBNe, implies_true, Y6.rs, Y6.res, hlt2, hw, hw2, hm16, hm2, hm1, hp1, Bool.not_true, Bool.not_false, Int.ofNat_lt]) | (with_reducible first | refine T.seq ?_ | refine T.block ?_ | assumption | refine And.intro ?_ ?_) | (intro h; first | (exfalso; omega) | exact (tf h ‹_›).elim | exact (tf ‹_› h).elim | skip))
    all_goals first | omega | (simp only [List.length_append, List.length_cons, List.length_nil]; omega) | skip
    exact ⟨⟨k + 1, hlt⟩, (Ent.mk1 (fun n => if n = 1 then 4 else n) (by simp [Z7, ha2, hw, hw2])), by simp only; omega⟩
  have hk2 : n = k := by omega
  subst hk2
  have hnl : ¬ (((n : Nat) : Int)) < (n : Int) := by omega
  clear hlt hk
  generalize (rep (n) fun i => [sayS [115, 116, 32, 114, 48, 44, 32, 114, 50, 44, 32, 37, 100] [(i : Int)]]) = p3 at *
  have hSz4_0 := Ys hM hH [108, 100, 105, 32, 114, 51, 44, 32, 37, 100] [16 * (n : Int)] (by simp; omega) (by simp) (by simp)
  generalize sayS [108, 100, 105, 32, 114, 51, 44, 32, 37, 100] [16 * (n : Int)] = z4_0 at *
  have hP4 := Zv (n : Int) (a3 ++ p3) [z4_0, [46, 108, 111, 111, 112, 58]] (by simp only [List.length_append]; omega) (by simp)
  generalize putS [z4_0, [46, 108, 111, 111, 112, 58]] = p4 at *
  have hP5 := O0 hM hH n (by omega) 7 [115, 104, 114] (by omega) (by simp) ((a3 ++ p3) ++ p4) (by first | omega | (simp only [List.length_append]; omega))
  generalize hgp5 : (Q4 n 7 [115, 104, 114]) = p5 at *
  have hP6 := Zv (n : Int) (((a3 ++ p3) ++ p4) ++ p5) [[106, 110, 99, 32, 46, 115, 107, 105, 112]] (by simp only [List.length_append]; omega) (by simp)
  generalize putS [[106, 110, 99, 32, 46, 115, 107, 105, 112]] = p6 at *
  have hP7 := Rh hM hH n (by omega) 0 7 (n : Int) [97, 100, 100] [97, 100, 99] true (by omega) (by omega) (by omega) (by simp) (by simp) ((((a3 ++ p3) ++ p4) ++ p5) ++ p6) (by first | omega | (simp only [List.length_append]; omega))
  generalize hgp7 : (Tw n 0 7 (n : Int) [97, 100, 100] [97, 100, 99] true) = p7 at *
  have hP8 := Zv (n : Int) (((((a3 ++ p3) ++ p4) ++ p5) ++ p6) ++ p7) [[46, 115, 107, 105, 112, 58]] (by simp only [List.length_append]; omega) (by simp)
  generalize putS [[46, 115, 107, 105, 112, 58]] = p8 at *
  have hP9 := V6 hM hH n (by omega) 7 (n : Int) [115, 104, 108] [114, 111, 108] [] (by omega) (by omega) (by simp) (by simp) (by simp) ((((((a3 ++ p3) ++ p4) ++ p5) ++ p6) ++ p7) ++ p8) (by first | omega | (simp only [List.length_append]; omega))
  generalize hgp9 : (X9 n 7 (n : Int) [115, 104, 108] [114, 111, 108] []) = p9 at *
  have hP10 := Py hM hH n (((((((a3 ++ p3) ++ p4) ++ p5) ++ p6) ++ p7) ++ p8) ++ p9) (by first | omega | (simp only [List.length_append]; omega))
  generalize hgp10 : (Sb ) = p10 at *
  have hP11 := S8 hM hH n (2 * (n : Int)) (by omega) ((((((((a3 ++ p3) ++ p4) ++ p5) ++ p6) ++ p7) ++ p8) ++ p9) ++ p10) (by first | omega | (simp only [List.length_append]; omega))
  generalize hgp11 : (T3 (2 * (n : Int))) = p11 at *
  have hj : ((((((((a3 ++ p3) ++ p4) ++ p5) ++ p6) ++ p7) ++ p8) ++ p9) ++ p10) ++ p11 = acc ++ (((((((((((p0 ++ p1) ++ p2) ++ p3) ++ p4) ++ p5) ++ p6) ++ p7) ++ p8) ++ p9) ++ p10) ++ p11) := by simp only [← hA3, List.append_assoc, List.append_nil, List.nil_append]
  rw [hj] at hP11
  repeat' (first | ((first | (with_reducible first | refine T.regs ?_ | refine T.cond ?_ | refine T.reg ?_ | refine T.ret ?_ | refine T.exit ?_ | refine T.skip ?_) | ((with_reducible first | refine T.dregs ?_ ?_ | refine T.dreg ?_ ?_ | refine T.dregts ?_ ?_ | refine T.dregt ?_ ?_ | refine T.danys ?_ ?_ | refine T.dany ?_ ?_); exact mix) | ((with_reducible refine Za.gcp hglob (hSz4_0) ?_ ?_); (focus ((simp [Zm]); done))) | ((with_reducible refine Za.gc (hP4) ?_ ?_); (focus ((simp [Zm]); done))) | ((with_reducible refine Za.gcp hglob (hP5) ?_ ?_); (focus ((simp [Zm]); done))) | ((with_reducible refine Za.gc (hP6) ?_ ?_); (focus ((simp [Zm]); done))) | ((with_reducible refine Za.gcp hglob (hP7) ?_ ?_); (focus ((simp [Zm]); done))) | ((with_reducible refine Za.gc (hP8) ?_ ?_); (focus ((simp [Zm]); done))) | ((with_reducible refine Za.gcp hglob (hP9) ?_ ?_); (focus ((simp [Zm]); done))) | ((with_reducible refine Za.gcp hglob (hP10) ?_ ?_); (focus ((simp [Zm]); done))) | ((with_reducible refine Za.gcp hglob (hP11) ?_ ?_); (focus ((simp [Zm]); done)))); simp only [Zh, Zi, Int.reduceEq, Int.reduceNeg, Int.reduceLE, Int.reduceLT, Nat.reduceSub, ↓reduceIte, reduceCtorEq, Nat.reduceEqDiff, Nat.reduceAdd, Nat.reduceMul, Nat.reduceLeDiff, Nat.reduceLT, Nat.reduceBEq, Nat.reduceBNe, implies_true, Y6.rs, Y6.res, hnl, hm16, hm2, hm1, hp1, Bool.not_true, Bool.not_false, Int.ofNat_lt]) | (with_reducible first | refine T.seq ?_ | refine T.block ?_ | assumption | refine And.intro ?_ ?_) | (intro h; first | (exfalso; omega) | exact (tf h ‹_›).elim | exact (tf ‹_› h).elim | skip))
  all_goals first | omega | (simp only [List.length_append, List.length_cons, List.length_nil]; omega) | skip
end Go.Proofs.YtjochhncheheaaaGreatDoor
