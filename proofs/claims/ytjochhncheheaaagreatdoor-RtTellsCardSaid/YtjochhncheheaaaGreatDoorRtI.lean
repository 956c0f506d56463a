/-
  A part of the proofs of this seat's laws: a step on the way. It has no conditions of its own.
-/
import Derived.Test.YtjochhncheheaaaGreatDoorRtH
namespace Go.Proofs.YtjochhncheheaaaGreatDoor
open Go Go.RowKit Vc
set_option linter.unusedVariables false
set_option linter.unusedSimpArgs false
attribute [local irreducible] T Za Z2 Ent RdC RwC Xl Zc Zs
def O5 (n : Nat) : List UInt8 := (((((((((((((((putS [[108, 100, 32, 114, 50, 44, 32, 114, 49, 44, 32, 48]]) ++ (rep (n - 1) fun i => [sayS [108, 100, 32, 114, 52, 44, 32, 114, 49, 44, 32, 37, 100] [(i : Int) + 1], [111, 114, 32, 114, 50, 44, 32, 114, 52]])) ++ (putS [[108, 100, 105, 32, 114, 52, 44, 32, 48], [99, 109, 112, 32, 114, 50, 44, 32, 114, 52], [106, 110, 122, 32, 46, 111, 107], [116, 114, 97, 112, 32, 49], [46, 111, 107, 58], [108, 100, 105, 32, 114, 50, 44, 32, 48]])) ++ (rep (n) fun i => [[112, 117, 115, 104, 32, 114, 50]])) ++ (putS [sayS [108, 100, 105, 32, 114, 51, 44, 32, 37, 100] [16 * (n : Int)], [46, 108, 111, 111, 112, 58]])) ++ (X9 n 0 0 [115, 104, 108] [114, 111, 108] [])) ++ (X9 n 7 0 [114, 111, 108] [114, 111, 108] [])) ++ (putS [[106, 99, 32, 46, 116, 97, 107, 101]])) ++ (Tw n 7 1 0 [99, 109, 112] [99, 112, 99] false)) ++ (putS [[106, 99, 32, 46, 110, 101, 120, 116], [46, 116, 97, 107, 101, 58]])) ++ (Tw n 7 1 0 [115, 117, 98] [115, 98, 99] true)) ++ (putS [[108, 100, 32, 114, 50, 44, 32, 114, 48, 44, 32, 48], [108, 100, 105, 32, 114, 52, 44, 32, 49], [111, 114, 32, 114, 50, 44, 32, 114, 52], [115, 116, 32, 114, 48, 44, 32, 114, 50, 44, 32, 48], [46, 110, 101, 120, 116, 58]])) ++ (Sb )) ++ ([])) ++ (T3 ((n : Int))))
set_option maxHeartbeats 16000000 in
set_option maxRecDepth 100000 in
theorem E8 {G : Nat} {H : Nat → Option Obj} (hM : Xh G H) (hH : Y7 G H) (n : Nat) (hn : 1 ≤ n ∧ n ≤ 100) (acc : List UInt8) (hb : acc.length + (O5 n).length ≤ 100000) :
    GCp G H Tryz.prog 48 ([.a (.loc 0 0)] ++ [.a (.bool false)]) [(0, .cells 64 [.loc 0 0, .ref 1, .int .i64 (n : Int)]), (1, .row 5 (.int .u8) (bytesI (acc)))] 2 [0] (.tup []) [(0, .cells 64 [.loc 0 0, .ref 2, .int .i64 (n : Int)]), (2, .row 5 (.int .u8) (bytesI (acc ++ O5 n)))] 3 := by
  unfold O5 at *
  simp only [List.length_append] at hb
  have hm16 : IntKind.i64.wrap (16 * (n : Int)) = 16 * (n : Int) := Ya (by omega) (by omega)
  have hm2 : IntKind.i64.wrap (2 * (n : Int)) = 2 * (n : Int) := Ya (by omega) (by omega)
  have hm1 : IntKind.i64.wrap ((n : Int) - 1) = (n : Int) - 1 := Ya (by omega) (by omega)
  have hp1 : IntKind.i64.wrap ((n : Int) + 1) = (n : Int) + 1 := Ya (by omega) (by omega)
  have hP0 := Zv (n : Int) (acc) [[108, 100, 32, 114, 50, 44, 32, 114, 49, 44, 32, 48]] (by omega) (by simp)
  generalize putS [[108, 100, 32, 114, 50, 44, 32, 114, 49, 44, 32, 48]] = p0 at *
  refine Zo.fn.gcp (by simp) (by simp [Yo, Yr, Yp, Zw, Zp, Vc.S1.okN, At.okN, SV.okN, Res.okN, Res.outOk, Z1, Res.own, Value.oneCell']) fun w X fr hglob => ?_
  repeat' (first | ((first | (with_reducible first | refine T.regs ?_ | refine T.cond ?_ | refine T.reg ?_ | refine T.ret ?_ | refine T.exit ?_ | refine T.skip ?_) | ((with_reducible first | refine T.dregs ?_ ?_ | refine T.dreg ?_ ?_ | refine T.dregts ?_ ?_ | refine T.dregt ?_ ?_ | refine T.danys ?_ ?_ | refine T.dany ?_ ?_); exact mix) | ((with_reducible refine Za.gc (hP0) ?_ ?_); (focus ((simp [Zm]); done)))); simp only [Zh, Zi, Int.reduceEq, Int.reduceNeg, Int.reduceLE, Int.reduceLT, Nat.reduceSub, ↓reduceIte, reduceCtorEq, Nat.reduceEqDiff, Nat.reduceAdd, Nat.reduceMul, Nat.reduceLeDiff, Nat.reduceLT, Nat.reduceBEq, Nat.reduceBNe, implies_true, Zo.rs, Zo.res, hm16, hm2, hm1, hp1, Bool.not_true, Bool.not_false, Int.ofNat_lt]) | (with_reducible first | refine T.seq ?_ | refine T.block ?_ | assumption | refine And.intro ?_ ?_) | (intro h; first | (exfalso; omega) | exact (tf h ‹_›).elim | exact (tf ‹_› h).elim | skip))
  all_goals first | omega | (simp only [List.length_append, List.length_cons, List.length_nil]; omega) | skip
  have hAl1 : ((acc) ++ p0).length = ((acc) ++ p0).length := rfl
  conv at hAl1 => rhs; simp only [List.length_append]
  generalize hA1 : (acc) ++ p0 = a1 at *
  refine T.loop (ι := { k : Nat // k ≤ n - 1 })
    (fun x => ⟨[(4, .one (.a (.int .i64 ((x.1 : Int) + 1)))), (0, .one (.a (.loc 0 0))), (1, .one (.a (.bool false))), (1000000, .one (.a (.ref 0)))],
      [(0, .cells 64 [.loc 0 0, .ref 1, .int .i64 (n : Int)]), (1, .row 5 (.int .u8) (bytesI (a1 ++ rep x.1 fun i => [sayS [108, 100, 32, 114, 52, 44, 32, 114, 49, 44, 32, 37, 100] [(i : Int) + 1], [111, 114, 32, 114, 50, 44, 32, 114, 52]])))], 2⟩) (fun x => n - 1 - x.1) ⟨0, by simp⟩ (Ent.mk1 (fun n => if n = 1 then 3 else n) (by simp [Z7, rep, hA1])) ?_
  rintro ⟨k, hk⟩
  simp only
  by_cases hlt : k < n - 1
  · have hmono := Wm (fun i => [sayS [108, 100, 32, 114, 52, 44, 32, 114, 49, 44, 32, 37, 100] [(i : Int) + 1], [111, 114, 32, 114, 50, 44, 32, 114, 52]]) (show k + 1 ≤ n - 1 from hlt)
    rw [Y0] at hmono
    simp only [List.length_append] at hmono
    have ha2 : a1 ++ rep (k + 1) (fun i => [sayS [108, 100, 32, 114, 52, 44, 32, 114, 49, 44, 32, 37, 100] [(i : Int) + 1], [111, 114, 32, 114, 50, 44, 32, 114, 52]]) = (a1 ++ rep k (fun i => [sayS [108, 100, 32, 114, 52, 44, 32, 114, 49, 44, 32, 37, 100] [(i : Int) + 1], [111, 114, 32, 114, 50, 44, 32, 114, 52]])) ++ putS [sayS [108, 100, 32, 114, 52, 44, 32, 114, 49, 44, 32, 37, 100] [(k : Int) + 1], [111, 114, 32, 114, 50, 44, 32, 114, 52]] := by rw [Y0, List.append_assoc]
    have hac : (a1 ++ rep k (fun i => [sayS [108, 100, 32, 114, 52, 44, 32, 114, 49, 44, 32, 37, 100] [(i : Int) + 1], [111, 114, 32, 114, 50, 44, 32, 114, 52]])).length = a1.length + (rep k (fun i => [sayS [108, 100, 32, 114, 52, 44, 32, 114, 49, 44, 32, 37, 100] [(i : Int) + 1], [111, 114, 32, 114, 50, 44, 32, 114, 52]])).length := by simp
    have hw : IntKind.i64.wrap ((k : Int) + 1) = ((k + 1 : Nat) : Int) := Z4 (by omega)
    have hw2 : IntKind.i64.wrap ((k : Int) + 1 + 1) = ((k + 1 : Nat) : Int) + 1 := by have := Z4 (k := k + 1) (by omega); simpa using this
    have hlt2 : ((k : Nat) : Int) + 1 < (n : Int) := by omega
    generalize hacc : a1 ++ rep k (fun i => [sayS [108, 100, 32, 114, 52, 44, 32, 114, 49, 44, 32, 37, 100] [(i : Int) + 1], [111, 114, 32, 114, 50, 44, 32, 114, 52]]) = a at *
    generalize rep k (fun i => [sayS [108, 100, 32, 114, 52, 44, 32, 114, 49, 44, 32, 37, 100] [(i : Int) + 1], [111, 114, 32, 114, 50, 44, 32, 114, 52]]) = pre at *
    have hS0 := Ys hM hH [108, 100, 32, 114, 52, 44, 32, 114, 49, 44, 32, 37, 100] [(k : Int) + 1] (by simp; omega) (by simp) (by simp)
    generalize sayS [108, 100, 32, 114, 52, 44, 32, 114, 49, 44, 32, 37, 100] [(k : Int) + 1] = z0 at *
    have hP := Zv (n : Int) a [z0, [111, 114, 32, 114, 50, 44, 32, 114, 52]] (by omega) (by simp)
    repeat' (first | ((first | (with_reducible first | refine T.regs ?_ | refine T.cond ?_ | refine T.reg ?_ | refine T.ret ?_ | refine T.exit ?_ | refine T.skip ?_) | ((with_reducible first | refine T.dregs ?_ ?_ | refine T.dreg ?_ ?_ | refine T.dregts ?_ ?_ | refine T.dregt ?_ ?_ | refine T.danys ?_ ?_ | refine T.dany ?_ ?_); exact mix) | ((with_reducible refine Za.gcp hglob (hS0) ?_ ?_); (focus ((simp [Zm]); done))) | ((with_reducible refine Za.gc (hP) ?_ ?_); (focus ((simp [Zm]); done)))); simp only [Zh, Zi, Int.reduceEq, Int.reduceNeg, Int.reduceLE, Int.reduceLT, Nat.reduceSub, ↓reduceIte, reduceCtorEq, Nat.reduceEqDiff, Nat.reduceAdd, Nat.reduceMul, Nat.reduceLeDiff, Nat.reduceLT, Nat.reduceBEq, Nat.reduceBNe, implies_true, Zo.rs, Zo.res, hlt2, hw, hw2, hm16, hm2, hm1, hp1, Bool.not_true, Bool.not_false, Int.ofNat_lt]) | (with_reducible first | refine T.seq ?_ | refine T.block ?_ | assumption | refine And.intro ?_ ?_) | (intro h; first | (exfalso; omega) | exact (tf h ‹_›).elim | exact (tf ‹_› h).elim | skip))
    all_goals first | omega | (simp only [List.length_append, List.length_cons, List.length_nil]; omega) | skip
    exact ⟨⟨k + 1, hlt⟩, (Ent.mk1 (fun n => if n = 1 then 4 else n) (by simp [Z7, ha2, hw, hw2])), by simp only; omega⟩
  have hk2 : n - 1 = k := by omega
  subst hk2
  have hnl : ¬ (((n - 1 : Nat) : Int) + 1) < (n : Int) := by omega
  clear hlt hk
  generalize (rep (n - 1) fun i => [sayS [108, 100, 32, 114, 52, 44, 32, 114, 49, 44, 32, 37, 100] [(i : Int) + 1], [111, 114, 32, 114, 50, 44, 32, 114, 52]]) = p1 at *
  have hP2 := Zv (n : Int) (a1 ++ p1) [[108, 100, 105, 32, 114, 52, 44, 32, 48], [99, 109, 112, 32, 114, 50, 44, 32, 114, 52], [106, 110, 122, 32, 46, 111, 107], [116, 114, 97, 112, 32, 49], [46, 111, 107, 58], [108, 100, 105, 32, 114, 50, 44, 32, 48]] (by simp only [List.length_append]; omega) (by simp)
  generalize putS [[108, 100, 105, 32, 114, 52, 44, 32, 48], [99, 109, 112, 32, 114, 50, 44, 32, 114, 52], [106, 110, 122, 32, 46, 111, 107], [116, 114, 97, 112, 32, 49], [46, 111, 107, 58], [108, 100, 105, 32, 114, 50, 44, 32, 48]] = p2 at *
  repeat' (first | ((first | (with_reducible first | refine T.regs ?_ | refine T.cond ?_ | refine T.reg ?_ | refine T.ret ?_ | refine T.exit ?_ | refine T.skip ?_) | ((with_reducible first | refine T.dregs ?_ ?_ | refine T.dreg ?_ ?_ | refine T.dregts ?_ ?_ | refine T.dregt ?_ ?_ | refine T.danys ?_ ?_ | refine T.dany ?_ ?_); exact mix) | ((with_reducible refine Za.gc (hP2) ?_ ?_); (focus ((simp [Zm]); done)))); simp only [Zh, Zi, Int.reduceEq, Int.reduceNeg, Int.reduceLE, Int.reduceLT, Nat.reduceSub, ↓reduceIte, reduceCtorEq, Nat.reduceEqDiff, Nat.reduceAdd, Nat.reduceMul, Nat.reduceLeDiff, Nat.reduceLT, Nat.reduceBEq, Nat.reduceBNe, implies_true, Zo.rs, Zo.res, hnl, hm16, hm2, hm1, hp1, Bool.not_true, Bool.not_false, Int.ofNat_lt]) | (with_reducible first | refine T.seq ?_ | refine T.block ?_ | assumption | refine And.intro ?_ ?_) | (intro h; first | (exfalso; omega) | exact (tf h ‹_›).elim | exact (tf ‹_› h).elim | skip))
  all_goals first | omega | (simp only [List.length_append, List.length_cons, List.length_nil]; omega) | skip
  have hAl3 : ((a1 ++ p1) ++ p2).length = ((a1 ++ p1) ++ p2).length := rfl
  conv at hAl3 => rhs; simp only [List.length_append]
  generalize hA3 : (a1 ++ p1) ++ p2 = a3 at *
  refine T.loop (ι := { k : Nat // k ≤ n })
    (fun x => ⟨[(30, .one (.a (.int .i64 (x.1 : Int)))), (29, .one (.a (.int .i64 (n : Int)))), (0, .one (.a (.loc 0 0))), (1, .one (.a (.bool false))), (1000000, .one (.a (.ref 0)))],
      [(0, .cells 64 [.loc 0 0, .ref 1, .int .i64 (n : Int)]), (1, .row 5 (.int .u8) (bytesI (a3 ++ rep x.1 fun i => [[112, 117, 115, 104, 32, 114, 50]])))], 2⟩) (fun x => n - x.1) ⟨0, by simp⟩ (Ent.mk1 (fun n => if n = 1 then 3 else n) (by simp [Z7, rep, hA3])) ?_
  rintro ⟨k, hk⟩
  simp only
  by_cases hlt : k < n
  · have hmono := Wm (fun i => [[112, 117, 115, 104, 32, 114, 50]]) (show k + 1 ≤ n from hlt)
    rw [Y0] at hmono
    simp only [List.length_append] at hmono
    have ha2 : a3 ++ rep (k + 1) (fun i => [[112, 117, 115, 104, 32, 114, 50]]) = (a3 ++ rep k (fun i => [[112, 117, 115, 104, 32, 114, 50]])) ++ putS [[112, 117, 115, 104, 32, 114, 50]] := by rw [Y0, List.append_assoc]
    have hac : (a3 ++ rep k (fun i => [[112, 117, 115, 104, 32, 114, 50]])).length = a3.length + (rep k (fun i => [[112, 117, 115, 104, 32, 114, 50]])).length := by simp
    have hw : IntKind.i64.wrap ((k : Int) + 1) = ((k + 1 : Nat) : Int) := Z4 (by omega)
    have hw2 : IntKind.i64.wrap ((k : Int) + 1 + 1) = ((k + 1 : Nat) : Int) + 1 := by have := Z4 (k := k + 1) (by omega); simpa using this
    have hlt2 : ((k : Nat) : Int) < (n : Int) := by omega
    generalize hacc : a3 ++ rep k (fun i => [[112, 117, 115, 104, 32, 114, 50]]) = a at *
    generalize rep k (fun i => [[112, 117, 115, 104, 32, 114, 50]]) = pre at *
    have hP := Zv (n : Int) a [[112, 117, 115, 104, 32, 114, 50]] (by omega) (by simp)
    repeat' (first | ((first | (with_reducible first | refine T.regs ?_ | refine T.cond ?_ | refine T.reg ?_ | refine T.ret ?_ | refine T.exit ?_ | refine T.skip ?_) | ((with_reducible first | refine T.dregs ?_ ?_ | refine T.dreg ?_ ?_ | refine T.dregts ?_ ?_ | refine T.dregt ?_ ?_ | refine T.danys ?_ ?_ | refine T.dany ?_ ?_); exact mix) | ((with_reducible refine Za.gc (hP) ?_ ?_); (focus ((simp [Zm]); done)))); simp only [Zh, Zi, Int.reduceEq, Int.reduceNeg, Int.reduceLE, Int.reduceLT, Nat.reduceSub, ↓reduceIte, reduceCtorEq, Nat.reduceEqDiff, Nat.reduceAdd, Nat.reduceMul, Nat.reduceLeDiff, Nat.reduceLT, Nat.reduceBEq, Nat.reduceBNe, implies_true, Zo.rs, Zo.res, hlt2, hw, hw2, hm16, hm2, hm1, hp1, Bool.not_true, Bool.not_false, Int.ofNat_lt]) | (with_reducible first | refine T.seq ?_ | refine T.block ?_ | assumption | refine And.intro ?_ ?_) | (intro h; first | (exfalso; omega) | exact (tf h ‹_›).elim | exact (tf ‹_› h).elim | skip))
    all_goals first | omega | (simp only [List.length_append, List.length_cons, List.length_nil]; omega) | skip
    exact ⟨⟨k + 1, hlt⟩, (Ent.mk1 (fun n => if n = 1 then 3 else n) (by simp [Z7, ha2, hw, hw2])), by simp only; omega⟩
  have hk2 : n = k := by omega
  subst hk2
  have hnl : ¬ (((n : Nat) : Int)) < (n : Int) := by omega
  clear hlt hk
  generalize (rep (n) fun i => [[112, 117, 115, 104, 32, 114, 50]]) = p3 at *
  have hSz4_0 := Ys hM hH [108, 100, 105, 32, 114, 51, 44, 32, 37, 100] [16 * (n : Int)] (by simp; omega) (by simp) (by simp)
  generalize sayS [108, 100, 105, 32, 114, 51, 44, 32, 37, 100] [16 * (n : Int)] = z4_0 at *
  have hP4 := Zv (n : Int) (a3 ++ p3) [z4_0, [46, 108, 111, 111, 112, 58]] (by simp only [List.length_append]; omega) (by simp)
  generalize putS [z4_0, [46, 108, 111, 111, 112, 58]] = p4 at *
  have hP5 := V6 hM hH n (by omega) 0 0 [115, 104, 108] [114, 111, 108] [] (by omega) (by omega) (by simp) (by simp) (by simp) ((a3 ++ p3) ++ p4) (by first | omega | (simp only [List.length_append]; omega))
  generalize hgp5 : (X9 n 0 0 [115, 104, 108] [114, 111, 108] []) = p5 at *
  have hP6 := V6 hM hH n (by omega) 7 0 [114, 111, 108] [114, 111, 108] [] (by omega) (by omega) (by simp) (by simp) (by simp) (((a3 ++ p3) ++ p4) ++ p5) (by first | omega | (simp only [List.length_append]; omega))
  generalize hgp6 : (X9 n 7 0 [114, 111, 108] [114, 111, 108] []) = p6 at *
  have hP7 := Zv (n : Int) ((((a3 ++ p3) ++ p4) ++ p5) ++ p6) [[106, 99, 32, 46, 116, 97, 107, 101]] (by simp only [List.length_append]; omega) (by simp)
  generalize putS [[106, 99, 32, 46, 116, 97, 107, 101]] = p7 at *
  have hP8 := Rh hM hH n (by omega) 7 1 0 [99, 109, 112] [99, 112, 99] false (by omega) (by omega) (by omega) (by simp) (by simp) (((((a3 ++ p3) ++ p4) ++ p5) ++ p6) ++ p7) (by first | omega | (simp only [List.length_append]; omega))
  generalize hgp8 : (Tw n 7 1 0 [99, 109, 112] [99, 112, 99] false) = p8 at *
  have hP9 := Zv (n : Int) ((((((a3 ++ p3) ++ p4) ++ p5) ++ p6) ++ p7) ++ p8) [[106, 99, 32, 46, 110, 101, 120, 116], [46, 116, 97, 107, 101, 58]] (by simp only [List.length_append]; omega) (by simp)
  generalize putS [[106, 99, 32, 46, 110, 101, 120, 116], [46, 116, 97, 107, 101, 58]] = p9 at *
  have hP10 := Rh hM hH n (by omega) 7 1 0 [115, 117, 98] [115, 98, 99] true (by omega) (by omega) (by omega) (by simp) (by simp) (((((((a3 ++ p3) ++ p4) ++ p5) ++ p6) ++ p7) ++ p8) ++ p9) (by first | omega | (simp only [List.length_append]; omega))
  generalize hgp10 : (Tw n 7 1 0 [115, 117, 98] [115, 98, 99] true) = p10 at *
  have hP11 := Zv (n : Int) ((((((((a3 ++ p3) ++ p4) ++ p5) ++ p6) ++ p7) ++ p8) ++ p9) ++ p10) [[108, 100, 32, 114, 50, 44, 32, 114, 48, 44, 32, 48], [108, 100, 105, 32, 114, 52, 44, 32, 49], [111, 114, 32, 114, 50, 44, 32, 114, 52], [115, 116, 32, 114, 48, 44, 32, 114, 50, 44, 32, 48], [46, 110, 101, 120, 116, 58]] (by simp only [List.length_append]; omega) (by simp)
  generalize putS [[108, 100, 32, 114, 50, 44, 32, 114, 48, 44, 32, 48], [108, 100, 105, 32, 114, 52, 44, 32, 49], [111, 114, 32, 114, 50, 44, 32, 114, 52], [115, 116, 32, 114, 48, 44, 32, 114, 50, 44, 32, 48], [46, 110, 101, 120, 116, 58]] = p11 at *
  have hP12 := Py hM hH n (((((((((a3 ++ p3) ++ p4) ++ p5) ++ p6) ++ p7) ++ p8) ++ p9) ++ p10) ++ p11) (by first | omega | (simp only [List.length_append]; omega))
  generalize hgp12 : (Sb ) = p12 at *
  repeat' (first | ((first | (with_reducible first | refine T.regs ?_ | refine T.cond ?_ | refine T.reg ?_ | refine T.ret ?_ | refine T.exit ?_ | refine T.skip ?_) | ((with_reducible first | refine T.dregs ?_ ?_ | refine T.dreg ?_ ?_ | refine T.dregts ?_ ?_ | refine T.dregt ?_ ?_ | refine T.danys ?_ ?_ | refine T.dany ?_ ?_); exact mix) | ((with_reducible refine Za.gcp hglob (hSz4_0) ?_ ?_); (focus ((simp [Zm]); done))) | ((with_reducible refine Za.gc (hP4) ?_ ?_); (focus ((simp [Zm]); done))) | ((with_reducible refine Za.gcp hglob (hP5) ?_ ?_); (focus ((simp [Zm]); done))) | ((with_reducible refine Za.gcp hglob (hP6) ?_ ?_); (focus ((simp [Zm]); done))) | ((with_reducible refine Za.gc (hP7) ?_ ?_); (focus ((simp [Zm]); done))) | ((with_reducible refine Za.gcp hglob (hP8) ?_ ?_); (focus ((simp [Zm]); done))) | ((with_reducible refine Za.gc (hP9) ?_ ?_); (focus ((simp [Zm]); done))) | ((with_reducible refine Za.gcp hglob (hP10) ?_ ?_); (focus ((simp [Zm]); done))) | ((with_reducible refine Za.gc (hP11) ?_ ?_); (focus ((simp [Zm]); done))) | ((with_reducible refine Za.gcp hglob (hP12) ?_ ?_); (focus ((simp [Zm]); done)))); simp only [Zh, Zi, Int.reduceEq, Int.reduceNeg, Int.reduceLE, Int.reduceLT, Nat.reduceSub, ↓reduceIte, reduceCtorEq, Nat.reduceEqDiff, Nat.reduceAdd, Nat.reduceMul, Nat.reduceLeDiff, Nat.reduceLT, Nat.reduceBEq, Nat.reduceBNe, implies_true, Zo.rs, Zo.res, hnl, hm16, hm2, hm1, hp1, Bool.not_true, Bool.not_false, Int.ofNat_lt]) | (with_reducible first | refine T.seq ?_ | refine T.block ?_ | assumption | refine And.intro ?_ ?_) | (intro h; first | (exfalso; omega) | exact (tf h ‹_›).elim | exact (tf ‹_› h).elim | skip))
  all_goals first | omega | (simp only [List.length_append, List.length_cons, List.length_nil]; omega) | skip
  have hAl13 : ((((((((((a3 ++ p3) ++ p4) ++ p5) ++ p6) ++ p7) ++ p8) ++ p9) ++ p10) ++ p11) ++ p12).length = ((((((((((a3 ++ p3) ++ p4) ++ p5) ++ p6) ++ p7) ++ p8) ++ p9) ++ p10) ++ p11) ++ p12).length := rfl
  conv at hAl13 => rhs; simp only [List.length_append]
  generalize hA13 : (((((((((a3 ++ p3) ++ p4) ++ p5) ++ p6) ++ p7) ++ p8) ++ p9) ++ p10) ++ p11) ++ p12 = a13 at *
  refine T.loop (ι := Unit)
    (fun x => ⟨[(5, .one (.a (.int .i64 0))), (0, .one (.a (.loc 0 0))), (1, .one (.a (.bool false))), (1000000, .one (.a (.ref 0)))],
      [(0, .cells 64 [.loc 0 0, .ref 1, .int .i64 (n : Int)]), (1, .row 5 (.int .u8) (bytesI (a13)))], 2⟩) (fun x => 0) () (Ent.mk1 (fun n => if n = 1 then 15 else n) (by simp [Z7, hA13])) ?_
  rintro ⟨⟩
  try simp only
  have hnl : (0 : Int) < (n : Int) := by omega
  have hP14 := S8 hM hH n ((n : Int)) (by omega) (a13) (by first | omega | (simp only [List.length_append]; omega))
  generalize hgp14 : (T3 ((n : Int))) = p14 at *
  have hj : (a13) ++ p14 = acc ++ ((((((((((((((p0 ++ p1) ++ p2) ++ p3) ++ p4) ++ p5) ++ p6) ++ p7) ++ p8) ++ p9) ++ p10) ++ p11) ++ p12) ++ []) ++ p14) := by simp only [← hA13, ← hA3, ← hA1, List.append_assoc, List.append_nil, List.nil_append]
  rw [hj] at hP14
  repeat' (first | ((first | (with_reducible first | refine T.regs ?_ | refine T.cond ?_ | refine T.reg ?_ | refine T.ret ?_ | refine T.exit ?_ | refine T.skip ?_) | ((with_reducible first | refine T.dregs ?_ ?_ | refine T.dreg ?_ ?_ | refine T.dregts ?_ ?_ | refine T.dregt ?_ ?_ | refine T.danys ?_ ?_ | refine T.dany ?_ ?_); exact mix) | ((with_reducible refine Za.gcp hglob (hP14) ?_ ?_); (focus ((simp [Zm]); done)))); simp only [Zh, Zi, Int.reduceEq, Int.reduceNeg, Int.reduceLE, Int.reduceLT, Nat.reduceSub, ↓reduceIte, reduceCtorEq, Nat.reduceEqDiff, Nat.reduceAdd, Nat.reduceMul, Nat.reduceLeDiff, Nat.reduceLT, Nat.reduceBEq, Nat.reduceBNe, implies_true, Zo.rs, Zo.res, hnl, hm16, hm2, hm1, hp1, Bool.not_true, Bool.not_false, Int.ofNat_lt]) | (with_reducible first | refine T.seq ?_ | refine T.block ?_ | assumption | refine And.intro ?_ ?_) | (intro h; first | (exfalso; omega) | exact (tf h ‹_›).elim | exact (tf ‹_› h).elim | skip))
  all_goals first | omega | (simp only [List.length_append, List.length_cons, List.length_nil]; omega) | skip
def Nk (n : Nat) : List UInt8 := (((((((((((((((putS [[108, 100, 32, 114, 50, 44, 32, 114, 49, 44, 32, 48]]) ++ (rep (n - 1) fun i => [sayS [108, 100, 32, 114, 52, 44, 32, 114, 49, 44, 32, 37, 100] [(i : Int) + 1], [111, 114, 32, 114, 50, 44, 32, 114, 52]])) ++ (putS [[108, 100, 105, 32, 114, 52, 44, 32, 48], [99, 109, 112, 32, 114, 50, 44, 32, 114, 52], [106, 110, 122, 32, 46, 111, 107], [116, 114, 97, 112, 32, 49], [46, 111, 107, 58], [108, 100, 105, 32, 114, 50, 44, 32, 48]])) ++ (rep (n) fun i => [[112, 117, 115, 104, 32, 114, 50]])) ++ (putS [sayS [108, 100, 105, 32, 114, 51, 44, 32, 37, 100] [16 * (n : Int)], [46, 108, 111, 111, 112, 58]])) ++ (X9 n 0 0 [115, 104, 108] [114, 111, 108] [])) ++ (X9 n 7 0 [114, 111, 108] [114, 111, 108] [])) ++ (putS [[106, 99, 32, 46, 116, 97, 107, 101]])) ++ (Tw n 7 1 0 [99, 109, 112] [99, 112, 99] false)) ++ (putS [[106, 99, 32, 46, 110, 101, 120, 116], [46, 116, 97, 107, 101, 58]])) ++ (Tw n 7 1 0 [115, 117, 98] [115, 98, 99] true)) ++ (putS [[108, 100, 32, 114, 50, 44, 32, 114, 48, 44, 32, 48], [108, 100, 105, 32, 114, 52, 44, 32, 49], [111, 114, 32, 114, 50, 44, 32, 114, 52], [115, 116, 32, 114, 48, 44, 32, 114, 50, 44, 32, 48], [46, 110, 101, 120, 116, 58]])) ++ (Sb )) ++ (rep (n) fun i => [sayS [108, 100, 32, 114, 50, 44, 32, 114, 55, 44, 32, 37, 100] [(i : Int)], sayS [115, 116, 32, 114, 48, 44, 32, 114, 50, 44, 32, 37, 100] [(i : Int)]])) ++ (T3 ((n : Int))))
set_option maxHeartbeats 16000000 in
set_option maxRecDepth 100000 in
theorem Dp {G : Nat} {H : Nat → Option Obj} (hM : Xh G H) (hH : Y7 G H) (n : Nat) (hn : 1 ≤ n ∧ n ≤ 100) (acc : List UInt8) (hb : acc.length + (Nk n).length ≤ 100000) :
    GCp G H Tryz.prog 48 ([.a (.loc 0 0)] ++ [.a (.bool true)]) [(0, .cells 64 [.loc 0 0, .ref 1, .int .i64 (n : Int)]), (1, .row 5 (.int .u8) (bytesI (acc)))] 2 [0] (.tup []) [(0, .cells 64 [.loc 0 0, .ref 2, .int .i64 (n : Int)]), (2, .row 5 (.int .u8) (bytesI (acc ++ Nk n)))] 3 := by
  unfold Nk at *
  simp only [List.length_append] at hb
  have hm16 : IntKind.i64.wrap (16 * (n : Int)) = 16 * (n : Int) := Ya (by omega) (by omega)
  have hm2 : IntKind.i64.wrap (2 * (n : Int)) = 2 * (n : Int) := Ya (by omega) (by omega)
  have hm1 : IntKind.i64.wrap ((n : Int) - 1) = (n : Int) - 1 := Ya (by omega) (by omega)
  have hp1 : IntKind.i64.wrap ((n : Int) + 1) = (n : Int) + 1 := Ya (by omega) (by omega)
  have hP0 := Zv (n : Int) (acc) [[108, 100, 32, 114, 50, 44, 32, 114, 49, 44, 32, 48]] (by omega) (by simp)
  generalize putS [[108, 100, 32, 114, 50, 44, 32, 114, 49, 44, 32, 48]] = p0 at *
  refine Zo.fn.gcp (by simp) (by simp [Yo, Yr, Yp, Zw, Zp, Vc.S1.okN, At.okN, SV.okN, Res.okN, Res.outOk, Z1, Res.own, Value.oneCell']) fun w X fr hglob => ?_
  repeat' (first | ((first | (with_reducible first | refine T.regs ?_ | refine T.cond ?_ | refine T.reg ?_ | refine T.ret ?_ | refine T.exit ?_ | refine T.skip ?_) | ((with_reducible first | refine T.dregs ?_ ?_ | refine T.dreg ?_ ?_ | refine T.dregts ?_ ?_ | refine T.dregt ?_ ?_ | refine T.danys ?_ ?_ | refine T.dany ?_ ?_); exact mix) | ((with_reducible refine Za.gc (hP0) ?_ ?_); (focus ((simp [Zm]); done)))); simp only [Zh, Zi, Int.reduceEq, Int.reduceNeg, Int.reduceLE, Int.reduceLT, Nat.reduceSub, ↓reduceIte, reduceCtorEq, Nat.reduceEqDiff, Nat.reduceAdd, Nat.reduceMul, Nat.reduceLeDiff, Nat.reduceLT, Nat.reduceBEq, Nat.reduceBNe, implies_true, Zo.rs, Zo.res, hm16, hm2, hm1, hp1, Bool.not_true, Bool.not_false, Int.ofNat_lt]) | (with_reducible first | refine T.seq ?_ | refine T.block ?_ | assumption | refine And.intro ?_ ?_) | (intro h; first | (exfalso; omega) | exact (tf h ‹_›).elim | exact (tf ‹_› h).elim | skip))
  all_goals first | omega | (simp only [List.length_append, List.length_cons, List.length_nil]; omega) | skip
  have hAl1 : ((acc) ++ p0).length = ((acc) ++ p0).length := rfl
  conv at hAl1 => rhs; simp only [List.length_append]
  generalize hA1 : (acc) ++ p0 = a1 at *
  refine T.loop (ι := { k : Nat // k ≤ n - 1 })
    (fun x => ⟨[(4, .one (.a (.int .i64 ((x.1 : Int) + 1)))), (0, .one (.a (.loc 0 0))), (1, .one (.a (.bool true))), (1000000, .one (.a (.ref 0)))],
      [(0, .cells 64 [.loc 0 0, .ref 1, .int .i64 (n : Int)]), (1, .row 5 (.int .u8) (bytesI (a1 ++ rep x.1 fun i => [sayS [108, 100, 32, 114, 52, 44, 32, 114, 49, 44, 32, 37, 100] [(i : Int) + 1], [111, 114, 32, 114, 50, 44, 32, 114, 52]])))], 2⟩) (fun x => n - 1 - x.1) ⟨0, by simp⟩ (Ent.mk1 (fun n => if n = 1 then 3 else n) (by simp [Z7, rep, hA1])) ?_
  rintro ⟨k, hk⟩
  simp only
  by_cases hlt : k < n - 1
  · have hmono := Wm (fun i => [sayS [108, 100, 32, 114, 52, 44, 32, 114, 49, 44, 32, 37, 100] [(i : Int) + 1], [111, 114, 32, 114, 50, 44, 32, 114, 52]]) (show k + 1 ≤ n - 1 from hlt)
    rw [Y0] at hmono
    simp only [List.length_append] at hmono
    have ha2 : a1 ++ rep (k + 1) (fun i => [sayS [108, 100, 32, 114, 52, 44, 32, 114, 49, 44, 32, 37, 100] [(i : Int) + 1], [111, 114, 32, 114, 50, 44, 32, 114, 52]]) = (a1 ++ rep k (fun i => [sayS [108, 100, 32, 114, 52, 44, 32, 114, 49, 44, 32, 37, 100] [(i : Int) + 1], [111, 114, 32, 114, 50, 44, 32, 114, 52]])) ++ putS [sayS [108, 100, 32, 114, 52, 44, 32, 114, 49, 44, 32, 37, 100] [(k : Int) + 1], [111, 114, 32, 114, 50, 44, 32, 114, 52]] := by rw [Y0, List.append_assoc]
    have hac : (a1 ++ rep k (fun i => [sayS [108, 100, 32, 114, 52, 44, 32, 114, 49, 44, 32, 37, 100] [(i : Int) + 1], [111, 114, 32, 114, 50, 44, 32, 114, 52]])).length = a1.length + (rep k (fun i => [sayS [108, 100, 32, 114, 52, 44, 32, 114, 49, 44, 32, 37, 100] [(i : Int) + 1], [111, 114, 32, 114, 50, 44, 32, 114, 52]])).length := by simp
    have hw : IntKind.i64.wrap ((k : Int) + 1) = ((k + 1 : Nat) : Int) := Z4 (by omega)
    have hw2 : IntKind.i64.wrap ((k : Int) + 1 + 1) = ((k + 1 : Nat) : Int) + 1 := by have := Z4 (k := k + 1) (by omega); simpa using this
    have hlt2 : ((k : Nat) : Int) + 1 < (n : Int) := by omega
    generalize hacc : a1 ++ rep k (fun i => [sayS [108, 100, 32, 114, 52, 44, 32, 114, 49, 44, 32, 37, 100] [(i : Int) + 1], [111, 114, 32, 114, 50, 44, 32, 114, 52]]) = a at *
    generalize rep k (fun i => [sayS [108, 100, 32, 114, 52, 44, 32, 114, 49, 44, 32, 37, 100] [(i : Int) + 1], [111, 114, 32, 114, 50, 44, 32, 114, 52]]) = pre at *
    have hS0 := Ys hM hH [108, 100, 32, 114, 52, 44, 32, 114, 49, 44, 32, 37, 100] [(k : Int) + 1] (by simp; omega) (by simp) (by simp)
    generalize sayS [108, 100, 32, 114, 52, 44, 32, 114, 49, 44, 32, 37, 100] [(k : Int) + 1] = z0 at *
    have hP := Zv (n : Int) a [z0, [111, 114, 32, 114, 50, 44, 32, 114, 52]] (by omega) (by simp)
    repeat' (first | ((first | (with_reducible first | refine T.regs ?_ | refine T.cond ?_ | refine T.reg ?_ | refine T.ret ?_ | refine T.exit ?_ | refine T.skip ?_) | ((with_reducible first | refine T.dregs ?_ ?_ | refine T.dreg ?_ ?_ | refine T.dregts ?_ ?_ | refine T.dregt ?_ ?_ | refine T.danys ?_ ?_ | refine T.dany ?_ ?_); exact mix) | ((with_reducible refine Za.gcp hglob (hS0) ?_ ?_); (focus ((simp [Zm]); done))) | ((with_reducible refine Za.gc (hP) ?_ ?_); (focus ((simp [Zm]); done)))); simp only [Zh, Zi, Int.reduceEq, Int.reduceNeg, Int.reduceLE, Int.reduceLT, Nat.reduceSub, ↓reduceIte, reduceCtorEq, Nat.reduceEqDiff, Nat.reduceAdd, Nat.reduceMul, Nat.reduceLeDiff, Nat.reduceLT, Nat.reduceBEq, Nat.reduceBNe, implies_true, Zo.rs, Zo.res, hlt2, hw, hw2, hm16, hm2, hm1, hp1, Bool.not_true, Bool.not_false, Int.ofNat_lt]) | (with_reducible first | refine T.seq ?_ | refine T.block ?_ | assumption | refine And.intro ?_ ?_) | (intro h; first | (exfalso; omega) | exact (tf h ‹_›).elim | exact (tf ‹_› h).elim | skip))
    all_goals first | omega | (simp only [List.length_append, List.length_cons, List.length_nil]; omega) | skip
    exact ⟨⟨k + 1, hlt⟩, (Ent.mk1 (fun n => if n = 1 then 4 else n) (by simp [Z7, ha2, hw, hw2])), by simp only; omega⟩
  have hk2 : n - 1 = k := by omega
  subst hk2
  have hnl : ¬ (((n - 1 : Nat) : Int) + 1) < (n : Int) := by omega
  clear hlt hk
  generalize (rep (n - 1) fun i => [sayS [108, 100, 32, 114, 52, 44, 32, 114, 49, 44, 32, 37, 100] [(i : Int) + 1], [111, 114, 32, 114, 50, 44, 32, 114, 52]]) = p1 at *
  have hP2 := Zv (n : Int) (a1 ++ p1) [[108, 100, 105, 32, 114, 52, 44, 32, 48], [99, 109, 112, 32, 114, 50, 44, 32, 114, 52], [106, 110, 122, 32, 46, 111, 107], [116, 114, 97, 112, 32, 49], [46, 111, 107, 58], [108, 100, 105, 32, 114, 50, 44, 32, 48]] (by simp only [List.length_append]; omega) (by simp)
  generalize putS [[108, 100, 105, 32, 114, 52, 44, 32, 48], [99, 109, 112, 32, 114, 50, 44, 32, 114, 52], [106, 110, 122, 32, 46, 111, 107], [116, 114, 97, 112, 32, 49], [46, 111, 107, 58], [108, 100, 105, 32, 114, 50, 44, 32, 48]] = p2 at *
  repeat' (first | ((first | (with_reducible first | refine T.regs ?_ | refine T.cond ?_ | refine T.reg ?_ | refine T.ret ?_ | refine T.exit ?_ | refine T.skip ?_) | ((with_reducible first | refine T.dregs ?_ ?_ | refine T.dreg ?_ ?_ | refine T.dregts ?_ ?_ | refine T.dregt ?_ ?_ | refine T.danys ?_ ?_ | refine T.dany ?_ ?_); exact mix) | ((with_reducible refine Za.gc (hP2) ?_ ?_); (focus ((simp [Zm]); done)))); simp only [Zh, Zi, Int.reduceEq, Int.reduceNeg, Int.reduceLE, Int.reduceLT, Nat.reduceSub, ↓reduceIte, reduceCtorEq, Nat.reduceEqDiff, Nat.reduceAdd, Nat.reduceMul, Nat.reduceLeDiff, Nat.reduceLT, Nat.reduceBEq, Nat.reduceBNe, implies_true, Zo.rs, Zo.res, hnl, hm16, hm2, hm1, hp1, Bool.not_true, Bool.not_false, Int.ofNat_lt]) | (with_reducible first | refine T.seq ?_ | refine T.block ?_ | assumption | refine And.intro ?_ ?_) | (intro h; first | (exfalso; omega) | exact (tf h ‹_›).elim | exact (tf ‹_› h).elim | skip))
  all_goals first | omega | (simp only [List.length_append, List.length_cons, List.length_nil]; omega) | skip
  have hAl3 : ((a1 ++ p1) ++ p2).length = ((a1 ++ p1) ++ p2).length := rfl
  conv at hAl3 => rhs; simp only [List.length_append]
  generalize hA3 : (a1 ++ p1) ++ p2 = a3 at *
  refine T.loop (ι := { k : Nat // k ≤ n })
    (fun x => ⟨[(30, .one (.a (.int .i64 (x.1 : Int)))), (29, .one (.a (.int .i64 (n : Int)))), (0, .one (.a (.loc 0 0))), (1, .one (.a (.bool true))), (1000000, .one (.a (.ref 0)))],
      [(0, .cells 64 [.loc 0 0, .ref 1, .int .i64 (n : Int)]), (1, .row 5 (.int .u8) (bytesI (a3 ++ rep x.1 fun i => [[112, 117, 115, 104, 32, 114, 50]])))], 2⟩) (fun x => n - x.1) ⟨0, by simp⟩ (Ent.mk1 (fun n => if n = 1 then 3 else n) (by simp [Z7, rep, hA3])) ?_
  rintro ⟨k, hk⟩
  simp only
  by_cases hlt : k < n
  · have hmono := Wm (fun i => [[112, 117, 115, 104, 32, 114, 50]]) (show k + 1 ≤ n from hlt)
    rw [Y0] at hmono
    simp only [List.length_append] at hmono
    have ha2 : a3 ++ rep (k + 1) (fun i => [[112, 117, 115, 104, 32, 114, 50]]) = (a3 ++ rep k (fun i => [[112, 117, 115, 104, 32, 114, 50]])) ++ putS [[112, 117, 115, 104, 32, 114, 50]] := by rw [Y0, List.append_assoc]
    have hac : (a3 ++ rep k (fun i => [[112, 117, 115, 104, 32, 114, 50]])).length = a3.length + (rep k (fun i => [[112, 117, 115, 104, 32, 114, 50]])).length := by simp
    have hw : IntKind.i64.wrap ((k : Int) + 1) = ((k + 1 : Nat) : Int) := Z4 (by omega)
    have hw2 : IntKind.i64.wrap ((k : Int) + 1 + 1) = ((k + 1 : Nat) : Int) + 1 := by have := Z4 (k := k + 1) (by omega); simpa using this
    have hlt2 : ((k : Nat) : Int) < (n : Int) := by omega
    generalize hacc : a3 ++ rep k (fun i => [[112, 117, 115, 104, 32, 114, 50]]) = a at *
    generalize rep k (fun i => [[112, 117, 115, 104, 32, 114, 50]]) = pre at *
    have hP := Zv (n : Int) a [[112, 117, 115, 104, 32, 114, 50]] (by omega) (by simp)
    repeat' (first | ((first | (with_reducible first | refine T.regs ?_ | refine T.cond ?_ | refine T.reg ?_ | refine T.ret ?_ | refine T.exit ?_ | refine T.skip ?_) | ((with_reducible first | refine T.dregs ?_ ?_ | refine T.dreg ?_ ?_ | refine T.dregts ?_ ?_ | refine T.dregt ?_ ?_ | refine T.danys ?_ ?_ | refine T.dany ?_ ?_); exact mix) | ((with_reducible refine Za.gc (hP) ?_ ?_); (focus ((simp [Zm]); done)))); simp only [Zh, Zi, Int.reduceEq, Int.reduceNeg, Int.reduceLE, Int.reduceLT, Nat.reduceSub, ↓reduceIte, reduceCtorEq, Nat.reduceEqDiff, Nat.reduceAdd, Nat.reduceMul, Nat.reduceLeDiff, Nat.reduceLT, Nat.reduceBEq, Nat.reduceBNe, implies_true, Zo.rs, Zo.res, hlt2, hw, hw2, hm16, hm2, hm1, hp1, Bool.not_true, Bool.not_false, Int.ofNat_lt]) | (with_reducible first | refine T.seq ?_ | refine T.block ?_ | assumption | refine And.intro ?_ ?_) | (intro h; first | (exfalso; omega) | exact (tf h ‹_›).elim | exact (tf ‹_› h).elim | skip))
    all_goals first | omega | (simp only [List.length_append, List.length_cons, List.length_nil]; omega) | skip
    exact ⟨⟨k + 1, hlt⟩, (Ent.mk1 (fun n => if n = 1 then 3 else n) (by simp [Z7, ha2, hw, hw2])), by simp only; omega⟩
  have hk2 : n = k := by omega
  subst hk2
  have hnl : ¬ (((n : Nat) : Int)) < (n : Int) := by omega
  clear hlt hk
  generalize (rep (n) fun i => [[112, 117, 115, 104, 32, 114, 50]]) = p3 at *
  have hSz4_0 := Ys hM hH [108, 100, 105, 32, 114, 51, 44, 32, 37, 100] [16 * (n : Int)] (by simp; omega) (by simp) (by simp)
  generalize sayS [108, 100, 105, 32, 114, 51, 44, 32, 37, 100] [16 * (n : Int)] = z4_0 at *
  have hP4 := Zv (n : Int) (a3 ++ p3) [z4_0, [46, 108, 111, 111, 112, 58]] (by simp only [List.length_append]; omega) (by simp)
  generalize putS [z4_0, [46, 108, 111, 111, 112, 58]] = p4 at *
  have hP5 := V6 hM hH n (by omega) 0 0 [115, 104, 108] [114, 111, 108] [] (by omega) (by omega) (by simp) (by simp) (by simp) ((a3 ++ p3) ++ p4) (by first | omega | (simp only [List.length_append]; omega))
  generalize hgp5 : (X9 n 0 0 [115, 104, 108] [114, 111, 108] []) = p5 at *
  have hP6 := V6 hM hH n (by omega) 7 0 [114, 111, 108] [114, 111, 108] [] (by omega) (by omega) (by simp) (by simp) (by simp) (((a3 ++ p3) ++ p4) ++ p5) (by first | omega | (simp only [List.length_append]; omega))
  generalize hgp6 : (X9 n 7 0 [114, 111, 108] [114, 111, 108] []) = p6 at *
  have hP7 := Zv (n : Int) ((((a3 ++ p3) ++ p4) ++ p5) ++ p6) [[106, 99, 32, 46, 116, 97, 107, 101]] (by simp only [List.length_append]; omega) (by simp)
  generalize putS [[106, 99, 32, 46, 116, 97, 107, 101]] = p7 at *
  have hP8 := Rh hM hH n (by omega) 7 1 0 [99, 109, 112] [99, 112, 99] false (by omega) (by omega) (by omega) (by simp) (by simp) (((((a3 ++ p3) ++ p4) ++ p5) ++ p6) ++ p7) (by first | omega | (simp only [List.length_append]; omega))
  generalize hgp8 : (Tw n 7 1 0 [99, 109, 112] [99, 112, 99] false) = p8 at *
  have hP9 := Zv (n : Int) ((((((a3 ++ p3) ++ p4) ++ p5) ++ p6) ++ p7) ++ p8) [[106, 99, 32, 46, 110, 101, 120, 116], [46, 116, 97, 107, 101, 58]] (by simp only [List.length_append]; omega) (by simp)
  generalize putS [[106, 99, 32, 46, 110, 101, 120, 116], [46, 116, 97, 107, 101, 58]] = p9 at *
  have hP10 := Rh hM hH n (by omega) 7 1 0 [115, 117, 98] [115, 98, 99] true (by omega) (by omega) (by omega) (by simp) (by simp) (((((((a3 ++ p3) ++ p4) ++ p5) ++ p6) ++ p7) ++ p8) ++ p9) (by first | omega | (simp only [List.length_append]; omega))
  generalize hgp10 : (Tw n 7 1 0 [115, 117, 98] [115, 98, 99] true) = p10 at *
  have hP11 := Zv (n : Int) ((((((((a3 ++ p3) ++ p4) ++ p5) ++ p6) ++ p7) ++ p8) ++ p9) ++ p10) [[108, 100, 32, 114, 50, 44, 32, 114, 48, 44, 32, 48], [108, 100, 105, 32, 114, 52, 44, 32, 49], [111, 114, 32, 114, 50, 44, 32, 114, 52], [115, 116, 32, 114, 48, 44, 32, 114, 50, 44, 32, 48], [46, 110, 101, 120, 116, 58]] (by simp only [List.length_append]; omega) (by simp)
  generalize putS [[108, 100, 32, 114, 50, 44, 32, 114, 48, 44, 32, 48], [108, 100, 105, 32, 114, 52, 44, 32, 49], [111, 114, 32, 114, 50, 44, 32, 114, 52], [115, 116, 32, 114, 48, 44, 32, 114, 50, 44, 32, 48], [46, 110, 101, 120, 116, 58]] = p11 at *
  have hP12 := Py hM hH n (((((((((a3 ++ p3) ++ p4) ++ p5) ++ p6) ++ p7) ++ p8) ++ p9) ++ p10) ++ p11) (by first | omega | (simp only [List.length_append]; omega))
  generalize hgp12 : (Sb ) = p12 at *
  repeat' (first | ((first | (with_reducible first | refine T.regs ?_ | refine T.cond ?_ | refine T.reg ?_ | refine T.ret ?_ | refine T.exit ?_ | refine T.skip ?_) | ((with_reducible first | refine T.dregs ?_ ?_ | refine T.dreg ?_ ?_ | refine T.dregts ?_ ?_ | refine T.dregt ?_ ?_ | refine T.danys ?_ ?_ | refine T.dany ?_ ?_); exact mix) | ((with_reducible refine Za.gcp hglob (hSz4_0) ?_ ?_); (focus ((simp [Zm]); done))) | ((with_reducible refine Za.gc (hP4) ?_ ?_); (focus ((simp [Zm]); done))) | ((with_reducible refine Za.gcp hglob (hP5) ?_ ?_); (focus ((simp [Zm]); done))) | ((with_reducible refine Za.gcp hglob (hP6) ?_ ?_); (focus ((simp [Zm]); done))) | ((with_reducible refine Za.gc (hP7) ?_ ?_); (focus ((simp [Zm]); done))) | ((with_reducible refine Za.gcp hglob (hP8) ?_ ?_); (focus ((simp [Zm]); done))) | ((with_reducible refine Za.gc (hP9) ?_ ?_); (focus ((simp [Zm]); done))) | ((with_reducible refine Za.gcp hglob (hP10) ?_ ?_); (focus ((simp [Zm]); done))) | ((with_reducible refine Za.gc (hP11) ?_ ?_); (focus ((simp [Zm]); done))) | ((with_reducible refine Za.gcp hglob (hP12) ?_ ?_); (focus ((simp [Zm]); done)))); simp only [Zh, Zi, Int.reduceEq, Int.reduceNeg, Int.reduceLE, Int.reduceLT, Nat.reduceSub, ↓reduceIte, reduceCtorEq, Nat.reduceEqDiff, Nat.reduceAdd, Nat.reduceMul, Nat.reduceLeDiff, Nat.reduceLT, Nat.reduceBEq, Nat.reduceBNe, implies_true, Zo.rs, Zo.res, hnl, hm16, hm2, hm1, hp1, Bool.not_true, Bool.not_false, Int.ofNat_lt]) | (with_reducible first | refine T.seq ?_ | refine T.block ?_ | assumption | refine And.intro ?_ ?_) | (intro h; first | (exfalso; omega) | exact (tf h ‹_›).elim | exact (tf ‹_› h).elim | skip))
  all_goals first | omega | (simp only [List.length_append, List.length_cons, List.length_nil]; omega) | skip
  have hAl13 : ((((((((((a3 ++ p3) ++ p4) ++ p5) ++ p6) ++ p7) ++ p8) ++ p9) ++ p10) ++ p11) ++ p12).length = ((((((((((a3 ++ p3) ++ p4) ++ p5) ++ p6) ++ p7) ++ p8) ++ p9) ++ p10) ++ p11) ++ p12).length := rfl
  conv at hAl13 => rhs; simp only [List.length_append]
  generalize hA13 : (((((((((a3 ++ p3) ++ p4) ++ p5) ++ p6) ++ p7) ++ p8) ++ p9) ++ p10) ++ p11) ++ p12 = a13 at *
  refine T.loop (ι := { k : Nat // k ≤ n })
    (fun x => ⟨[(5, .one (.a (.int .i64 (x.1 : Int)))), (0, .one (.a (.loc 0 0))), (1, .one (.a (.bool true))), (1000000, .one (.a (.ref 0)))],
      [(0, .cells 64 [.loc 0 0, .ref 1, .int .i64 (n : Int)]), (1, .row 5 (.int .u8) (bytesI (a13 ++ rep x.1 fun i => [sayS [108, 100, 32, 114, 50, 44, 32, 114, 55, 44, 32, 37, 100] [(i : Int)], sayS [115, 116, 32, 114, 48, 44, 32, 114, 50, 44, 32, 37, 100] [(i : Int)]])))], 2⟩) (fun x => n - x.1) ⟨0, by simp⟩ (Ent.mk1 (fun n => if n = 1 then 15 else n) (by simp [Z7, rep, hA13])) ?_
  rintro ⟨k, hk⟩
  simp only
  by_cases hlt : k < n
  · have hmono := Wm (fun i => [sayS [108, 100, 32, 114, 50, 44, 32, 114, 55, 44, 32, 37, 100] [(i : Int)], sayS [115, 116, 32, 114, 48, 44, 32, 114, 50, 44, 32, 37, 100] [(i : Int)]]) (show k + 1 ≤ n from hlt)
    rw [Y0] at hmono
    simp only [List.length_append] at hmono
    have ha2 : a13 ++ rep (k + 1) (fun i => [sayS [108, 100, 32, 114, 50, 44, 32, 114, 55, 44, 32, 37, 100] [(i : Int)], sayS [115, 116, 32, 114, 48, 44, 32, 114, 50, 44, 32, 37, 100] [(i : Int)]]) = (a13 ++ rep k (fun i => [sayS [108, 100, 32, 114, 50, 44, 32, 114, 55, 44, 32, 37, 100] [(i : Int)], sayS [115, 116, 32, 114, 48, 44, 32, 114, 50, 44, 32, 37, 100] [(i : Int)]])) ++ putS [sayS [108, 100, 32, 114, 50, 44, 32, 114, 55, 44, 32, 37, 100] [(k : Int)], sayS [115, 116, 32, 114, 48, 44, 32, 114, 50, 44, 32, 37, 100] [(k : Int)]] := by rw [Y0, List.append_assoc]
    have hac : (a13 ++ rep k (fun i => [sayS [108, 100, 32, 114, 50, 44, 32, 114, 55, 44, 32, 37, 100] [(i : Int)], sayS [115, 116, 32, 114, 48, 44, 32, 114, 50, 44, 32, 37, 100] [(i : Int)]])).length = a13.length + (rep k (fun i => [sayS [108, 100, 32, 114, 50, 44, 32, 114, 55, 44, 32, 37, 100] [(i : Int)], sayS [115, 116, 32, 114, 48, 44, 32, 114, 50, 44, 32, 37, 100] [(i : Int)]])).length := by simp
    have hw : IntKind.i64.wrap ((k : Int) + 1) = ((k + 1 : Nat) : Int) := Z4 (by omega)
    have hw2 : IntKind.i64.wrap ((k : Int) + 1 + 1) = ((k + 1 : Nat) : Int) + 1 := by have := Z4 (k := k + 1) (by omega); simpa using this
    have hlt2 : ((k : Nat) : Int) < (n : Int) := by omega
    generalize hacc : a13 ++ rep k (fun i => [sayS [108, 100, 32, 114, 50, 44, 32, 114, 55, 44, 32, 37, 100] [(i : Int)], sayS [115, 116, 32, 114, 48, 44, 32, 114, 50, 44, 32, 37, 100] [(i : Int)]]) = a at *
    generalize rep k (fun i => [sayS [108, 100, 32, 114, 50, 44, 32, 114, 55, 44, 32, 37, 100] [(i : Int)], sayS [115, 116, 32, 114, 48, 44, 32, 114, 50, 44, 32, 37, 100] [(i : Int)]]) = pre at *
    have hS0 := Ys hM hH [108, 100, 32, 114, 50, 44, 32, 114, 55, 44, 32, 37, 100] [(k : Int)] (by simp; omega) (by simp) (by simp)
    have hS1 := Ys hM hH [115, 116, 32, 114, 48, 44, 32, 114, 50, 44, 32, 37, 100] [(k : Int)] (by simp; omega) (by simp) (by simp)
    generalize sayS [108, 100, 32, 114, 50, 44, 32, 114, 55, 44, 32, 37, 100] [(k : Int)] = z0 at *
    generalize sayS [115, 116, 32, 114, 48, 44, 32, 114, 50, 44, 32, 37, 100] [(k : Int)] = z1 at *
    have hP := Zv (n : Int) a [z0, z1] (by omega) (by simp)
    repeat' (first | ((first | (with_reducible first | refine T.regs ?_ | refine T.cond ?_ | refine T.reg ?_ | refine T.ret ?_ | refine T.exit ?_ | refine T.skip ?_) | ((with_reducible first | refine T.dregs ?_ ?_ | refine T.dreg ?_ ?_ | refine T.dregts ?_ ?_ | refine T.dregt ?_ ?_ | refine T.danys ?_ ?_ | refine T.dany ?_ ?_); exact mix) | ((with_reducible refine Za.gcp hglob (hS0) ?_ ?_); (focus ((simp [Zm]); done))) | ((with_reducible refine Za.gcp hglob (hS1) ?_ ?_); (focus ((simp [Zm]); done))) | ((with_reducible refine Za.gc (hP) ?_ ?_); (focus ((simp [Zm]); done)))); simp only [Zh, Zi, Int.reduceEq, Int.reduceNeg, Int.reduceLE, Int.reduceLT, Nat.reduceSub, ↓reduceIte, reduceCtorEq, Nat.reduceEqDiff, Nat.reduceAdd, Nat.reduceMul, Nat.reduceLeDiff, Nat.reduceLT, Nat.reduceBEq, Nat.reduceBNe, implies_true, Zo.rs, Zo.res, hlt2, hw, hw2, hm16, hm2, hm1, hp1, Bool.not_true, Bool.not_false, Int.ofNat_lt]) | (with_reducible first | refine T.seq ?_ | refine T.block ?_ | assumption | refine And.intro ?_ ?_) | (intro h; first | (exfalso; omega) | exact (tf h ‹_›).elim | exact (tf ‹_› h).elim | skip))
    all_goals first | omega | (simp only [List.length_append, List.length_cons, List.length_nil]; omega) | skip
    exact ⟨⟨k + 1, hlt⟩, (Ent.mk1 (fun n => if n = 1 then 5 else n) (by simp [Z7, ha2, hw, hw2])), by simp only; omega⟩
  have hk2 : n = k := by omega
  subst hk2
  have hnl : ¬ (((n : Nat) : Int)) < (n : Int) := by omega
  clear hlt hk
  generalize (rep (n) fun i => [sayS [108, 100, 32, 114, 50, 44, 32, 114, 55, 44, 32, 37, 100] [(i : Int)], sayS [115, 116, 32, 114, 48, 44, 32, 114, 50, 44, 32, 37, 100] [(i : Int)]]) = p13 at *
  have hP14 := S8 hM hH n ((n : Int)) (by omega) (a13 ++ p13) (by first | omega | (simp only [List.length_append]; omega))
  generalize hgp14 : (T3 ((n : Int))) = p14 at *
  have hj : (a13 ++ p13) ++ p14 = acc ++ ((((((((((((((p0 ++ p1) ++ p2) ++ p3) ++ p4) ++ p5) ++ p6) ++ p7) ++ p8) ++ p9) ++ p10) ++ p11) ++ p12) ++ p13) ++ p14) := by simp only [← hA13, ← hA3, ← hA1, List.append_assoc, List.append_nil, List.nil_append]
  rw [hj] at hP14
  repeat' (first | ((first | (with_reducible first | refine T.regs ?_ | refine T.cond ?_ | refine T.reg ?_ | refine T.ret ?_ | refine T.exit ?_ | refine T.skip ?_) | ((with_reducible first | refine T.dregs ?_ ?_ | refine T.dreg ?_ ?_ | refine T.dregts ?_ ?_ | refine T.dregt ?_ ?_ | refine T.danys ?_ ?_ | refine T.dany ?_ ?_); exact mix) | ((with_reducible refine Za.gcp hglob (hP14) ?_ ?_); (focus ((simp [Zm]); done)))); simp only [Zh, Zi, Int.reduceEq, Int.reduceNeg, Int.reduceLE, Int.reduceLT, Nat.reduceSub, ↓reduceIte, reduceCtorEq, Nat.reduceEqDiff, Nat.reduceAdd, Nat.reduceMul, Nat.reduceLeDiff, Nat.reduceLT, Nat.reduceBEq, Nat.reduceBNe, implies_true, Zo.rs, Zo.res, hnl, hm16, hm2, hm1, hp1, Bool.not_true, Bool.not_false, Int.ofNat_lt]) | (with_reducible first | refine T.seq ?_ | refine T.block ?_ | assumption | refine And.intro ?_ ?_) | (intro h; first | (exfalso; omega) | exact (tf h ‹_›).elim | exact (tf ‹_› h).elim | skip))
  all_goals first | omega | (simp only [List.length_append, List.length_cons, List.length_nil]; omega) | skip
end Go.Proofs.YtjochhncheheaaaGreatDoor
