/-
  A part of the proofs of this seat's laws: a step on the way. It has no conditions of its own.
-/
import Derived.Test.YtjochhncheheaaaGreatDoorReadN
namespace Go.Proofs.YtjochhncheheaaaGreatDoor
open Go Go.RowKit Vc
set_option linter.unusedVariables false
set_option linter.unusedSimpArgs false
attribute [local irreducible] T Za Z2 Ent RdC RwC Xl Zc Zs
set_option maxHeartbeats 16000000 in
set_option maxRecDepth 100000 in
theorem Qn {G : Nat} {H : Nat → Option Obj} {w : World} {X : List Nat} {fr : List Value} {Q : Exit → St → Prop} (hglob : X3 G H w X) (hM : Xh G H) (P : List (List UInt8)) (n : Nat) (hn : n ≤ P.length) (h40 : n ≤ 40000) (hp : ∀ p ∈ P, p.length ≤ 2000000)
    (hQ : ∀ acc, Ss (P.take n) 0 [] = (acc, 0, 0) → ∀ S', Ent ⟨Tryz.prog, w, X, 59, fr⟩ S' ⟨[(5, .one (.a (.ref 1))), (3, .one (.a (.loc 0 0)))], [(0, .cells 32 [.int .i64 0, .int .i64 0]), (1, .row 40 .line acc)], 2⟩ → Q (.exit 0) S')
    (hE : ∀ e k, Ss (P.take n) 0 [] = ([], e, k) → ∀ S' : St, Z1 S'.slots 2 = some (.one (.a (.raw (.slice none 0 0)))) → Z1 S'.slots 3 = some (.one (.a (.loc 0 0))) → Z1 S'.res 0 = some (.cells 32 [.int .i64 e, .int .i64 k]) → Q .ret S') :
    T ⟨Tryz.prog, w, X, 59, fr⟩ (.loop Z5.c20) Q ⟨[(35, .one (.a (.int .i64 0))), (34, .one (.a (.int .i64 n))), (33, .one (.a (.ref 2))), (5, .one (.a (.ref 3))), (3, .one (.a (.loc 0 0)))],
      [(0, .cells 32 [.int .i64 0, .int .i64 0]), (1, .row 9 .str P), (2, .view 1 1 0 n), (3, .row 40 .line [])], 4⟩ := by
  generalize hR : Ss (P.take n) 0 [] = R at hQ hE
  refine T.loop (ι := { p : Nat × List Ln // p.1 ≤ n ∧ Ss ((P.take n).drop p.1) p.1 p.2 = R ∧ p.2.length ≤ p.1 })
    (fun x => ⟨[(35, .one (.a (.int .i64 (x.1.1 : Int)))), (34, .one (.a (.int .i64 n))), (33, .one (.a (.ref 2))), (5, .one (.a (.ref 3))), (3, .one (.a (.loc 0 0)))],
      [(0, .cells 32 [.int .i64 0, .int .i64 0]), (1, .row 9 .str P), (2, .view 1 1 0 n), (3, .row 40 .line x.1.2)], 4⟩) (fun x => n - x.1.1) ⟨(0, []), by simp, by simpa using hR, by simp⟩ (Ent.mk1 (id) (by simp [Z7])) ?_
  rintro ⟨⟨k, acc⟩, hk, hrun, hal⟩
  simp only at hk hrun hal
  have hln : (P.take n).length = n := by rw [List.length_take]; omega
  by_cases hlt : k < n
  · have hdrop : (P.take n).drop k = P.getD k [] :: (P.take n).drop (k + 1) := by
      have hlt2 : k < (P.take n).length := by omega
      rw [List.drop_eq_getElem_cons hlt2, List.getElem_take]
      have hg : P.getD k [] = P[k] := by simp [List.getD, show k < P.length by omega]
      rw [hg]
    have hmem : P.getD k [] ∈ P := by simp [List.getD, show k < P.length by omega]
    generalize hy : P.getD k [] = x at hdrop hmem
    have hy' : P.getD k (Kd.dflt .str) = x := hy
    have hxl := hp x hmem
    rw [hdrop, Hs] at hrun
    have hA := Kq hM x (by omega)
    have hw : IntKind.i64.wrap ((k : Int) + 1) = ((k + 1 : Nat) : Int) := Z4 (by omega)
    have ht : 0 + ((k : Int)).toNat = k := by omega
    generalize lineT x = V at hA hrun
    obtain ⟨y, some_, e⟩ := V
    simp only [Ln.cells] at hA hrun
    by_cases he : e ≠ 0
    · rw [if_pos he] at hrun
      subst hrun
      repeat' (first | ((first | (with_reducible first | refine T.regs ?_ | refine T.cond ?_ | refine T.reg ?_ | refine T.ret ?_ | refine T.exit ?_ | refine T.skip ?_) | ((with_reducible first | refine T.dregs ?_ ?_ | refine T.dreg ?_ ?_ | refine T.dregts ?_ ?_ | refine T.dregt ?_ ?_ | refine T.danys ?_ ?_ | refine T.dany ?_ ?_); exact mix) | ((with_reducible refine Za.gcp hglob (hA) ?_ ?_); (focus ((simp [Zm]); done)))); simp only [Zh, Zi, Int.reduceEq, Int.reduceNeg, Int.reduceLE, Int.reduceLT, Nat.reduceSub, ↓reduceIte, reduceCtorEq, Nat.reduceEqDiff, Nat.reduceAdd, Nat.reduceMul, Nat.reduceLeDiff, Nat.reduceLT, Nat.reduceBEq, Nat.reduceBNe, implies_true, Z5.rs, Z5.res, hy', ht, hw, he, Int.ofNat_lt]) | (with_reducible first | refine T.seq ?_ | refine T.block ?_ | assumption | refine And.intro ?_ ?_) | (intro h; first | (exfalso; omega) | exact (tf h ‹_›).elim | exact (tf ‹_› h).elim | skip))
      all_goals first | omega | skip
      all_goals first | exact hE _ _ rfl _ rfl rfl rfl | exact T.ret (hE _ _ rfl _ rfl rfl rfl)
    · rw [if_neg he] at hrun
      have he0 : e = 0 := by simpa using he
      subst he0
      cases some_
      · rw [if_neg (by decide)] at hrun
        repeat' (first | ((first | (with_reducible first | refine T.regs ?_ | refine T.cond ?_ | refine T.reg ?_ | refine T.ret ?_ | refine T.exit ?_ | refine T.skip ?_) | ((with_reducible first | refine T.dregs ?_ ?_ | refine T.dreg ?_ ?_ | refine T.dregts ?_ ?_ | refine T.dregt ?_ ?_ | refine T.danys ?_ ?_ | refine T.dany ?_ ?_); exact mix) | ((with_reducible refine Za.gcp hglob (hA) ?_ ?_); (focus ((simp [Zm]); done)))); simp only [Zh, Zi, Int.reduceEq, Int.reduceNeg, Int.reduceLE, Int.reduceLT, Nat.reduceSub, ↓reduceIte, reduceCtorEq, Nat.reduceEqDiff, Nat.reduceAdd, Nat.reduceMul, Nat.reduceLeDiff, Nat.reduceLT, Nat.reduceBEq, Nat.reduceBNe, implies_true, Z5.rs, Z5.res, hy', ht, hw, Int.ofNat_lt]) | (with_reducible first | refine T.seq ?_ | refine T.block ?_ | assumption | refine And.intro ?_ ?_) | (intro h; first | (exfalso; omega) | exact (tf h ‹_›).elim | exact (tf ‹_› h).elim | skip))
        all_goals first | omega | skip
        exact ⟨⟨(k + 1, acc), hlt, hrun, by simp only; omega⟩, (Ent.mk1 (id) (by simp [Z7, hw])), by simp only; omega⟩
      · rw [if_pos rfl] at hrun
        repeat' (first | ((first | (with_reducible first | refine T.regs ?_ | refine T.cond ?_ | refine T.reg ?_ | refine T.ret ?_ | refine T.exit ?_ | refine T.skip ?_) | ((with_reducible first | refine T.dregs ?_ ?_ | refine T.dreg ?_ ?_ | refine T.dregts ?_ ?_ | refine T.dregt ?_ ?_ | refine T.danys ?_ ?_ | refine T.dany ?_ ?_); exact mix) | ((with_reducible refine Za.gcp hglob (hA) ?_ ?_); (focus ((simp [Zm]); done)))); simp only [Zh, Zi, Int.reduceEq, Int.reduceNeg, Int.reduceLE, Int.reduceLT, Nat.reduceSub, ↓reduceIte, reduceCtorEq, Nat.reduceEqDiff, Nat.reduceAdd, Nat.reduceMul, Nat.reduceLeDiff, Nat.reduceLT, Nat.reduceBEq, Nat.reduceBNe, implies_true, Z5.rs, Z5.res, hy', ht, hw, Int.ofNat_lt]) | (with_reducible first | refine T.seq ?_ | refine T.block ?_ | assumption | refine And.intro ?_ ?_) | (intro h; first | (exfalso; omega) | exact (tf h ‹_›).elim | exact (tf ‹_› h).elim | skip))
        all_goals first | omega | skip
        exact ⟨⟨(k + 1, acc ++ [y]), hlt, hrun, by simp only [List.length_append, List.length_cons, List.length_nil]; omega⟩, (Ent.mk1 (fun n => if n = 3 then 6 else n) (by simp [Z7, hw])), by simp only; omega⟩
  · have hk2 : k = n := by omega
    have hd0 : (P.take n).drop k = [] := by rw [hk2, ← hln]; simp
    rw [hd0] at hrun
    simp only [Ss] at hrun
    repeat' (first | ((first | (with_reducible first | refine T.regs ?_ | refine T.cond ?_ | refine T.reg ?_ | refine T.ret ?_ | refine T.exit ?_ | refine T.skip ?_) | ((with_reducible first | refine T.dregs ?_ ?_ | refine T.dreg ?_ ?_ | refine T.dregts ?_ ?_ | refine T.dregt ?_ ?_ | refine T.danys ?_ ?_ | refine T.dany ?_ ?_); exact mix)); simp only [Zh, Zi, Int.reduceEq, Int.reduceNeg, Int.reduceLE, Int.reduceLT, Nat.reduceSub, ↓reduceIte, reduceCtorEq, Nat.reduceEqDiff, Nat.reduceAdd, Nat.reduceMul, Nat.reduceLeDiff, Nat.reduceLT, Nat.reduceBEq, Nat.reduceBNe, implies_true, Z5.rs, Z5.res, hk2, Int.ofNat_lt]) | (with_reducible first | refine T.seq ?_ | refine T.block ?_ | assumption | refine And.intro ?_ ?_) | (intro h; first | (exfalso; omega) | exact (tf h ‹_›).elim | exact (tf ‹_› h).elim | skip))
    all_goals first | omega | skip
    exact hQ acc hrun.symm _ (Ent.mk1 (fun n => if n = 1 then 3 else n) (by simp [Z7]))
theorem J4 (t : List UInt8) : Up t = (splitS 10 t).take (if (splitS 10 t).getLast? = some [] then (splitS 10 t).length - 1 else (splitS 10 t).length) := by
  unfold Up
  split
  · rw [List.dropLast_eq_take]
  · rw [List.take_length]
set_option maxHeartbeats 16000000 in
set_option maxRecDepth 100000 in
theorem Oh {G : Nat} {H : Nat → Option Obj} (hM : Xh G H) (t : List UInt8) (hs : t.length ≤ 9223372036854775807) :
    GCp G H Tryz.prog 11 [.a (.str t)] [] 0 [] (.tup [.a (.ref 0), .agg [.int .i64 (Pc t).2.1, .int .i64 (Pc t).2.2]]) [(0, .row 40 .line (Pc t).1)] 1 := by
  refine Z5.fn.gcp (by simp) (by simp [Yo, Yr, Yp, Zw, Zp, Vc.S1.okN, At.okN, SV.okN, Res.okN, Res.outOk, Z1, Res.own, Value.oneCell']) fun w X fr hglob => ?_
  generalize hR : Pc t = R
  unfold Pc at hR
  by_cases hlen : 1048576 < t.length
  · rw [if_pos hlen] at hR
    subst hR
    have hgt : (1048576 : Int) < (t.length : Int) := by omega
    repeat' (first | ((first | (with_reducible first | refine T.regs ?_ | refine T.cond ?_ | refine T.reg ?_ | refine T.ret ?_ | refine T.exit ?_ | refine T.skip ?_) | ((with_reducible first | refine T.dregs ?_ ?_ | refine T.dreg ?_ ?_ | refine T.dregts ?_ ?_ | refine T.dregt ?_ ?_ | refine T.danys ?_ ?_ | refine T.dany ?_ ?_); exact mix)); simp only [Zh, Zi, Int.reduceEq, Int.reduceNeg, Int.reduceLE, Int.reduceLT, Nat.reduceSub, ↓reduceIte, reduceCtorEq, Nat.reduceEqDiff, Nat.reduceAdd, Nat.reduceMul, Nat.reduceLeDiff, Nat.reduceLT, Nat.reduceBEq, Nat.reduceBNe, implies_true, Z5.rs, Z5.res, hgt]) | (with_reducible first | refine T.seq ?_ | refine T.block ?_ | assumption | refine And.intro ?_ ?_) | (intro h; first | (exfalso; omega) | exact (tf h ‹_›).elim | exact (tf ‹_› h).elim | skip))
    all_goals first | omega | skip
  rw [if_neg hlen] at hR
  have hgt : ¬ (1048576 : Int) < (t.length : Int) := by omega
  have hSp := M0 hM t 10 (by omega)
  have hne := Ll 10 t
  have hp := V7 10 t
  have hcl := Sm 10 t
  have hcc := List.count_le_length (a := (10 : UInt8)) (l := t)
  rw [J4] at hR
  generalize splitS 10 t = P at *
  have hpos := List.length_pos_iff.2 hne
  have hw1 : IntKind.i64.wrap ((P.length : Int) - 1) = ((P.length - 1 : Nat) : Int) := by rw [Ya (by omega) (by omega)]; omega
  have htn : (((P.length - 1 : Nat) : Int)).toNat = P.length - 1 := by omega
  have hz : 0 + (0 : Int).toNat = 0 := rfl
  have htn2 : 0 + (((P.length - 1 : Nat) : Int)).toNat = P.length - 1 := by omega
  have hlast : P.getD (P.length - 1) (Kd.dflt .str) = [] ↔ P.getLast? = some [] := by
    have e : P.getD (P.length - 1) (Kd.dflt .str) = P[P.length - 1] := by
      show P.getD (P.length - 1) [] = _
      simp [List.getD, show P.length - 1 < P.length by omega]
    rw [e, List.getLast?_eq_getElem?, List.getElem?_eq_getElem (by omega)]
    simp
  by_cases hl : P.getLast? = some []
  · have hl' := hlast.2 hl
    rw [if_pos hl] at hR
    have hln : (P.take (P.length - 1)).length = P.length - 1 := by rw [List.length_take]; omega
    rw [hln] at hR
    have hlv : ((P.length - 1 - 0 : Nat) : Int) = ((P.length - 1 : Nat) : Int) := rfl
    generalize hnn : P.length - 1 = n at *
    by_cases h40 : 40000 < n
    · rw [if_pos h40] at hR
      subst hR
      have hgt2 : (40000 : Int) < (n : Int) := by omega
      repeat' (first | ((first | (with_reducible first | refine T.regs ?_ | refine T.cond ?_ | refine T.reg ?_ | refine T.ret ?_ | refine T.exit ?_ | refine T.skip ?_) | ((with_reducible first | refine T.dregs ?_ ?_ | refine T.dreg ?_ ?_ | refine T.dregts ?_ ?_ | refine T.dregt ?_ ?_ | refine T.danys ?_ ?_ | refine T.dany ?_ ?_); exact mix) | ((with_reducible refine Za.gcp hglob (hSp) ?_ ?_); (focus ((simp [Zm]); done)))); simp only [Zh, Zi, Int.reduceEq, Int.reduceNeg, Int.reduceLE, Int.reduceLT, Nat.reduceSub, ↓reduceIte, reduceCtorEq, Nat.reduceEqDiff, Nat.reduceAdd, Nat.reduceMul, Nat.reduceLeDiff, Nat.reduceLT, Nat.reduceBEq, Nat.reduceBNe, implies_true, Z5.rs, Z5.res, hgt, hw1, htn, htn2, hz, hl', hlv, hgt2]) | (with_reducible first | refine T.seq ?_ | refine T.block ?_ | assumption | refine And.intro ?_ ?_) | (intro h; first | (exfalso; omega) | exact (tf h ‹_›).elim | exact (tf ‹_› h).elim | skip))
      all_goals first | omega | skip
    rw [if_neg h40] at hR
    have hgt2 : ¬ (40000 : Int) < (n : Int) := by omega
    repeat' (first | ((first | (with_reducible first | refine T.regs ?_ | refine T.cond ?_ | refine T.reg ?_ | refine T.ret ?_ | refine T.exit ?_ | refine T.skip ?_) | ((with_reducible first | refine T.dregs ?_ ?_ | refine T.dreg ?_ ?_ | refine T.dregts ?_ ?_ | refine T.dregt ?_ ?_ | refine T.danys ?_ ?_ | refine T.dany ?_ ?_); exact mix) | ((with_reducible refine Za.gcp hglob (hSp) ?_ ?_); (focus ((simp [Zm]); done)))); simp only [Zh, Zi, Int.reduceEq, Int.reduceNeg, Int.reduceLE, Int.reduceLT, Nat.reduceSub, ↓reduceIte, reduceCtorEq, Nat.reduceEqDiff, Nat.reduceAdd, Nat.reduceMul, Nat.reduceLeDiff, Nat.reduceLT, Nat.reduceBEq, Nat.reduceBNe, implies_true, Z5.rs, Z5.res, hgt, hw1, htn, htn2, hz, hl', hlv, hgt2]) | (with_reducible first | refine T.seq ?_ | refine T.block ?_ | assumption | refine And.intro ?_ ?_) | (intro h; first | (exfalso; omega) | exact (tf h ‹_›).elim | exact (tf ‹_› h).elim | skip))
    all_goals first | omega | skip
    refine T.weak (Ent.nilRow (t := 5) 40 .line rfl) ?_
    refine T.weak (S2 := ⟨[(35, .one (.a (.int .i64 0))), (34, .one (.a (.int .i64 n))), (33, .one (.a (.ref 2))), (5, .one (.a (.ref 3))), (3, .one (.a (.loc 0 0)))],
      [(0, .cells 32 [.int .i64 0, .int .i64 0]), (1, .row 9 .str P), (2, .view 1 1 0 n), (3, .row 40 .line [])], 4⟩) (Ent.mk1 (id) (by simp [Z7])) (Qn hglob hM P n (by omega) (by omega) (fun p h => Nat.le_trans (hp p h) (by omega)) (fun acc ha S' hE => ?_) (fun e k ha S' h2 h3 h0 => ?_))
    · rw [ha] at hR
      subst hR
      simp only [Zh, Zi, Int.reduceEq, Int.reduceNeg, Int.reduceLE, Int.reduceLT, Nat.reduceSub, ↓reduceIte, reduceCtorEq, Nat.reduceEqDiff, Nat.reduceAdd, Nat.reduceMul, Nat.reduceLeDiff, Nat.reduceLT, Nat.reduceBEq, Nat.reduceBNe, implies_true, Z5.rs]
      refine T.weak hE ?_
      repeat' (first | ((first | (with_reducible first | refine T.regs ?_ | refine T.cond ?_ | refine T.reg ?_ | refine T.ret ?_ | refine T.exit ?_ | refine T.skip ?_) | ((with_reducible first | refine T.dregs ?_ ?_ | refine T.dreg ?_ ?_ | refine T.dregts ?_ ?_ | refine T.dregt ?_ ?_ | refine T.danys ?_ ?_ | refine T.dany ?_ ?_); exact mix)); simp only [Zh, Zi, Int.reduceEq, Int.reduceNeg, Int.reduceLE, Int.reduceLT, Nat.reduceSub, ↓reduceIte, reduceCtorEq, Nat.reduceEqDiff, Nat.reduceAdd, Nat.reduceMul, Nat.reduceLeDiff, Nat.reduceLT, Nat.reduceBEq, Nat.reduceBNe, implies_true, Z5.rs, Z5.res]) | (with_reducible first | refine T.seq ?_ | refine T.block ?_ | assumption | refine And.intro ?_ ?_) | (intro h; first | (exfalso; omega) | exact (tf h ‹_›).elim | exact (tf ‹_› h).elim | skip))
    · rw [ha] at hR
      subst hR
      simp only [Zh, Zi, Int.reduceEq, Int.reduceNeg, Int.reduceLE, Int.reduceLT, Nat.reduceSub, ↓reduceIte, reduceCtorEq, Nat.reduceEqDiff, Nat.reduceAdd, Nat.reduceMul, Nat.reduceLeDiff, Nat.reduceLT, Nat.reduceBEq, Nat.reduceBNe, implies_true, Z5.rs, Z5.res, h2, h3, h0]
  · have hl' : ¬ P.getD (P.length - 1) (Kd.dflt .str) = [] := fun e => hl (hlast.1 e)
    rw [if_neg hl, List.take_length] at hR
    by_cases h40 : 40000 < P.length
    · rw [if_pos h40] at hR
      subst hR
      have hgt2 : (40000 : Int) < (P.length : Int) := by omega
      repeat' (first | ((first | (with_reducible first | refine T.regs ?_ | refine T.cond ?_ | refine T.reg ?_ | refine T.ret ?_ | refine T.exit ?_ | refine T.skip ?_) | ((with_reducible first | refine T.dregs ?_ ?_ | refine T.dreg ?_ ?_ | refine T.dregts ?_ ?_ | refine T.dregt ?_ ?_ | refine T.danys ?_ ?_ | refine T.dany ?_ ?_); exact mix) | ((with_reducible refine Za.gcp hglob (hSp) ?_ ?_); (focus ((simp [Zm]); done)))); simp only [Zh, Zi, Int.reduceEq, Int.reduceNeg, Int.reduceLE, Int.reduceLT, Nat.reduceSub, ↓reduceIte, reduceCtorEq, Nat.reduceEqDiff, Nat.reduceAdd, Nat.reduceMul, Nat.reduceLeDiff, Nat.reduceLT, Nat.reduceBEq, Nat.reduceBNe, implies_true, Z5.rs, Z5.res, hgt, hw1, htn, hl', hgt2]) | (with_reducible first | refine T.seq ?_ | refine T.block ?_ | assumption | refine And.intro ?_ ?_) | (intro h; first | (exfalso; omega) | exact (tf h ‹_›).elim | exact (tf ‹_› h).elim | skip))
      all_goals first | omega | skip
    rw [if_neg h40] at hR
    have hgt2 : ¬ (40000 : Int) < (P.length : Int) := by omega
    repeat' (first | ((first | (with_reducible first | refine T.regs ?_ | refine T.cond ?_ | refine T.reg ?_ | refine T.ret ?_ | refine T.exit ?_ | refine T.skip ?_) | ((with_reducible first | refine T.dregs ?_ ?_ | refine T.dreg ?_ ?_ | refine T.dregts ?_ ?_ | refine T.dregt ?_ ?_ | refine T.danys ?_ ?_ | refine T.dany ?_ ?_); exact mix) | ((with_reducible refine Za.gcp hglob (hSp) ?_ ?_); (focus ((simp [Zm]); done)))); simp only [Zh, Zi, Int.reduceEq, Int.reduceNeg, Int.reduceLE, Int.reduceLT, Nat.reduceSub, ↓reduceIte, reduceCtorEq, Nat.reduceEqDiff, Nat.reduceAdd, Nat.reduceMul, Nat.reduceLeDiff, Nat.reduceLT, Nat.reduceBEq, Nat.reduceBNe, implies_true, Z5.rs, Z5.res, hgt, hw1, htn, hl', hgt2]) | (with_reducible first | refine T.seq ?_ | refine T.block ?_ | assumption | refine And.intro ?_ ?_) | (intro h; first | (exfalso; omega) | exact (tf h ‹_›).elim | exact (tf ‹_› h).elim | skip))
    all_goals first | omega | skip
    refine T.weak (Ent.nilRow (t := 5) 40 .line rfl) ?_
    refine T.weak (Ent.view (t := 33) 1 1 0 P.length rfl rfl trivial) ?_
    refine T.weak (S2 := ⟨[(35, .one (.a (.int .i64 0))), (34, .one (.a (.int .i64 P.length))), (33, .one (.a (.ref 2))), (5, .one (.a (.ref 3))), (3, .one (.a (.loc 0 0)))],
      [(0, .cells 32 [.int .i64 0, .int .i64 0]), (1, .row 9 .str P), (2, .view 1 1 0 P.length), (3, .row 40 .line [])], 4⟩) (Ent.mk1 (fun n => if n = 2 then 3 else if n = 3 then 2 else n) (by simp [Z7])) (Qn hglob hM P P.length (by omega) (by omega) (fun p h => Nat.le_trans (hp p h) (by omega)) (fun acc ha S' hE => ?_) (fun e k ha S' h2 h3 h0 => ?_))
    · rw [List.take_length] at ha
      rw [ha] at hR
      subst hR
      simp only [Zh, Zi, Int.reduceEq, Int.reduceNeg, Int.reduceLE, Int.reduceLT, Nat.reduceSub, ↓reduceIte, reduceCtorEq, Nat.reduceEqDiff, Nat.reduceAdd, Nat.reduceMul, Nat.reduceLeDiff, Nat.reduceLT, Nat.reduceBEq, Nat.reduceBNe, implies_true, Z5.rs]
      refine T.weak hE ?_
      repeat' (first | ((first | (with_reducible first | refine T.regs ?_ | refine T.cond ?_ | refine T.reg ?_ | refine T.ret ?_ | refine T.exit ?_ | refine T.skip ?_) | ((with_reducible first | refine T.dregs ?_ ?_ | refine T.dreg ?_ ?_ | refine T.dregts ?_ ?_ | refine T.dregt ?_ ?_ | refine T.danys ?_ ?_ | refine T.dany ?_ ?_); exact mix)); simp only [Zh, Zi, Int.reduceEq, Int.reduceNeg, Int.reduceLE, Int.reduceLT, Nat.reduceSub, ↓reduceIte, reduceCtorEq, Nat.reduceEqDiff, Nat.reduceAdd, Nat.reduceMul, Nat.reduceLeDiff, Nat.reduceLT, Nat.reduceBEq, Nat.reduceBNe, implies_true, Z5.rs, Z5.res]) | (with_reducible first | refine T.seq ?_ | refine T.block ?_ | assumption | refine And.intro ?_ ?_) | (intro h; first | (exfalso; omega) | exact (tf h ‹_›).elim | exact (tf ‹_› h).elim | skip))
    · rw [List.take_length] at ha
      rw [ha] at hR
      subst hR
      simp only [Zh, Zi, Int.reduceEq, Int.reduceNeg, Int.reduceLE, Int.reduceLT, Nat.reduceSub, ↓reduceIte, reduceCtorEq, Nat.reduceEqDiff, Nat.reduceAdd, Nat.reduceMul, Nat.reduceLeDiff, Nat.reduceLT, Nat.reduceBEq, Nat.reduceBNe, implies_true, Z5.rs, Z5.res, h2, h3, h0]
end Go.Proofs.YtjochhncheheaaaGreatDoor
