/-
  A part of the proofs of this seat's laws: a step on the way. It has no conditions of its own.
-/
import Derived.Test.YtjochhncheheaaaGreatDoorReadL
namespace Go.Proofs.YtjochhncheheaaaGreatDoor
open Go Go.RowKit Vc
set_option linter.unusedVariables false
set_option linter.unusedSimpArgs false
attribute [local irreducible] T Za Z2 Ent RdC RwC Xl Zc Zs
set_option maxHeartbeats 16000000 in
set_option maxRecDepth 100000 in
theorem Kq {G : Nat} {H : Nat → Option Obj} (hM : Xh G H) (s : List UInt8) (hs : s.length ≤ 2000000) :
    GCp G H Tryz.prog 21 [.a (.str s)] [] 0 [] (.tup [.agg (lineT s).1.cells, .a (.bool (lineT s).2.1), .a (.int .i64 (lineT s).2.2)]) [] 0 := by
  refine Zk.fn.gcp (by simp) (by simp [Yo, Yr, Yp, Zw, Zp, Vc.S1.okN, At.okN, SV.okN, Res.okN, Res.outOk, Z1, Res.own, Value.oneCell', Ln.cells]) fun w X fr hglob => ?_
  have l1 := I2 (s := s)
  have l2 := Jh (s := s)
  have l3 := I3 (s := s)
  have l4 := I6 (s := s)
  have l5 := Fy (s := s)
  have hU := H2 hM s 59 (by omega)
  have hul := Pp 59 s
  generalize lineT s = L at l1 l2 l3 l4 l5 ⊢
  generalize upToS 59 s = U at *
  have hT := Rd G H U.1 (by omega)
  have htl := Va U.1
  generalize trimB U.1 = t at *
  by_cases ht : t = []
  · rw [l1 ht]
    repeat' (first | ((first | (with_reducible first | refine T.regs ?_ | refine T.cond ?_ | refine T.reg ?_ | refine T.ret ?_ | refine T.exit ?_ | refine T.skip ?_) | ((with_reducible first | refine T.dregs ?_ ?_ | refine T.dreg ?_ ?_ | refine T.dregts ?_ ?_ | refine T.dregt ?_ ?_ | refine T.danys ?_ ?_ | refine T.dany ?_ ?_); exact mix) | ((with_reducible refine Za.gcp hglob (hU) ?_ ?_); (focus ((simp [Zm]); done))) | ((with_reducible refine Za.gcp hglob (hT) ?_ ?_); (focus ((simp [Zm]); done)))); simp only [Zh, Zi, Int.reduceEq, Int.reduceNeg, Int.reduceLE, Int.reduceLT, Nat.reduceSub, ↓reduceIte, reduceCtorEq, Nat.reduceEqDiff, Nat.reduceAdd, Nat.reduceMul, Nat.reduceLeDiff, Nat.reduceLT, Nat.reduceBEq, Nat.reduceBNe, implies_true, Zk.rs, Zk.res, ht, ln0, W1]) | (with_reducible first | refine T.seq ?_ | refine T.block ?_ | assumption | refine And.intro ?_ ?_) | (intro h; first | (exfalso; omega) | exact (tf h ‹_›).elim | exact (tf ‹_› h).elim | skip))
    all_goals first | omega | skip
  have hS := Mm G H t [58] (by omega)
  rw [P7] at hS
  by_cases hlast : t.getLast? = some 58
  · rw [Hd hlast, decide_eq_true hlast] at hS
    have hN := U2 t.dropLast
    cases hn : Xo t.dropLast
    · rw [l3 ht hlast hn]
      rw [hn] at hN
      repeat' (first | ((first | (with_reducible first | refine T.regs ?_ | refine T.cond ?_ | refine T.reg ?_ | refine T.ret ?_ | refine T.exit ?_ | refine T.skip ?_) | ((with_reducible first | refine T.dregs ?_ ?_ | refine T.dreg ?_ ?_ | refine T.dregts ?_ ?_ | refine T.dregt ?_ ?_ | refine T.danys ?_ ?_ | refine T.dany ?_ ?_); exact mix) | ((with_reducible refine Za.gcp hglob (hU) ?_ ?_); (focus ((simp [Zm]); done))) | ((with_reducible refine Za.gcp hglob (hT) ?_ ?_); (focus ((simp [Zm]); done))) | ((with_reducible refine Za.gcp hglob (hS) ?_ ?_); (focus ((simp [Zm]); done))) | ((with_reducible first | apply Za.rd (hN) | apply Zc.rd (hN)); (focus ((repeat' (first | exact rfl | exact trivial | refine And.intro ?_ ?_ | (simp [SV.bd, Vc.S1.bd, At.bd, Zq, Zr, Ins.cells, Ln.cells]; done))); done)))); simp only [Zh, Zi, Int.reduceEq, Int.reduceNeg, Int.reduceLE, Int.reduceLT, Nat.reduceSub, ↓reduceIte, reduceCtorEq, Nat.reduceEqDiff, Nat.reduceAdd, Nat.reduceMul, Nat.reduceLeDiff, Nat.reduceLT, Nat.reduceBEq, Nat.reduceBNe, implies_true, Zk.rs, Zk.res, ht, ln0, W1]) | (with_reducible first | refine T.seq ?_ | refine T.block ?_ | assumption | refine And.intro ?_ ?_) | (intro h; first | (exfalso; omega) | exact (tf h ‹_›).elim | exact (tf ‹_› h).elim | skip))
      all_goals first | omega | skip
    · rw [l2 ht hlast hn]
      rw [hn] at hN
      repeat' (first | ((first | (with_reducible first | refine T.regs ?_ | refine T.cond ?_ | refine T.reg ?_ | refine T.ret ?_ | refine T.exit ?_ | refine T.skip ?_) | ((with_reducible first | refine T.dregs ?_ ?_ | refine T.dreg ?_ ?_ | refine T.dregts ?_ ?_ | refine T.dregt ?_ ?_ | refine T.danys ?_ ?_ | refine T.dany ?_ ?_); exact mix) | ((with_reducible refine Za.gcp hglob (hU) ?_ ?_); (focus ((simp [Zm]); done))) | ((with_reducible refine Za.gcp hglob (hT) ?_ ?_); (focus ((simp [Zm]); done))) | ((with_reducible refine Za.gcp hglob (hS) ?_ ?_); (focus ((simp [Zm]); done))) | ((with_reducible first | apply Za.rd (hN) | apply Zc.rd (hN)); (focus ((repeat' (first | exact rfl | exact trivial | refine And.intro ?_ ?_ | (simp [SV.bd, Vc.S1.bd, At.bd, Zq, Zr, Ins.cells, Ln.cells]; done))); done)))); simp only [Zh, Zi, Int.reduceEq, Int.reduceNeg, Int.reduceLE, Int.reduceLT, Nat.reduceSub, ↓reduceIte, reduceCtorEq, Nat.reduceEqDiff, Nat.reduceAdd, Nat.reduceMul, Nat.reduceLeDiff, Nat.reduceLT, Nat.reduceBEq, Nat.reduceBNe, implies_true, Zk.rs, Zk.res, ht, ln0, W1]) | (with_reducible first | refine T.seq ?_ | refine T.block ?_ | assumption | refine And.intro ?_ ?_) | (intro h; first | (exfalso; omega) | exact (tf h ‹_›).elim | exact (tf ‹_› h).elim | skip))
      all_goals first | omega | skip
  rw [decide_eq_false hlast] at hS
  generalize Lib.trimSuffix t [58] = q at hS
  have hU2 := H2 hM t 32 (by omega)
  have hul2 := Pp 32 t
  generalize upToS 32 t = V at *
  have hI := IndexK V.1
  have hkr := Fs V.1
  by_cases hk : kindS V.1 < 0
  · rw [l4 ht hlast hk]
    repeat' (first | ((first | (with_reducible first | refine T.regs ?_ | refine T.cond ?_ | refine T.reg ?_ | refine T.ret ?_ | refine T.exit ?_ | refine T.skip ?_) | ((with_reducible first | refine T.dregs ?_ ?_ | refine T.dreg ?_ ?_ | refine T.dregts ?_ ?_ | refine T.dregt ?_ ?_ | refine T.danys ?_ ?_ | refine T.dany ?_ ?_); exact mix) | ((with_reducible refine Za.gcp hglob (hU) ?_ ?_); (focus ((simp [Zm]); done))) | ((with_reducible refine Za.gcp hglob (hT) ?_ ?_); (focus ((simp [Zm]); done))) | ((with_reducible refine Za.gcp hglob (hS) ?_ ?_); (focus ((simp [Zm]); done))) | ((with_reducible refine Za.gcp hglob (hU2) ?_ ?_); (focus ((simp [Zm]); done))) | ((with_reducible refine Za.gc (L3) ?_ ?_); (focus ((simp [Zm]); done))) | ((with_reducible first | apply Za.rd (hI) | apply Zc.rd (hI)); (focus ((repeat' (first | exact rfl | exact trivial | refine And.intro ?_ ?_ | (simp [SV.bd, Vc.S1.bd, At.bd, Zq, Zr, Ins.cells, Ln.cells]; done))); done)))); simp only [Zh, Zi, Int.reduceEq, Int.reduceNeg, Int.reduceLE, Int.reduceLT, Nat.reduceSub, ↓reduceIte, reduceCtorEq, Nat.reduceEqDiff, Nat.reduceAdd, Nat.reduceMul, Nat.reduceLeDiff, Nat.reduceLT, Nat.reduceBEq, Nat.reduceBNe, implies_true, Zk.rs, Zk.res, ht, hk, ln0, W1]) | (with_reducible first | refine T.seq ?_ | refine T.block ?_ | assumption | refine And.intro ?_ ?_) | (intro h; first | (exfalso; omega) | exact (tf h ‹_›).elim | exact (tf ‹_› h).elim | skip))
    all_goals first | omega | skip
  rw [l5 ht hlast hk, J1]
  generalize kindS V.1 = op at *
  have hY := Mb op (Hq (by omega) (by omega))
  have hT2 := Rd G H V.2.1 (by omega)
  have htl2 := Va V.2.1
  have hraw := Ey V.2.1
  have hrw : rawS V.2.1 = if trimB V.2.1 = [] then [] else splitS 44 (trimB V.2.1) := rfl
  generalize rawS V.2.1 = raw at *
  generalize trimB V.2.1 = rt at *
  by_cases hr : rt = []
  · rw [if_pos hr] at hrw
    repeat' (first | ((first | (with_reducible first | refine T.regs ?_ | refine T.cond ?_ | refine T.reg ?_ | refine T.ret ?_ | refine T.exit ?_ | refine T.skip ?_) | ((with_reducible first | refine T.dregs ?_ ?_ | refine T.dreg ?_ ?_ | refine T.dregts ?_ ?_ | refine T.dregt ?_ ?_ | refine T.danys ?_ ?_ | refine T.dany ?_ ?_); exact mix) | ((with_reducible refine Za.gcp hglob (hU) ?_ ?_); (focus ((simp [Zm]); done))) | ((with_reducible refine Za.gcp hglob (hT) ?_ ?_); (focus ((simp [Zm]); done))) | ((with_reducible refine Za.gcp hglob (hS) ?_ ?_); (focus ((simp [Zm]); done))) | ((with_reducible refine Za.gcp hglob (hU2) ?_ ?_); (focus ((simp [Zm]); done))) | ((with_reducible refine Za.gc (L3) ?_ ?_); (focus ((simp [Zm]); done))) | ((with_reducible first | apply Za.rd (hI) | apply Zc.rd (hI)); (focus ((repeat' (first | exact rfl | exact trivial | refine And.intro ?_ ?_ | (simp [SV.bd, Vc.S1.bd, At.bd, Zq, Zr, Ins.cells, Ln.cells]; done))); done))) | ((with_reducible refine Za.gcp hglob (hT2) ?_ ?_); (focus ((simp [Zm]); done))) | ((with_reducible first | apply Za.rd (hY) | apply Zc.rd (hY)); (focus ((repeat' (first | exact rfl | exact trivial | refine And.intro ?_ ?_ | (simp [SV.bd, Vc.S1.bd, At.bd, Zq, Zr, Ins.cells, Ln.cells]; done))); done)))); simp only [Zh, Zi, Int.reduceEq, Int.reduceNeg, Int.reduceLE, Int.reduceLT, Nat.reduceSub, ↓reduceIte, reduceCtorEq, Nat.reduceEqDiff, Nat.reduceAdd, Nat.reduceMul, Nat.reduceLeDiff, Nat.reduceLT, Nat.reduceBEq, Nat.reduceBNe, implies_true, Zk.rs, Zk.res, ht, hk, hr]) | (with_reducible first | refine T.seq ?_ | refine T.block ?_ | assumption | refine And.intro ?_ ?_) | (intro h; first | (exfalso; omega) | exact (tf h ‹_›).elim | exact (tf ‹_› h).elim | skip))
    all_goals first | omega | skip
    refine T.weak (Ent.nilRow (t := 11) 9 .str rfl) ?_
    refine T.weak (Ent.view (t := 11) 1 3 0 0 rfl rfl trivial) ?_
    have hl0 : 0 = raw.length := by rw [hrw]; rfl
    refine T.weak (S2 := ⟨[(84, .one (.a (.int .i64 0))), (83, .one (.a (.int .i64 2))), (82, .one (.a (.ref 3))), (11, .one (.a (.ref 2))), (14, .one (.a (.bool (Wh op)))), (10, .one (.a (.int .i64 op))), (2, .one (.a (.loc 0 0)))], [(0, .cells 40 [.str [], .int .i64 op, .int .i64 0, .int .i64 0, .int .i64 0, .str []]), (1, .row 9 .str raw), (2, .view 1 1 0 raw.length), (3, .lit 138 2 2 [.bool (V2 op), .loc 0 2, .bool (V1 op), .loc 0 3])], 4⟩) (Ent.mk1 (fun n => if n = 1 then 3 else if n = 2 then 4 else if n = 3 then 2 else n) (by simp [Z7, hrw])) (N0 hglob op raw (by omega) (fun p hp => Nat.le_trans (hraw.1 p hp) (by omega)) (fun lo d s' hlo hres S' hE => ?_) (fun e he S' h2 h3 h4 h0 => ?_))
    · simp only [Zh, Zi, Int.reduceEq, Int.reduceNeg, Int.reduceLE, Int.reduceLT, Nat.reduceSub, ↓reduceIte, reduceCtorEq, Nat.reduceEqDiff, Nat.reduceAdd, Nat.reduceMul, Nat.reduceLeDiff, Nat.reduceLT, Nat.reduceBEq, Nat.reduceBNe, implies_true, Zk.rs]
      refine T.weak hE ?_
      refine Ld hglob op raw (by omega) (fun p hp => Nat.le_trans (hraw.1 p hp) (by omega)) lo d s' hlo fun S' h2 h3 h4 h0 => ?_
      rw [hres] at h3 h4 h0
      simp only [Zh, Zi, Int.reduceEq, Int.reduceNeg, Int.reduceLE, Int.reduceLT, Nat.reduceSub, ↓reduceIte, reduceCtorEq, Nat.reduceEqDiff, Nat.reduceAdd, Nat.reduceMul, Nat.reduceLeDiff, Nat.reduceLT, Nat.reduceBEq, Nat.reduceBNe, implies_true, Zk.rs, Zk.res, h2, h3, h4, h0]
    · rw [he]
      simp only [Zh, Zi, Int.reduceEq, Int.reduceNeg, Int.reduceLE, Int.reduceLT, Nat.reduceSub, ↓reduceIte, reduceCtorEq, Nat.reduceEqDiff, Nat.reduceAdd, Nat.reduceMul, Nat.reduceLeDiff, Nat.reduceLT, Nat.reduceBEq, Nat.reduceBNe, implies_true, Zk.rs, Zk.res, h2, h3, h4, h0, Fi, ln0, W1]
  · rw [if_neg hr] at hrw
    have hSp := M0 hM rt 44 (by omega)
    rw [← hrw] at hSp
    repeat' (first | ((first | (with_reducible first | refine T.regs ?_ | refine T.cond ?_ | refine T.reg ?_ | refine T.ret ?_ | refine T.exit ?_ | refine T.skip ?_) | ((with_reducible first | refine T.dregs ?_ ?_ | refine T.dreg ?_ ?_ | refine T.dregts ?_ ?_ | refine T.dregt ?_ ?_ | refine T.danys ?_ ?_ | refine T.dany ?_ ?_); exact mix) | ((with_reducible refine Za.gcp hglob (hU) ?_ ?_); (focus ((simp [Zm]); done))) | ((with_reducible refine Za.gcp hglob (hT) ?_ ?_); (focus ((simp [Zm]); done))) | ((with_reducible refine Za.gcp hglob (hS) ?_ ?_); (focus ((simp [Zm]); done))) | ((with_reducible refine Za.gcp hglob (hU2) ?_ ?_); (focus ((simp [Zm]); done))) | ((with_reducible refine Za.gc (L3) ?_ ?_); (focus ((simp [Zm]); done))) | ((with_reducible first | apply Za.rd (hI) | apply Zc.rd (hI)); (focus ((repeat' (first | exact rfl | exact trivial | refine And.intro ?_ ?_ | (simp [SV.bd, Vc.S1.bd, At.bd, Zq, Zr, Ins.cells, Ln.cells]; done))); done))) | ((with_reducible refine Za.gcp hglob (hT2) ?_ ?_); (focus ((simp [Zm]); done))) | ((with_reducible refine Za.gcp hglob (hSp) ?_ ?_); (focus ((simp [Zm]); done))) | ((with_reducible first | apply Za.rd (hY) | apply Zc.rd (hY)); (focus ((repeat' (first | exact rfl | exact trivial | refine And.intro ?_ ?_ | (simp [SV.bd, Vc.S1.bd, At.bd, Zq, Zr, Ins.cells, Ln.cells]; done))); done)))); simp only [Zh, Zi, Int.reduceEq, Int.reduceNeg, Int.reduceLE, Int.reduceLT, Nat.reduceSub, ↓reduceIte, reduceCtorEq, Nat.reduceEqDiff, Nat.reduceAdd, Nat.reduceMul, Nat.reduceLeDiff, Nat.reduceLT, Nat.reduceBEq, Nat.reduceBNe, implies_true, Zk.rs, Zk.res, ht, hk, hr]) | (with_reducible first | refine T.seq ?_ | refine T.block ?_ | assumption | refine And.intro ?_ ?_) | (intro h; first | (exfalso; omega) | exact (tf h ‹_›).elim | exact (tf ‹_› h).elim | skip))
    all_goals first | omega | skip
    refine T.weak (Ent.view (t := 11) 1 2 0 raw.length rfl rfl trivial) ?_
    refine T.weak (S2 := ⟨[(84, .one (.a (.int .i64 0))), (83, .one (.a (.int .i64 2))), (82, .one (.a (.ref 3))), (11, .one (.a (.ref 2))), (14, .one (.a (.bool (Wh op)))), (10, .one (.a (.int .i64 op))), (2, .one (.a (.loc 0 0)))], [(0, .cells 40 [.str [], .int .i64 op, .int .i64 0, .int .i64 0, .int .i64 0, .str []]), (1, .row 9 .str raw), (2, .view 1 1 0 raw.length), (3, .lit 138 2 2 [.bool (V2 op), .loc 0 2, .bool (V1 op), .loc 0 3])], 4⟩) (Ent.mk1 (fun n => if n = 1 then 2 else if n = 2 then 4 else n) (by simp [Z7])) (N0 hglob op raw (by omega) (fun p hp => Nat.le_trans (hraw.1 p hp) (by omega)) (fun lo d s' hlo hres S' hE => ?_) (fun e he S' h2 h3 h4 h0 => ?_))
    · simp only [Zh, Zi, Int.reduceEq, Int.reduceNeg, Int.reduceLE, Int.reduceLT, Nat.reduceSub, ↓reduceIte, reduceCtorEq, Nat.reduceEqDiff, Nat.reduceAdd, Nat.reduceMul, Nat.reduceLeDiff, Nat.reduceLT, Nat.reduceBEq, Nat.reduceBNe, implies_true, Zk.rs]
      refine T.weak hE ?_
      refine Ld hglob op raw (by omega) (fun p hp => Nat.le_trans (hraw.1 p hp) (by omega)) lo d s' hlo fun S' h2 h3 h4 h0 => ?_
      rw [hres] at h3 h4 h0
      simp only [Zh, Zi, Int.reduceEq, Int.reduceNeg, Int.reduceLE, Int.reduceLT, Nat.reduceSub, ↓reduceIte, reduceCtorEq, Nat.reduceEqDiff, Nat.reduceAdd, Nat.reduceMul, Nat.reduceLeDiff, Nat.reduceLT, Nat.reduceBEq, Nat.reduceBNe, implies_true, Zk.rs, Zk.res, h2, h3, h4, h0]
    · rw [he]
      simp only [Zh, Zi, Int.reduceEq, Int.reduceNeg, Int.reduceLE, Int.reduceLT, Nat.reduceSub, ↓reduceIte, reduceCtorEq, Nat.reduceEqDiff, Nat.reduceAdd, Nat.reduceMul, Nat.reduceLeDiff, Nat.reduceLT, Nat.reduceBEq, Nat.reduceBNe, implies_true, Zk.rs, Zk.res, h2, h3, h4, h0, Fi, ln0, W1]
end Go.Proofs.YtjochhncheheaaaGreatDoor
