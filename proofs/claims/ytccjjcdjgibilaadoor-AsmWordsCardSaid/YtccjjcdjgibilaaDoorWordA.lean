/-
  A part of the proofs of this seat's laws: a step on the way. It has no conditions of its own.
-/
import Derived.Test.YtccjjcdjgibilaaDoorRemA
import Derived.Test.YtccjjcdjgibilaaDoorWordP
namespace Go.Proofs.YtccjjcdjgibilaaDoor
open Go Go.RowKit Vc
set_option linter.unusedVariables false
set_option linter.unusedSimpArgs false
attribute [local irreducible] T Z2 Wd Ent RdC RwC Up Ye Xt
set_option maxHeartbeats 16000000 in
set_option maxRecDepth 100000 in
theorem Mt {G : Nat} {H : Nat → Option Obj} (hM : R6 G H) (l : List Ln) (hf : l.length ≤ 9223372036854775807) :
    GCp G H Tryd.prog 6 [.a (.ref 0)] [(0, .ro .line l)] 1 [] (.one (.a (.bool true))) [] 1 := by
  refine Xr.fn.gcp (by simp) (by simp [U4, Td, U8, W4, Wt, Vc.S1.okN, At.okN, SV.okN, Res.okN, Res.outOk, Zd, Res.own, Value.oneCell']) fun w X fr hglob => ?_
  have hAl := Nr hM
  have hB := Qj l hf
  have hok := @asm_ok l
  by_cases he : (asmS l).2.1 = 0
  · obtain ⟨g, K⟩ := hok he
    rw [K.words] at hB
    have hD := K9 (wordsL (Um g l))
    rw [K.dec] at hD
    have hsz := K.size
    have hsm := K.small
    have hA0 : ((Um g l).map bareI).drop 0 = (Um g (l.drop 0)).map bareI := rfl
    have hwant := fun x hx hl hr => Ho (x := x) K hx hl hr
    have hm := K.many
    have hright := K.right
    generalize hAA : (Um g l).map bareI = A at hD hA0
    generalize wordsL (Um g l) = W at hB hD hsz
    simp only at hB hD
    have hF := Q3 l 0 Si
    generalize hLL : Sr l 0 Si = F at hwant hF
    repeat' (first | ((first | (with_reducible first | refine T.regs ?_ | refine T.cond ?_ | refine T.reg ?_ | refine T.ret ?_ | refine T.exit ?_ | refine T.skip ?_) | ((with_reducible first | refine T.dregs ?_ ?_ | refine T.dreg ?_ ?_ | refine T.dregts ?_ ?_ | refine T.dregt ?_ ?_ | refine T.danys ?_ ?_ | refine T.dany ?_ ?_); exact mix) | ((with_reducible refine Z2.gcp hglob (hAl) ?_ ?_); (focus ((simp [X3, Wl, Vc.mtR, Vc.roA, Vc.roM, Wk, Wm, Wh, Wj, Wf, Vc.fnM, Z5, St.find, Zd, Vc.del, Z3, Res.own, Vc.sg, Yh, Yd, Yg, Zp, Z9, Zr, At.sub, Vc.S1.sub, Res.sub, Kd.enc, Ins.cells, Ln.cells, Value.oneCell', X2, List.nodup_cons]); done))) | ((with_reducible apply Z2.rw (hB)); (focus ((repeat' (first | exact rfl | exact trivial | refine And.intro ?_ ?_ | (simp [SV.bd, Vc.S1.bd, At.bd, Zq, Yv, Ins.cells, Ln.cells]; done))); done))) | ((with_reducible apply Z2.rw (hD)); (focus ((repeat' (first | exact rfl | exact trivial | refine And.intro ?_ ?_ | (simp [SV.bd, Vc.S1.bd, At.bd, Zq, Yv, Ins.cells, Ln.cells]; done))); done)))); simp only [Yf, Zz, Z1, Vc.exK, Zm, Zj, Zg, Zh, Zx, Xn, Y1, Z0, Zl, Zi, Zy, Zk, Zn, Xk, Z7, Xj, Vc.ev, Vc.st, Vc.stq, Vc.gst, Xh, St.rd, St.get, St.put, St.find, Zd, St.new, Vc.gdc, Zs, Yr, Yo, Yq, Xg, Zv, Zt, Yj, Yi, Vc.S1.cells, Vc.upd, Vc.del, Zf, Vc.noV, Kd.enc, Kd.dec, Ins.cells, Ln.cells, Z5, Yc, Yn, Ya, Y0, Vc.rvs, Y6, Zc, Y4, Yx, Y3, Y5, Y9, Xa, Yk, Xe, Z8, Zw, Zb, Zu, Vc.kdL, Xm, Yz, Xf, Zq, SV.bd, Vc.S1.bd, At.bd, Value.oneCell', Int.reduceEq, Int.reduceNeg, Int.reduceLE, Int.reduceLT, Vc.lenOf, Yl, Xc, Z4, Vc.atK, Z6, Vc.unK, Vc.wfK, Yh, Yd, Yg, Zp, Yb, Z9, Zr, Ys, Vc.sg, Yw, Y2, Y7, Y8, Z3, Res.own, At.sub, Vc.S1.sub, SV.sub, Res.sub, Xi, Xo, Yt, Yp, Ym, Vc.frS, Kd.sz, Nat.reduceSub, ↓reduceIte, reduceCtorEq, Nat.reduceEqDiff, Nat.reduceAdd, Nat.reduceMul, Nat.reduceLeDiff, Nat.reduceLT, Nat.reduceBEq, Nat.reduceBNe, implies_true, Xp, Xr.rs, Xr.res]) | (with_reducible first | refine T.seq ?_ | refine T.block ?_ | assumption | refine And.intro ?_ ?_) | (intro h; first | (exfalso; omega) | exact (tf h ‹_›).elim | exact (tf ‹_› h).elim | skip))
    all_goals first | omega | skip
    refine T.loop (ι := { p : Nat × Own × Nat × Int // p.1 ≤ l.length ∧ Sr (l.drop p.1) p.2.2.2 p.2.1 = F ∧ p.2.2.1 ≤ p.1 ∧ 0 ≤ p.2.2.2 ∧ p.2.2.2 ≤ 2 * (p.1 : Int) })
      (fun x => ⟨[(39, .one (.a (.int .i64 (x.1.1 : Int)))), (38, .one (.a (.int .i64 l.length))), (37, .one (.a (.ref 0))), (6, .one (.a (.ref 4))), (7, .one (.a (.int .i64 x.1.2.2.2))), (0, .one (.a (.ref 0))), (3, .one (.a (.ref 1))), (5, .one (.a (.ref 3)))],
        [(0, .ro .line l), (1, .row 3 (.int .i64) W), (3, .row 25 .ins A), (4, .smap Tryd.prog 9 3 (.int .i64) x.1.2.1 x.1.2.2.1)], 5⟩) (fun x => l.length - x.1.1)
      ⟨(0, fun _ => none, 0, 0), by simp, hLL, by simp, by simp, by simp⟩ (Ent.mk (id) (by simp [Za, Ze, Vc.bnd, St.get, St.find, Zd, SV.ren, Vc.S1.ren, At.ren, Res.ren, SV.bd, Vc.S1.bd, At.bd, Res.bd, Vc.upd, Vc.del, Kd.enc, Value.oneCell']) (by simp [Za, Ze, Vc.bnd, St.get, St.find, Zd, SV.ren, Vc.S1.ren, At.ren, Res.ren, SV.bd, Vc.S1.bd, At.bd, Res.bd, Vc.upd, Vc.del, Kd.enc, Value.oneCell']) (by simp [Za, Ze, Vc.bnd, St.get, St.find, Zd, SV.ren, Vc.S1.ren, At.ren, Res.ren, SV.bd, Vc.S1.bd, At.bd, Res.bd, Vc.upd, Vc.del, Kd.enc, Value.oneCell']) (by simp [Za, Ze, Vc.bnd, St.get, St.find, Zd, SV.ren, Vc.S1.ren, At.ren, Res.ren, SV.bd, Vc.S1.bd, At.bd, Res.bd, Vc.upd, Vc.del, Kd.enc, Value.oneCell'])) ?_
    rintro ⟨⟨j, f, n, a⟩, hj, hrun, hn, ha0, ha1⟩
    simp only at hj hrun hn ha0 ha1
    by_cases hlt : j < l.length
    · have hdrop : l.drop j = l.getD j ln0 :: l.drop (j + 1) := by
        rw [List.drop_eq_getElem_cons hlt]; simp [List.getD, hlt]
      have hmem : l.getD j ln0 ∈ l := by simp [List.getD, hlt]
      generalize hy : l.getD j ln0 = x at hdrop hmem
      have hy' : l.getD j (Kd.dflt .line) = x := hy
      have hwx := hright x hmem
      rw [hdrop] at hrun
      have hw : IntKind.i64.wrap ((j : Int) + 1) = ((j + 1 : Nat) : Int) := We (by omega)
      have ht : ((j : Int)).toNat = j := by omega
      unfold Sr at hrun
      by_cases hlb : x.label = []
      · rw [if_neg (by simpa using hlb)] at hrun
        have hL := Oz x.ins.op (Hn hwx hlb)
        have hll := Ts x
        rw [Ru hlb] at hll
        generalize longI x.ins.op = d at hL hll hrun
        have hwa : IntKind.i64.wrap (a + d) = a + d := Vv (by omega) (by omega)
        repeat' (first | ((first | (with_reducible first | refine T.regs ?_ | refine T.cond ?_ | refine T.reg ?_ | refine T.ret ?_ | refine T.exit ?_ | refine T.skip ?_) | ((with_reducible first | refine T.dregs ?_ ?_ | refine T.dreg ?_ ?_ | refine T.dregts ?_ ?_ | refine T.dregt ?_ ?_ | refine T.danys ?_ ?_ | refine T.dany ?_ ?_); exact mix) | ((with_reducible first | apply Z2.rd (hL) | apply Ye.rd (hL)); (focus ((repeat' (first | exact rfl | exact trivial | refine And.intro ?_ ?_ | (simp [SV.bd, Vc.S1.bd, At.bd, Zq, Yv, Ins.cells, Ln.cells]; done))); done)))); simp only [Yf, Zz, Z1, Vc.exK, Zm, Zj, Zg, Zh, Zx, Xn, Y1, Z0, Zl, Zi, Zy, Zk, Zn, Xk, Z7, Xj, Vc.ev, Vc.st, Vc.stq, Vc.gst, Xh, St.rd, St.get, St.put, St.find, Zd, St.new, Vc.gdc, Zs, Yr, Yo, Yq, Xg, Zv, Zt, Yj, Yi, Vc.S1.cells, Vc.upd, Vc.del, Zf, Vc.noV, Kd.enc, Kd.dec, Ins.cells, Ln.cells, Z5, Yc, Yn, Ya, Y0, Vc.rvs, Y6, Zc, Y4, Yx, Y3, Y5, Y9, Xa, Yk, Xe, Z8, Zw, Zb, Zu, Vc.kdL, Xm, Yz, Xf, Zq, SV.bd, Vc.S1.bd, At.bd, Value.oneCell', Int.reduceEq, Int.reduceNeg, Int.reduceLE, Int.reduceLT, Vc.lenOf, Yl, Xc, Z4, Vc.atK, Z6, Vc.unK, Vc.wfK, Yh, Yd, Yg, Zp, Yb, Z9, Zr, Ys, Vc.sg, Yw, Y2, Y7, Y8, Z3, Res.own, At.sub, Vc.S1.sub, SV.sub, Res.sub, Xi, Xo, Yt, Yp, Ym, Vc.frS, Kd.sz, Nat.reduceSub, ↓reduceIte, reduceCtorEq, Nat.reduceEqDiff, Nat.reduceAdd, Nat.reduceMul, Nat.reduceLeDiff, Nat.reduceLT, Nat.reduceBEq, Nat.reduceBNe, implies_true, Xp, Xr.rs, Xr.res, hy', ht, hlb, hw, hwa, Int.ofNat_lt]) | (with_reducible first | refine T.seq ?_ | refine T.block ?_ | assumption | refine And.intro ?_ ?_) | (intro h; first | (exfalso; omega) | exact (tf h ‹_›).elim | exact (tf ‹_› h).elim | skip))
        all_goals first | omega | skip
        exact ⟨⟨(j + 1, f, n, a + d), hlt, hrun, by simp only; omega, by simp only; omega, by simp only; omega⟩, (Ent.mk (id) (by simp [Za, Ze, Vc.bnd, St.get, St.find, Zd, SV.ren, Vc.S1.ren, At.ren, Res.ren, SV.bd, Vc.S1.bd, At.bd, Res.bd, Vc.upd, Vc.del, Kd.enc, Value.oneCell', hw]) (by simp [Za, Ze, Vc.bnd, St.get, St.find, Zd, SV.ren, Vc.S1.ren, At.ren, Res.ren, SV.bd, Vc.S1.bd, At.bd, Res.bd, Vc.upd, Vc.del, Kd.enc, Value.oneCell', hw]) (by simp [Za, Ze, Vc.bnd, St.get, St.find, Zd, SV.ren, Vc.S1.ren, At.ren, Res.ren, SV.bd, Vc.S1.bd, At.bd, Res.bd, Vc.upd, Vc.del, Kd.enc, Value.oneCell', hw]) (by simp [Za, Ze, Vc.bnd, St.get, St.find, Zd, SV.ren, Vc.S1.ren, At.ren, Res.ren, SV.bd, Vc.S1.bd, At.bd, Res.bd, Vc.upd, Vc.del, Kd.enc, Value.oneCell', hw])), by simp only; omega⟩
      · rw [if_pos hlb] at hrun
        have hxl := Sl (Tw hwx hlb).1
        repeat' (first | ((first | (with_reducible first | refine T.regs ?_ | refine T.cond ?_ | refine T.reg ?_ | refine T.ret ?_ | refine T.exit ?_ | refine T.skip ?_) | ((with_reducible first | refine T.dregs ?_ ?_ | refine T.dreg ?_ ?_ | refine T.dregts ?_ ?_ | refine T.dregt ?_ ?_ | refine T.danys ?_ ?_ | refine T.dany ?_ ?_); exact mix)); simp only [Yf, Zz, Z1, Vc.exK, Zm, Zj, Zg, Zh, Zx, Xn, Y1, Z0, Zl, Zi, Zy, Zk, Zn, Xk, Z7, Xj, Vc.ev, Vc.st, Vc.stq, Vc.gst, Xh, St.rd, St.get, St.put, St.find, Zd, St.new, Vc.gdc, Zs, Yr, Yo, Yq, Xg, Zv, Zt, Yj, Yi, Vc.S1.cells, Vc.upd, Vc.del, Zf, Vc.noV, Kd.enc, Kd.dec, Ins.cells, Ln.cells, Z5, Yc, Yn, Ya, Y0, Vc.rvs, Y6, Zc, Y4, Yx, Y3, Y5, Y9, Xa, Yk, Xe, Z8, Zw, Zb, Zu, Vc.kdL, Xm, Yz, Xf, Zq, SV.bd, Vc.S1.bd, At.bd, Value.oneCell', Int.reduceEq, Int.reduceNeg, Int.reduceLE, Int.reduceLT, Vc.lenOf, Yl, Xc, Z4, Vc.atK, Z6, Vc.unK, Vc.wfK, Yh, Yd, Yg, Zp, Yb, Z9, Zr, Ys, Vc.sg, Yw, Y2, Y7, Y8, Z3, Res.own, At.sub, Vc.S1.sub, SV.sub, Res.sub, Xi, Xo, Yt, Yp, Ym, Vc.frS, Kd.sz, Nat.reduceSub, ↓reduceIte, reduceCtorEq, Nat.reduceEqDiff, Nat.reduceAdd, Nat.reduceMul, Nat.reduceLeDiff, Nat.reduceLT, Nat.reduceBEq, Nat.reduceBNe, implies_true, Xp, Xr.rs, Xr.res, hy', ht, hlb, hw, Int.ofNat_lt, Vc.wfK]) | (with_reducible first | refine T.seq ?_ | refine T.block ?_ | assumption | refine And.intro ?_ ?_) | (intro h; first | (exfalso; omega) | exact (tf h ‹_›).elim | exact (tf ‹_› h).elim | skip))
        all_goals first | omega | exact (show (-9223372036854775808 : Int) ≤ a by omega) | exact (show a ≤ (9223372036854775807 : Int) by omega) | skip
        exact ⟨⟨(j + 1, fun t => if t = x.label then some a else f t, n + 1, a), hlt, hrun, by simp only; omega, by simp only; omega, by simp only; omega⟩, (Ent.mk (id) (by simp [Za, Ze, Vc.bnd, St.get, St.find, Zd, SV.ren, Vc.S1.ren, At.ren, Res.ren, SV.bd, Vc.S1.bd, At.bd, Res.bd, Vc.upd, Vc.del, Kd.enc, Value.oneCell', hw]) (by simp [Za, Ze, Vc.bnd, St.get, St.find, Zd, SV.ren, Vc.S1.ren, At.ren, Res.ren, SV.bd, Vc.S1.bd, At.bd, Res.bd, Vc.upd, Vc.del, Kd.enc, Value.oneCell', hw]) (by simp [Za, Ze, Vc.bnd, St.get, St.find, Zd, SV.ren, Vc.S1.ren, At.ren, Res.ren, SV.bd, Vc.S1.bd, At.bd, Res.bd, Vc.upd, Vc.del, Kd.enc, Value.oneCell', hw]) (by simp [Za, Ze, Vc.bnd, St.get, St.find, Zd, SV.ren, Vc.S1.ren, At.ren, Res.ren, SV.bd, Vc.S1.bd, At.bd, Res.bd, Vc.upd, Vc.del, Kd.enc, Value.oneCell', hw])), by simp only; omega⟩
    · have hk2 : j = l.length := by omega
      have hd0 : l.drop j = [] := by rw [hk2]; exact List.drop_length
      rw [hd0] at hrun
      simp only [Sr] at hrun
      subst hrun
      simp only at hwant hF
      have haW : a = (W.length : Int) := by omega
      repeat' (first | ((first | (with_reducible first | refine T.regs ?_ | refine T.cond ?_ | refine T.reg ?_ | refine T.ret ?_ | refine T.exit ?_ | refine T.skip ?_) | ((with_reducible first | refine T.dregs ?_ ?_ | refine T.dreg ?_ ?_ | refine T.dregts ?_ ?_ | refine T.dregt ?_ ?_ | refine T.danys ?_ ?_ | refine T.dany ?_ ?_); exact mix)); simp only [Yf, Zz, Z1, Vc.exK, Zm, Zj, Zg, Zh, Zx, Xn, Y1, Z0, Zl, Zi, Zy, Zk, Zn, Xk, Z7, Xj, Vc.ev, Vc.st, Vc.stq, Vc.gst, Xh, St.rd, St.get, St.put, St.find, Zd, St.new, Vc.gdc, Zs, Yr, Yo, Yq, Xg, Zv, Zt, Yj, Yi, Vc.S1.cells, Vc.upd, Vc.del, Zf, Vc.noV, Kd.enc, Kd.dec, Ins.cells, Ln.cells, Z5, Yc, Yn, Ya, Y0, Vc.rvs, Y6, Zc, Y4, Yx, Y3, Y5, Y9, Xa, Yk, Xe, Z8, Zw, Zb, Zu, Vc.kdL, Xm, Yz, Xf, Zq, SV.bd, Vc.S1.bd, At.bd, Value.oneCell', Int.reduceEq, Int.reduceNeg, Int.reduceLE, Int.reduceLT, Vc.lenOf, Yl, Xc, Z4, Vc.atK, Z6, Vc.unK, Vc.wfK, Yh, Yd, Yg, Zp, Yb, Z9, Zr, Ys, Vc.sg, Yw, Y2, Y7, Y8, Z3, Res.own, At.sub, Vc.S1.sub, SV.sub, Res.sub, Xi, Xo, Yt, Yp, Ym, Vc.frS, Kd.sz, Nat.reduceSub, ↓reduceIte, reduceCtorEq, Nat.reduceEqDiff, Nat.reduceAdd, Nat.reduceMul, Nat.reduceLeDiff, Nat.reduceLT, Nat.reduceBEq, Nat.reduceBNe, implies_true, Xp, Xr.rs, Xr.res, hk2, Int.ofNat_lt]) | (with_reducible first | refine T.seq ?_ | refine T.block ?_ | assumption | refine And.intro ?_ ?_) | (intro h; first | (exfalso; omega) | exact (tf h ‹_›).elim | exact (tf ‹_› h).elim | skip))
      all_goals first | omega | skip
      refine T.loop (ι := { p : Nat × Nat // p.1 ≤ l.length ∧ A.drop p.2 = (Um g (l.drop p.1)).map bareI ∧ p.2 ≤ p.1 ∧ p.2 ≤ A.length })
        (fun x => ⟨[(63, .one (.a (.int .i64 (x.1.1 : Int)))), (62, .one (.a (.int .i64 l.length))), (61, .one (.a (.ref 0))), (12, .one (.a (.int .i64 (x.1.2 : Int)))), (6, .one (.a (.ref 4))), (7, .one (.a (.int .i64 a))), (3, .one (.a (.ref 1))), (5, .one (.a (.ref 3)))],
          [(0, .ro .line l), (1, .row 3 (.int .i64) W), (3, .row 25 .ins A), (4, .smap Tryd.prog 9 3 (.int .i64) f n)], 5⟩) (fun x => l.length - x.1.1)
        ⟨(0, 0), by simp, hA0, by simp, by simp⟩ (Ent.mk (id) (by simp [Za, Ze, Vc.bnd, St.get, St.find, Zd, SV.ren, Vc.S1.ren, At.ren, Res.ren, SV.bd, Vc.S1.bd, At.bd, Res.bd, Vc.upd, Vc.del, Kd.enc, Value.oneCell']) (by simp [Za, Ze, Vc.bnd, St.get, St.find, Zd, SV.ren, Vc.S1.ren, At.ren, Res.ren, SV.bd, Vc.S1.bd, At.bd, Res.bd, Vc.upd, Vc.del, Kd.enc, Value.oneCell']) (by simp [Za, Ze, Vc.bnd, St.get, St.find, Zd, SV.ren, Vc.S1.ren, At.ren, Res.ren, SV.bd, Vc.S1.bd, At.bd, Res.bd, Vc.upd, Vc.del, Kd.enc, Value.oneCell']) (by simp [Za, Ze, Vc.bnd, St.get, St.find, Zd, SV.ren, Vc.S1.ren, At.ren, Res.ren, SV.bd, Vc.S1.bd, At.bd, Res.bd, Vc.upd, Vc.del, Kd.enc, Value.oneCell'])) ?_
      rintro ⟨⟨i, q⟩, hi, hdr, hq, hqa⟩
      simp only at hi hdr hq hqa
      by_cases hlt2 : i < l.length
      · have hdrop : l.drop i = l.getD i ln0 :: l.drop (i + 1) := by
          rw [List.drop_eq_getElem_cons hlt2]; simp [List.getD, hlt2]
        have hmem : l.getD i ln0 ∈ l := by simp [List.getD, hlt2]
        generalize hy : l.getD i ln0 = x at hdrop hmem
        have hy' : l.getD i (Kd.dflt .line) = x := hy
        have hwx := hright x hmem
        rw [hdrop] at hdr
        have hw : IntKind.i64.wrap ((i : Int) + 1) = ((i + 1 : Nat) : Int) := We (by omega)
        have ht : ((i : Int)).toNat = i := by omega
        by_cases hlb : x.label = []
        · rw [Il hlb, List.map_cons] at hdr
          have hqlt : q < A.length := by
            rcases Nat.lt_or_ge q A.length with h | h
            · exact h
            · rw [List.drop_eq_nil_of_le h] at hdr; cases hdr
          rw [List.drop_eq_getElem_cons hqlt] at hdr
          obtain ⟨hAq, hdr'⟩ := List.cons.inj hdr
          have hwq : IntKind.i64.wrap ((q : Int) + 1) = ((q + 1 : Nat) : Int) := We (by omega)
          have htq : ((q : Int)).toNat = q := by omega
          have hge : ¬ (A.length : Int) ≤ (q : Int) := by omega
          have hBa := O5 x.ins
          by_cases hrf : x.ref = []
          · rw [Ky hrf] at hAq
            have hA' : A.getD q (Kd.dflt .ins) = bareI x.ins := by
              rw [← hAq]; simp [List.getD, hqlt]
            generalize bareI x.ins = z at hBa hA'
            repeat' (first | ((first | (with_reducible first | refine T.regs ?_ | refine T.cond ?_ | refine T.reg ?_ | refine T.ret ?_ | refine T.exit ?_ | refine T.skip ?_) | ((with_reducible first | refine T.dregs ?_ ?_ | refine T.dreg ?_ ?_ | refine T.dregts ?_ ?_ | refine T.dregt ?_ ?_ | refine T.danys ?_ ?_ | refine T.dany ?_ ?_); exact mix) | ((with_reducible first | apply Z2.rd (hBa) | apply Ye.rd (hBa)); (focus ((repeat' (first | exact rfl | exact trivial | refine And.intro ?_ ?_ | (simp [SV.bd, Vc.S1.bd, At.bd, Zq, Yv, Ins.cells, Ln.cells]; done))); done)))); simp only [Yf, Zz, Z1, Vc.exK, Zm, Zj, Zg, Zh, Zx, Xn, Y1, Z0, Zl, Zi, Zy, Zk, Zn, Xk, Z7, Xj, Vc.ev, Vc.st, Vc.stq, Vc.gst, Xh, St.rd, St.get, St.put, St.find, Zd, St.new, Vc.gdc, Zs, Yr, Yo, Yq, Xg, Zv, Zt, Yj, Yi, Vc.S1.cells, Vc.upd, Vc.del, Zf, Vc.noV, Kd.enc, Kd.dec, Ins.cells, Ln.cells, Z5, Yc, Yn, Ya, Y0, Vc.rvs, Y6, Zc, Y4, Yx, Y3, Y5, Y9, Xa, Yk, Xe, Z8, Zw, Zb, Zu, Vc.kdL, Xm, Yz, Xf, Zq, SV.bd, Vc.S1.bd, At.bd, Value.oneCell', Int.reduceEq, Int.reduceNeg, Int.reduceLE, Int.reduceLT, Vc.lenOf, Yl, Xc, Z4, Vc.atK, Z6, Vc.unK, Vc.wfK, Yh, Yd, Yg, Zp, Yb, Z9, Zr, Ys, Vc.sg, Yw, Y2, Y7, Y8, Z3, Res.own, At.sub, Vc.S1.sub, SV.sub, Res.sub, Xi, Xo, Yt, Yp, Ym, Vc.frS, Kd.sz, Nat.reduceSub, ↓reduceIte, reduceCtorEq, Nat.reduceEqDiff, Nat.reduceAdd, Nat.reduceMul, Nat.reduceLeDiff, Nat.reduceLT, Nat.reduceBEq, Nat.reduceBNe, implies_true, Xp, Xr.rs, Xr.res, hy', ht, htq, hlb, hrf, hw, hwq, hge, hA', Int.ofNat_lt]) | (with_reducible first | refine T.seq ?_ | refine T.block ?_ | assumption | refine And.intro ?_ ?_) | (intro h; first | (exfalso; omega) | exact (tf h ‹_›).elim | exact (tf ‹_› h).elim | skip))
            all_goals first | omega | skip
            exact ⟨⟨(i + 1, q + 1), hlt2, hdr', by simp only; omega, hqlt⟩, (Ent.mk (id) (by simp [Za, Ze, Vc.bnd, St.get, St.find, Zd, SV.ren, Vc.S1.ren, At.ren, Res.ren, SV.bd, Vc.S1.bd, At.bd, Res.bd, Vc.upd, Vc.del, Kd.enc, Value.oneCell', hw, hwq]) (by simp [Za, Ze, Vc.bnd, St.get, St.find, Zd, SV.ren, Vc.S1.ren, At.ren, Res.ren, SV.bd, Vc.S1.bd, At.bd, Res.bd, Vc.upd, Vc.del, Kd.enc, Value.oneCell', hw, hwq]) (by simp [Za, Ze, Vc.bnd, St.get, St.find, Zd, SV.ren, Vc.S1.ren, At.ren, Res.ren, SV.bd, Vc.S1.bd, At.bd, Res.bd, Vc.upd, Vc.del, Kd.enc, Value.oneCell', hw, hwq]) (by simp [Za, Ze, Vc.bnd, St.get, St.find, Zd, SV.ren, Vc.S1.ren, At.ren, Res.ren, SV.bd, Vc.S1.bd, At.bd, Res.bd, Vc.upd, Vc.del, Kd.enc, Value.oneCell', hw, hwq])), by simp only; omega⟩
          · obtain ⟨h1, h2, h3, h4⟩ := hwant x hmem hlb hrf
            rw [h1] at hAq
            have hrl := Sl ((Th hwx hlb).2 hrf).1
            generalize whereL l x.ref 0 = p at hAq h2 h3 h4
            have hwm : IntKind.i64.wrap (p.tmod 65536) = p.tmod 65536 := by
              have h1 : p.tmod 65536 = p % 65536 := Int.tmod_eq_emod_of_nonneg (by omega)
              rw [h1]; exact Vv (by omega) (by omega)
            have hA' : A.getD q (Kd.dflt .ins) = ⟨(bareI x.ins).op, (bareI x.ins).d, (bareI x.ins).s, p.tmod 65536⟩ := by
              rw [← hAq]; simp [List.getD, hqlt]
            generalize bareI x.ins = z at hBa hA'
            repeat' (first | ((first | (with_reducible first | refine T.regs ?_ | refine T.cond ?_ | refine T.reg ?_ | refine T.ret ?_ | refine T.exit ?_ | refine T.skip ?_) | ((with_reducible first | refine T.dregs ?_ ?_ | refine T.dreg ?_ ?_ | refine T.dregts ?_ ?_ | refine T.dregt ?_ ?_ | refine T.danys ?_ ?_ | refine T.dany ?_ ?_); exact mix) | ((with_reducible first | apply Z2.rd (hBa) | apply Ye.rd (hBa)); (focus ((repeat' (first | exact rfl | exact trivial | refine And.intro ?_ ?_ | (simp [SV.bd, Vc.S1.bd, At.bd, Zq, Yv, Ins.cells, Ln.cells]; done))); done)))); simp only [Yf, Zz, Z1, Vc.exK, Zm, Zj, Zg, Zh, Zx, Xn, Y1, Z0, Zl, Zi, Zy, Zk, Zn, Xk, Z7, Xj, Vc.ev, Vc.st, Vc.stq, Vc.gst, Xh, St.rd, St.get, St.put, St.find, Zd, St.new, Vc.gdc, Zs, Yr, Yo, Yq, Xg, Zv, Zt, Yj, Yi, Vc.S1.cells, Vc.upd, Vc.del, Zf, Vc.noV, Kd.enc, Kd.dec, Ins.cells, Ln.cells, Z5, Yc, Yn, Ya, Y0, Vc.rvs, Y6, Zc, Y4, Yx, Y3, Y5, Y9, Xa, Yk, Xe, Z8, Zw, Zb, Zu, Vc.kdL, Xm, Yz, Xf, Zq, SV.bd, Vc.S1.bd, At.bd, Value.oneCell', Int.reduceEq, Int.reduceNeg, Int.reduceLE, Int.reduceLT, Vc.lenOf, Yl, Xc, Z4, Vc.atK, Z6, Vc.unK, Vc.wfK, Yh, Yd, Yg, Zp, Yb, Z9, Zr, Ys, Vc.sg, Yw, Y2, Y7, Y8, Z3, Res.own, At.sub, Vc.S1.sub, SV.sub, Res.sub, Xi, Xo, Yt, Yp, Ym, Vc.frS, Kd.sz, Nat.reduceSub, ↓reduceIte, reduceCtorEq, Nat.reduceEqDiff, Nat.reduceAdd, Nat.reduceMul, Nat.reduceLeDiff, Nat.reduceLT, Nat.reduceBEq, Nat.reduceBNe, implies_true, Xp, Xr.rs, Xr.res, hy', ht, htq, hlb, hrf, hw, hwq, hge, hA', h2, hwm, Z6, Int.ofNat_lt]) | (with_reducible first | refine T.seq ?_ | refine T.block ?_ | assumption | refine And.intro ?_ ?_) | (intro h; first | (exfalso; omega) | exact (tf h ‹_›).elim | exact (tf ‹_› h).elim | skip))
            all_goals first | omega | skip
            exact ⟨⟨(i + 1, q + 1), hlt2, hdr', by simp only; omega, hqlt⟩, (Ent.mk (id) (by simp [Za, Ze, Vc.bnd, St.get, St.find, Zd, SV.ren, Vc.S1.ren, At.ren, Res.ren, SV.bd, Vc.S1.bd, At.bd, Res.bd, Vc.upd, Vc.del, Kd.enc, Value.oneCell', hw, hwq]) (by simp [Za, Ze, Vc.bnd, St.get, St.find, Zd, SV.ren, Vc.S1.ren, At.ren, Res.ren, SV.bd, Vc.S1.bd, At.bd, Res.bd, Vc.upd, Vc.del, Kd.enc, Value.oneCell', hw, hwq]) (by simp [Za, Ze, Vc.bnd, St.get, St.find, Zd, SV.ren, Vc.S1.ren, At.ren, Res.ren, SV.bd, Vc.S1.bd, At.bd, Res.bd, Vc.upd, Vc.del, Kd.enc, Value.oneCell', hw, hwq]) (by simp [Za, Ze, Vc.bnd, St.get, St.find, Zd, SV.ren, Vc.S1.ren, At.ren, Res.ren, SV.bd, Vc.S1.bd, At.bd, Res.bd, Vc.upd, Vc.del, Kd.enc, Value.oneCell', hw, hwq])), by simp only; omega⟩
        · rw [K7 hlb] at hdr
          repeat' (first | ((first | (with_reducible first | refine T.regs ?_ | refine T.cond ?_ | refine T.reg ?_ | refine T.ret ?_ | refine T.exit ?_ | refine T.skip ?_) | ((with_reducible first | refine T.dregs ?_ ?_ | refine T.dreg ?_ ?_ | refine T.dregts ?_ ?_ | refine T.dregt ?_ ?_ | refine T.danys ?_ ?_ | refine T.dany ?_ ?_); exact mix)); simp only [Yf, Zz, Z1, Vc.exK, Zm, Zj, Zg, Zh, Zx, Xn, Y1, Z0, Zl, Zi, Zy, Zk, Zn, Xk, Z7, Xj, Vc.ev, Vc.st, Vc.stq, Vc.gst, Xh, St.rd, St.get, St.put, St.find, Zd, St.new, Vc.gdc, Zs, Yr, Yo, Yq, Xg, Zv, Zt, Yj, Yi, Vc.S1.cells, Vc.upd, Vc.del, Zf, Vc.noV, Kd.enc, Kd.dec, Ins.cells, Ln.cells, Z5, Yc, Yn, Ya, Y0, Vc.rvs, Y6, Zc, Y4, Yx, Y3, Y5, Y9, Xa, Yk, Xe, Z8, Zw, Zb, Zu, Vc.kdL, Xm, Yz, Xf, Zq, SV.bd, Vc.S1.bd, At.bd, Value.oneCell', Int.reduceEq, Int.reduceNeg, Int.reduceLE, Int.reduceLT, Vc.lenOf, Yl, Xc, Z4, Vc.atK, Z6, Vc.unK, Vc.wfK, Yh, Yd, Yg, Zp, Yb, Z9, Zr, Ys, Vc.sg, Yw, Y2, Y7, Y8, Z3, Res.own, At.sub, Vc.S1.sub, SV.sub, Res.sub, Xi, Xo, Yt, Yp, Ym, Vc.frS, Kd.sz, Nat.reduceSub, ↓reduceIte, reduceCtorEq, Nat.reduceEqDiff, Nat.reduceAdd, Nat.reduceMul, Nat.reduceLeDiff, Nat.reduceLT, Nat.reduceBEq, Nat.reduceBNe, implies_true, Xp, Xr.rs, Xr.res, hy', ht, hlb, hw, Int.ofNat_lt]) | (with_reducible first | refine T.seq ?_ | refine T.block ?_ | assumption | refine And.intro ?_ ?_) | (intro h; first | (exfalso; omega) | exact (tf h ‹_›).elim | exact (tf ‹_› h).elim | skip))
          all_goals first | omega | skip
          exact ⟨⟨(i + 1, q), hlt2, hdr, by simp only; omega, hqa⟩, (Ent.mk (id) (by simp [Za, Ze, Vc.bnd, St.get, St.find, Zd, SV.ren, Vc.S1.ren, At.ren, Res.ren, SV.bd, Vc.S1.bd, At.bd, Res.bd, Vc.upd, Vc.del, Kd.enc, Value.oneCell', hw]) (by simp [Za, Ze, Vc.bnd, St.get, St.find, Zd, SV.ren, Vc.S1.ren, At.ren, Res.ren, SV.bd, Vc.S1.bd, At.bd, Res.bd, Vc.upd, Vc.del, Kd.enc, Value.oneCell', hw]) (by simp [Za, Ze, Vc.bnd, St.get, St.find, Zd, SV.ren, Vc.S1.ren, At.ren, Res.ren, SV.bd, Vc.S1.bd, At.bd, Res.bd, Vc.upd, Vc.del, Kd.enc, Value.oneCell', hw]) (by simp [Za, Ze, Vc.bnd, St.get, St.find, Zd, SV.ren, Vc.S1.ren, At.ren, Res.ren, SV.bd, Vc.S1.bd, At.bd, Res.bd, Vc.upd, Vc.del, Kd.enc, Value.oneCell', hw])), by simp only; omega⟩
      · have hk3 : i = l.length := by omega
        have hd0 : l.drop i = [] := by rw [hk3]; exact List.drop_length
        rw [hd0] at hdr
        have hqA : A.length ≤ q := by
          have : A.drop q = [] := hdr
          exact List.drop_eq_nil_iff.1 this
        have hqe : (q : Int) = (A.length : Int) := by omega
        repeat' (first | ((first | (with_reducible first | refine T.regs ?_ | refine T.cond ?_ | refine T.reg ?_ | refine T.ret ?_ | refine T.exit ?_ | refine T.skip ?_) | ((with_reducible first | refine T.dregs ?_ ?_ | refine T.dreg ?_ ?_ | refine T.dregts ?_ ?_ | refine T.dregt ?_ ?_ | refine T.danys ?_ ?_ | refine T.dany ?_ ?_); exact mix)); simp only [Yf, Zz, Z1, Vc.exK, Zm, Zj, Zg, Zh, Zx, Xn, Y1, Z0, Zl, Zi, Zy, Zk, Zn, Xk, Z7, Xj, Vc.ev, Vc.st, Vc.stq, Vc.gst, Xh, St.rd, St.get, St.put, St.find, Zd, St.new, Vc.gdc, Zs, Yr, Yo, Yq, Xg, Zv, Zt, Yj, Yi, Vc.S1.cells, Vc.upd, Vc.del, Zf, Vc.noV, Kd.enc, Kd.dec, Ins.cells, Ln.cells, Z5, Yc, Yn, Ya, Y0, Vc.rvs, Y6, Zc, Y4, Yx, Y3, Y5, Y9, Xa, Yk, Xe, Z8, Zw, Zb, Zu, Vc.kdL, Xm, Yz, Xf, Zq, SV.bd, Vc.S1.bd, At.bd, Value.oneCell', Int.reduceEq, Int.reduceNeg, Int.reduceLE, Int.reduceLT, Vc.lenOf, Yl, Xc, Z4, Vc.atK, Z6, Vc.unK, Vc.wfK, Yh, Yd, Yg, Zp, Yb, Z9, Zr, Ys, Vc.sg, Yw, Y2, Y7, Y8, Z3, Res.own, At.sub, Vc.S1.sub, SV.sub, Res.sub, Xi, Xo, Yt, Yp, Ym, Vc.frS, Kd.sz, Nat.reduceSub, ↓reduceIte, reduceCtorEq, Nat.reduceEqDiff, Nat.reduceAdd, Nat.reduceMul, Nat.reduceLeDiff, Nat.reduceLT, Nat.reduceBEq, Nat.reduceBNe, implies_true, Xp, Xr.rs, Xr.res, hk3, hqe, haW, Int.ofNat_lt]) | (with_reducible first | refine T.seq ?_ | refine T.block ?_ | assumption | refine And.intro ?_ ?_) | (intro h; first | (exfalso; omega) | exact (tf h ‹_›).elim | exact (tf ‹_› h).elim | skip))
        all_goals first | omega | skip
  · generalize asmS l = R at *
    obtain ⟨ws, e, k⟩ := R
    simp only at hB he
    repeat' (first | ((first | (with_reducible first | refine T.regs ?_ | refine T.cond ?_ | refine T.reg ?_ | refine T.ret ?_ | refine T.exit ?_ | refine T.skip ?_) | ((with_reducible first | refine T.dregs ?_ ?_ | refine T.dreg ?_ ?_ | refine T.dregts ?_ ?_ | refine T.dregt ?_ ?_ | refine T.danys ?_ ?_ | refine T.dany ?_ ?_); exact mix) | ((with_reducible refine Z2.gcp hglob (hAl) ?_ ?_); (focus ((simp [X3, Wl, Vc.mtR, Vc.roA, Vc.roM, Wk, Wm, Wh, Wj, Wf, Vc.fnM, Z5, St.find, Zd, Vc.del, Z3, Res.own, Vc.sg, Yh, Yd, Yg, Zp, Z9, Zr, At.sub, Vc.S1.sub, Res.sub, Kd.enc, Ins.cells, Ln.cells, Value.oneCell', X2, List.nodup_cons]); done))) | ((with_reducible apply Z2.rw (hB)); (focus ((repeat' (first | exact rfl | exact trivial | refine And.intro ?_ ?_ | (simp [SV.bd, Vc.S1.bd, At.bd, Zq, Yv, Ins.cells, Ln.cells]; done))); done)))); simp only [Yf, Zz, Z1, Vc.exK, Zm, Zj, Zg, Zh, Zx, Xn, Y1, Z0, Zl, Zi, Zy, Zk, Zn, Xk, Z7, Xj, Vc.ev, Vc.st, Vc.stq, Vc.gst, Xh, St.rd, St.get, St.put, St.find, Zd, St.new, Vc.gdc, Zs, Yr, Yo, Yq, Xg, Zv, Zt, Yj, Yi, Vc.S1.cells, Vc.upd, Vc.del, Zf, Vc.noV, Kd.enc, Kd.dec, Ins.cells, Ln.cells, Z5, Yc, Yn, Ya, Y0, Vc.rvs, Y6, Zc, Y4, Yx, Y3, Y5, Y9, Xa, Yk, Xe, Z8, Zw, Zb, Zu, Vc.kdL, Xm, Yz, Xf, Zq, SV.bd, Vc.S1.bd, At.bd, Value.oneCell', Int.reduceEq, Int.reduceNeg, Int.reduceLE, Int.reduceLT, Vc.lenOf, Yl, Xc, Z4, Vc.atK, Z6, Vc.unK, Vc.wfK, Yh, Yd, Yg, Zp, Yb, Z9, Zr, Ys, Vc.sg, Yw, Y2, Y7, Y8, Z3, Res.own, At.sub, Vc.S1.sub, SV.sub, Res.sub, Xi, Xo, Yt, Yp, Ym, Vc.frS, Kd.sz, Nat.reduceSub, ↓reduceIte, reduceCtorEq, Nat.reduceEqDiff, Nat.reduceAdd, Nat.reduceMul, Nat.reduceLeDiff, Nat.reduceLT, Nat.reduceBEq, Nat.reduceBNe, implies_true, Xp, Xr.rs, Xr.res, he]) | (with_reducible first | refine T.seq ?_ | refine T.block ?_ | assumption | refine And.intro ?_ ?_) | (intro h; first | (exfalso; omega) | exact (tf h ‹_›).elim | exact (tf ‹_› h).elim | skip))
    all_goals first | omega | skip
end Go.Proofs.YtccjjcdjgibilaaDoor
