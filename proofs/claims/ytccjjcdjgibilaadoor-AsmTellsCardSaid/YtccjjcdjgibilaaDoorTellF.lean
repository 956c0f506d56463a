/-
  A part of the proofs of this seat's laws: a step on the way. It has no conditions of its own.
-/
import Derived.Test.YtccjjcdjgibilaaDoorTellE
namespace Go.Proofs.YtccjjcdjgibilaaDoor
open Go Go.RowKit Vc
set_option linter.unusedVariables false
set_option linter.unusedSimpArgs false
attribute [local irreducible] T Z1 Wl Ent RdC RwC Ts Yi Wd
def U7 (L : List Ln) : List Ln → Nat → List Int → List Int × Int × Int
  | [], _, acc => (acc, 0, 0)
  | x :: l, k, acc => if x.label ≠ [] then U7 L l (k + 1) acc
      else if x.ref ≠ [] then (if whereL L x.ref 0 < 0 then ([], 6, k) else U7 L l (k + 1) (acc ++ (encS [⟨x.ins.op, x.ins.d, x.ins.s, (whereL L x.ref 0).tmod 65536⟩]).1))
      else U7 L l (k + 1) (acc ++ (encS [x.ins]).1)
def Sg (l : List Ln) : List Int × Int × Int :=
  if 40000 < l.length then ([], 5, 0) else
  if (spotsS l 0).2.2.1 ≠ 0 then ([], (spotsS l 0).2.2) else U7 l l 0 []
theorem Oc (x : Ins) : (encS [x]).1.length ≤ 2 := by
  rw [Ny]
  split
  · simp only [Wv]; split <;> simp
  · simp
set_option maxHeartbeats 16000000 in
set_option maxRecDepth 100000 in
theorem Qx (l : List Ln) (hf : l.length ≤ 9223372036854775807) :
    RwC Tryd.prog 14 [.ro .line l] 3 (.int .i64) (Sg l).1 [.agg [.int .i64 (Sg l).2.1, .int .i64 (Sg l).2.2]] := by
  refine Yy.fn.rw (by simp) (by repeat' (first | exact rfl | exact trivial | refine And.intro ?_ ?_ | (simp [SV.bd, Vc.S1.bd, At.bd, Zo, Yn, Ins.cells, Ln.cells]; done))) (by simp [S1.bd, At.bd]) fun w => ?_
  generalize hR : Sg l = R
  unfold Sg at hR
  by_cases hlen : 40000 < l.length
  · rw [if_pos hlen] at hR
    subst hR
    repeat' (first | ((first | (with_reducible first | refine T.regs ?_ | refine T.cond ?_ | refine T.reg ?_ | refine T.ret ?_ | refine T.exit ?_ | refine T.skip ?_) | ((with_reducible first | refine T.dregs ?_ ?_ | refine T.dreg ?_ ?_ | refine T.dregts ?_ ?_ | refine T.dregt ?_ ?_ | refine T.danys ?_ ?_ | refine T.dany ?_ ?_); exact mix)); simp only [Yd, Zz, Zx, Vc.exK, Zk, Zj, Zg, Zh, Zw, Xq, Y8, Z0, Zm, Zl, Zy, Zn, Zi, Xo, Z7, Xn, Vc.ev, Vc.st, Vc.stq, Vc.gst, Xl, St.rd, St.get, St.put, St.find, Zd, St.new, Vc.gdc, Zp, Yw, Ys, Yu, Xk, Zu, Zq, Ym, Yj, Vc.S1.cells, Vc.upd, Vc.del, Zf, Vc.noV, Kd.enc, Kd.dec, Ins.cells, Ln.cells, Z9, Yc, Yp, Yb, Y5, Vc.rvs, Xf, Ze, Xb, Y2, Y9, Xa, Xc, Xd, Yo, Xi, Z8, Zt, Zc, Zs, Vc.kdL, Xp, Y3, Xj, Zo, SV.bd, Vc.S1.bd, At.bd, Value.oneCell', Int.reduceEq, Int.reduceNeg, Int.reduceLE, Int.reduceLT, Vc.lenOf, Yq, Xh, Z2, Vc.atK, Z5, Vc.unK, Vc.wfK, Yh, Yf, Yg, Zr, Ya, Ye, Zv, Yt, Vc.sg, Y1, Y7, Xe, Xg, Z6, Res.own, At.sub, Vc.S1.sub, SV.sub, Res.sub, Xm, Xr, Yx, Yv, Yr, Vc.frS, Kd.sz, Nat.reduceSub, ↓reduceIte, reduceCtorEq, Nat.reduceEqDiff, Nat.reduceAdd, Nat.reduceMul, Nat.reduceLeDiff, Nat.reduceLT, Nat.reduceBEq, Nat.reduceBNe, implies_true, Xs, Yy.rs, Yy.res, Int.ofNat_lt]) | (with_reducible first | refine T.seq ?_ | refine T.block ?_ | assumption | refine And.intro ?_ ?_) | (intro h; first | (exfalso; omega) | exact (tf h ‹_›).elim | exact (tf ‹_› h).elim | skip))
    all_goals first | omega | skip
  rw [if_neg hlen] at hR
  have hCh := P9 l 0 (by omega) (by omega) (by omega)
  have hwr := Uz l 0 0 [] []
  change (spotsS l 0).2.2.1 = 0 → _ at hwr
  generalize spotsS l 0 = P at hCh hR hwr
  obtain ⟨sp, end_, e, k⟩ := P
  simp only at hCh hR hwr
  by_cases he : e = 0
  · rw [if_neg (by simpa using he)] at hR
    subst he
    have hw0 := hwr rfl
    repeat' (first | ((first | (with_reducible first | refine T.regs ?_ | refine T.cond ?_ | refine T.reg ?_ | refine T.ret ?_ | refine T.exit ?_ | refine T.skip ?_) | ((with_reducible first | refine T.dregs ?_ ?_ | refine T.dreg ?_ ?_ | refine T.dregts ?_ ?_ | refine T.dregt ?_ ?_ | refine T.danys ?_ ?_ | refine T.dany ?_ ?_); exact mix) | ((with_reducible first | apply Z1.rd (hCh) | apply Yi.rd (hCh)); (focus ((repeat' (first | exact rfl | exact trivial | refine And.intro ?_ ?_ | (simp [SV.bd, Vc.S1.bd, At.bd, Zo, Yn, Ins.cells, Ln.cells]; done))); done)))); simp only [Yd, Zz, Zx, Vc.exK, Zk, Zj, Zg, Zh, Zw, Xq, Y8, Z0, Zm, Zl, Zy, Zn, Zi, Xo, Z7, Xn, Vc.ev, Vc.st, Vc.stq, Vc.gst, Xl, St.rd, St.get, St.put, St.find, Zd, St.new, Vc.gdc, Zp, Yw, Ys, Yu, Xk, Zu, Zq, Ym, Yj, Vc.S1.cells, Vc.upd, Vc.del, Zf, Vc.noV, Kd.enc, Kd.dec, Ins.cells, Ln.cells, Z9, Yc, Yp, Yb, Y5, Vc.rvs, Xf, Ze, Xb, Y2, Y9, Xa, Xc, Xd, Yo, Xi, Z8, Zt, Zc, Zs, Vc.kdL, Xp, Y3, Xj, Zo, SV.bd, Vc.S1.bd, At.bd, Value.oneCell', Int.reduceEq, Int.reduceNeg, Int.reduceLE, Int.reduceLT, Vc.lenOf, Yq, Xh, Z2, Vc.atK, Z5, Vc.unK, Vc.wfK, Yh, Yf, Yg, Zr, Ya, Ye, Zv, Yt, Vc.sg, Y1, Y7, Xe, Xg, Z6, Res.own, At.sub, Vc.S1.sub, SV.sub, Res.sub, Xm, Xr, Yx, Yv, Yr, Vc.frS, Kd.sz, Nat.reduceSub, ↓reduceIte, reduceCtorEq, Nat.reduceEqDiff, Nat.reduceAdd, Nat.reduceMul, Nat.reduceLeDiff, Nat.reduceLT, Nat.reduceBEq, Nat.reduceBNe, implies_true, Xs, Yy.rs, Yy.res, Int.ofNat_lt]) | (with_reducible first | refine T.seq ?_ | refine T.block ?_ | assumption | refine And.intro ?_ ?_) | (intro h; first | (exfalso; omega) | exact (tf h ‹_›).elim | exact (tf ‹_› h).elim | skip))
    all_goals first | omega | skip
    refine T.weak (Ent.nilRow (t := 6) 3 (.int .i64) rfl) ?_
    refine T.loop (ι := { p : Nat × List Int // p.1 ≤ l.length ∧ U7 l (l.drop p.1) p.1 p.2 = R ∧ p.2.length ≤ 2 * p.1 })
      (fun x => ⟨[(28, .one (.a (.int .i64 (x.1.1 : Int)))), (27, .one (.a (.int .i64 l.length))), (26, .one (.a (.ref 0))), (6, .one (.a (.ref 3))), (3, .one (.a (.loc 1 0))), (0, .one (.a (.ref 0)))],
        [(0, .ro .line l), (1, .cells 31 [.int .i64 0, .int .i64 0]), (3, .row 3 (.int .i64) x.1.2)], 4⟩) (fun x => l.length - x.1.1) ⟨(0, []), by simp, by simpa using hR, by simp⟩ (Ent.mk (id) (by simp [Za, Zb, Vc.bnd, St.get, St.find, Zd, SV.ren, Vc.S1.ren, At.ren, Res.ren, SV.bd, Vc.S1.bd, At.bd, Res.bd, Vc.upd, Vc.del, Kd.enc, Value.oneCell']) (by simp [Za, Zb, Vc.bnd, St.get, St.find, Zd, SV.ren, Vc.S1.ren, At.ren, Res.ren, SV.bd, Vc.S1.bd, At.bd, Res.bd, Vc.upd, Vc.del, Kd.enc, Value.oneCell']) (by simp [Za, Zb, Vc.bnd, St.get, St.find, Zd, SV.ren, Vc.S1.ren, At.ren, Res.ren, SV.bd, Vc.S1.bd, At.bd, Res.bd, Vc.upd, Vc.del, Kd.enc, Value.oneCell']) (by simp [Za, Zb, Vc.bnd, St.get, St.find, Zd, SV.ren, Vc.S1.ren, At.ren, Res.ren, SV.bd, Vc.S1.bd, At.bd, Res.bd, Vc.upd, Vc.del, Kd.enc, Value.oneCell'])) ?_
    rintro ⟨⟨j, acc⟩, hj, hrun, hal⟩
    simp only at hj hrun hal
    by_cases hlt : j < l.length
    · have hdrop : l.drop j = l.getD j ln0 :: l.drop (j + 1) := by
        rw [List.drop_eq_getElem_cons hlt]; simp [List.getD, hlt]
      have hmem : l.getD j ln0 ∈ l := by simp [List.getD, hlt]
      generalize hy : l.getD j ln0 = x at hdrop hmem
      have hy' : l.getD j (Kd.dflt .line) = x := hy
      have hwx := hw0 x hmem
      rw [hdrop] at hrun
      simp only [U7] at hrun
      have hw : IntKind.i64.wrap ((j : Int) + 1) = ((j + 1 : Nat) : Int) := Wy (by omega)
      have ht : ((j : Int)).toNat = j := by omega
      by_cases hlb : x.label = []
      · rw [if_neg (by simpa using hlb)] at hrun
        by_cases hrf : x.ref = []
        · rw [if_neg (by simpa using hrf)] at hrun
          have hE := S9 [x.ins]
          have hel := Oc x.ins
          generalize encS [x.ins] = E at hE hel hrun
          repeat' (first | ((first | (with_reducible first | refine T.regs ?_ | refine T.cond ?_ | refine T.reg ?_ | refine T.ret ?_ | refine T.exit ?_ | refine T.skip ?_) | ((with_reducible first | refine T.dregs ?_ ?_ | refine T.dreg ?_ ?_ | refine T.dregts ?_ ?_ | refine T.dregt ?_ ?_ | refine T.danys ?_ ?_ | refine T.dany ?_ ?_); exact mix) | ((with_reducible apply Z1.rw (hE)); (focus ((repeat' (first | exact rfl | exact trivial | refine And.intro ?_ ?_ | (simp [SV.bd, Vc.S1.bd, At.bd, Zo, Yn, Ins.cells, Ln.cells]; done))); done)))); simp only [Yd, Zz, Zx, Vc.exK, Zk, Zj, Zg, Zh, Zw, Xq, Y8, Z0, Zm, Zl, Zy, Zn, Zi, Xo, Z7, Xn, Vc.ev, Vc.st, Vc.stq, Vc.gst, Xl, St.rd, St.get, St.put, St.find, Zd, St.new, Vc.gdc, Zp, Yw, Ys, Yu, Xk, Zu, Zq, Ym, Yj, Vc.S1.cells, Vc.upd, Vc.del, Zf, Vc.noV, Kd.enc, Kd.dec, Ins.cells, Ln.cells, Z9, Yc, Yp, Yb, Y5, Vc.rvs, Xf, Ze, Xb, Y2, Y9, Xa, Xc, Xd, Yo, Xi, Z8, Zt, Zc, Zs, Vc.kdL, Xp, Y3, Xj, Zo, SV.bd, Vc.S1.bd, At.bd, Value.oneCell', Int.reduceEq, Int.reduceNeg, Int.reduceLE, Int.reduceLT, Vc.lenOf, Yq, Xh, Z2, Vc.atK, Z5, Vc.unK, Vc.wfK, Yh, Yf, Yg, Zr, Ya, Ye, Zv, Yt, Vc.sg, Y1, Y7, Xe, Xg, Z6, Res.own, At.sub, Vc.S1.sub, SV.sub, Res.sub, Xm, Xr, Yx, Yv, Yr, Vc.frS, Kd.sz, Nat.reduceSub, ↓reduceIte, reduceCtorEq, Nat.reduceEqDiff, Nat.reduceAdd, Nat.reduceMul, Nat.reduceLeDiff, Nat.reduceLT, Nat.reduceBEq, Nat.reduceBNe, implies_true, Xs, Yy.rs, Yy.res, hy', ht, hlb, hrf, hw, Int.ofNat_lt]) | (with_reducible first | refine T.seq ?_ | refine T.block ?_ | assumption | refine And.intro ?_ ?_) | (intro h; first | (exfalso; omega) | exact (tf h ‹_›).elim | exact (tf ‹_› h).elim | skip))
          all_goals first | omega | skip
          exact ⟨⟨(j + 1, acc ++ E.1), hlt, hrun, by simp only [List.length_append]; omega⟩, (Ent.mk (fun n => if n = 3 then 9 else n) (by simp [Za, Zb, Vc.bnd, St.get, St.find, Zd, SV.ren, Vc.S1.ren, At.ren, Res.ren, SV.bd, Vc.S1.bd, At.bd, Res.bd, Vc.upd, Vc.del, Kd.enc, Value.oneCell', hw]) (by simp [Za, Zb, Vc.bnd, St.get, St.find, Zd, SV.ren, Vc.S1.ren, At.ren, Res.ren, SV.bd, Vc.S1.bd, At.bd, Res.bd, Vc.upd, Vc.del, Kd.enc, Value.oneCell', hw]) (by simp [Za, Zb, Vc.bnd, St.get, St.find, Zd, SV.ren, Vc.S1.ren, At.ren, Res.ren, SV.bd, Vc.S1.bd, At.bd, Res.bd, Vc.upd, Vc.del, Kd.enc, Value.oneCell', hw]) (by simp [Za, Zb, Vc.bnd, St.get, St.find, Zd, SV.ren, Vc.S1.ren, At.ren, Res.ren, SV.bd, Vc.S1.bd, At.bd, Res.bd, Vc.upd, Vc.del, Kd.enc, Value.oneCell', hw])), by simp only; omega⟩
        · rw [if_pos hrf] at hrun
          have hWh := P5 l x.ref 0 (by omega) (by omega) (by omega)
          generalize whereL l x.ref 0 = W at hWh hrun
          by_cases hneg : W < 0
          · rw [if_pos hneg] at hrun
            subst hrun
            repeat' (first | ((first | (with_reducible first | refine T.regs ?_ | refine T.cond ?_ | refine T.reg ?_ | refine T.ret ?_ | refine T.exit ?_ | refine T.skip ?_) | ((with_reducible first | refine T.dregs ?_ ?_ | refine T.dreg ?_ ?_ | refine T.dregts ?_ ?_ | refine T.dregt ?_ ?_ | refine T.danys ?_ ?_ | refine T.dany ?_ ?_); exact mix) | ((with_reducible first | apply Z1.rd (hWh) | apply Yi.rd (hWh)); (focus ((repeat' (first | exact rfl | exact trivial | refine And.intro ?_ ?_ | (simp [SV.bd, Vc.S1.bd, At.bd, Zo, Yn, Ins.cells, Ln.cells]; done))); done)))); simp only [Yd, Zz, Zx, Vc.exK, Zk, Zj, Zg, Zh, Zw, Xq, Y8, Z0, Zm, Zl, Zy, Zn, Zi, Xo, Z7, Xn, Vc.ev, Vc.st, Vc.stq, Vc.gst, Xl, St.rd, St.get, St.put, St.find, Zd, St.new, Vc.gdc, Zp, Yw, Ys, Yu, Xk, Zu, Zq, Ym, Yj, Vc.S1.cells, Vc.upd, Vc.del, Zf, Vc.noV, Kd.enc, Kd.dec, Ins.cells, Ln.cells, Z9, Yc, Yp, Yb, Y5, Vc.rvs, Xf, Ze, Xb, Y2, Y9, Xa, Xc, Xd, Yo, Xi, Z8, Zt, Zc, Zs, Vc.kdL, Xp, Y3, Xj, Zo, SV.bd, Vc.S1.bd, At.bd, Value.oneCell', Int.reduceEq, Int.reduceNeg, Int.reduceLE, Int.reduceLT, Vc.lenOf, Yq, Xh, Z2, Vc.atK, Z5, Vc.unK, Vc.wfK, Yh, Yf, Yg, Zr, Ya, Ye, Zv, Yt, Vc.sg, Y1, Y7, Xe, Xg, Z6, Res.own, At.sub, Vc.S1.sub, SV.sub, Res.sub, Xm, Xr, Yx, Yv, Yr, Vc.frS, Kd.sz, Nat.reduceSub, ↓reduceIte, reduceCtorEq, Nat.reduceEqDiff, Nat.reduceAdd, Nat.reduceMul, Nat.reduceLeDiff, Nat.reduceLT, Nat.reduceBEq, Nat.reduceBNe, implies_true, Xs, Yy.rs, Yy.res, hy', ht, hlb, hrf, hw, hneg, Int.ofNat_lt]) | (with_reducible first | refine T.seq ?_ | refine T.block ?_ | assumption | refine And.intro ?_ ?_) | (intro h; first | (exfalso; omega) | exact (tf h ‹_›).elim | exact (tf ‹_› h).elim | skip))
            all_goals first | omega | skip
          · rw [if_neg hneg] at hrun
            have hE := S9 [⟨x.ins.op, x.ins.d, x.ins.s, W.tmod 65536⟩]
            have hel := Oc ⟨x.ins.op, x.ins.d, x.ins.s, W.tmod 65536⟩
            have hwm : IntKind.i64.wrap (W.tmod 65536) = W.tmod 65536 := by
              have h1 : W.tmod 65536 = W % 65536 := Int.tmod_eq_emod_of_nonneg (by omega)
              rw [h1]; exact Vu (by omega) (by omega)
            generalize encS [⟨x.ins.op, x.ins.d, x.ins.s, W.tmod 65536⟩] = E at hE hel hrun
            repeat' (first | ((first | (with_reducible first | refine T.regs ?_ | refine T.cond ?_ | refine T.reg ?_ | refine T.ret ?_ | refine T.exit ?_ | refine T.skip ?_) | ((with_reducible first | refine T.dregs ?_ ?_ | refine T.dreg ?_ ?_ | refine T.dregts ?_ ?_ | refine T.dregt ?_ ?_ | refine T.danys ?_ ?_ | refine T.dany ?_ ?_); exact mix) | ((with_reducible first | apply Z1.rd (hWh) | apply Yi.rd (hWh)); (focus ((repeat' (first | exact rfl | exact trivial | refine And.intro ?_ ?_ | (simp [SV.bd, Vc.S1.bd, At.bd, Zo, Yn, Ins.cells, Ln.cells]; done))); done))) | ((with_reducible apply Z1.rw (hE)); (focus ((repeat' (first | exact rfl | exact trivial | refine And.intro ?_ ?_ | (simp [SV.bd, Vc.S1.bd, At.bd, Zo, Yn, Ins.cells, Ln.cells]; done))); done)))); simp only [Yd, Zz, Zx, Vc.exK, Zk, Zj, Zg, Zh, Zw, Xq, Y8, Z0, Zm, Zl, Zy, Zn, Zi, Xo, Z7, Xn, Vc.ev, Vc.st, Vc.stq, Vc.gst, Xl, St.rd, St.get, St.put, St.find, Zd, St.new, Vc.gdc, Zp, Yw, Ys, Yu, Xk, Zu, Zq, Ym, Yj, Vc.S1.cells, Vc.upd, Vc.del, Zf, Vc.noV, Kd.enc, Kd.dec, Ins.cells, Ln.cells, Z9, Yc, Yp, Yb, Y5, Vc.rvs, Xf, Ze, Xb, Y2, Y9, Xa, Xc, Xd, Yo, Xi, Z8, Zt, Zc, Zs, Vc.kdL, Xp, Y3, Xj, Zo, SV.bd, Vc.S1.bd, At.bd, Value.oneCell', Int.reduceEq, Int.reduceNeg, Int.reduceLE, Int.reduceLT, Vc.lenOf, Yq, Xh, Z2, Vc.atK, Z5, Vc.unK, Vc.wfK, Yh, Yf, Yg, Zr, Ya, Ye, Zv, Yt, Vc.sg, Y1, Y7, Xe, Xg, Z6, Res.own, At.sub, Vc.S1.sub, SV.sub, Res.sub, Xm, Xr, Yx, Yv, Yr, Vc.frS, Kd.sz, Nat.reduceSub, ↓reduceIte, reduceCtorEq, Nat.reduceEqDiff, Nat.reduceAdd, Nat.reduceMul, Nat.reduceLeDiff, Nat.reduceLT, Nat.reduceBEq, Nat.reduceBNe, implies_true, Xs, Yy.rs, Yy.res, hy', ht, hlb, hrf, hw, hneg, hwm, Int.ofNat_lt]) | (with_reducible first | refine T.seq ?_ | refine T.block ?_ | assumption | refine And.intro ?_ ?_) | (intro h; first | (exfalso; omega) | exact (tf h ‹_›).elim | exact (tf ‹_› h).elim | skip))
            all_goals first | omega | skip
            exact ⟨⟨(j + 1, acc ++ E.1), hlt, hrun, by simp only [List.length_append]; omega⟩, (Ent.mk (fun n => if n = 3 then 9 else n) (by simp [Za, Zb, Vc.bnd, St.get, St.find, Zd, SV.ren, Vc.S1.ren, At.ren, Res.ren, SV.bd, Vc.S1.bd, At.bd, Res.bd, Vc.upd, Vc.del, Kd.enc, Value.oneCell', hw]) (by simp [Za, Zb, Vc.bnd, St.get, St.find, Zd, SV.ren, Vc.S1.ren, At.ren, Res.ren, SV.bd, Vc.S1.bd, At.bd, Res.bd, Vc.upd, Vc.del, Kd.enc, Value.oneCell', hw]) (by simp [Za, Zb, Vc.bnd, St.get, St.find, Zd, SV.ren, Vc.S1.ren, At.ren, Res.ren, SV.bd, Vc.S1.bd, At.bd, Res.bd, Vc.upd, Vc.del, Kd.enc, Value.oneCell', hw]) (by simp [Za, Zb, Vc.bnd, St.get, St.find, Zd, SV.ren, Vc.S1.ren, At.ren, Res.ren, SV.bd, Vc.S1.bd, At.bd, Res.bd, Vc.upd, Vc.del, Kd.enc, Value.oneCell', hw])), by simp only; omega⟩
      · rw [if_pos hlb] at hrun
        repeat' (first | ((first | (with_reducible first | refine T.regs ?_ | refine T.cond ?_ | refine T.reg ?_ | refine T.ret ?_ | refine T.exit ?_ | refine T.skip ?_) | ((with_reducible first | refine T.dregs ?_ ?_ | refine T.dreg ?_ ?_ | refine T.dregts ?_ ?_ | refine T.dregt ?_ ?_ | refine T.danys ?_ ?_ | refine T.dany ?_ ?_); exact mix)); simp only [Yd, Zz, Zx, Vc.exK, Zk, Zj, Zg, Zh, Zw, Xq, Y8, Z0, Zm, Zl, Zy, Zn, Zi, Xo, Z7, Xn, Vc.ev, Vc.st, Vc.stq, Vc.gst, Xl, St.rd, St.get, St.put, St.find, Zd, St.new, Vc.gdc, Zp, Yw, Ys, Yu, Xk, Zu, Zq, Ym, Yj, Vc.S1.cells, Vc.upd, Vc.del, Zf, Vc.noV, Kd.enc, Kd.dec, Ins.cells, Ln.cells, Z9, Yc, Yp, Yb, Y5, Vc.rvs, Xf, Ze, Xb, Y2, Y9, Xa, Xc, Xd, Yo, Xi, Z8, Zt, Zc, Zs, Vc.kdL, Xp, Y3, Xj, Zo, SV.bd, Vc.S1.bd, At.bd, Value.oneCell', Int.reduceEq, Int.reduceNeg, Int.reduceLE, Int.reduceLT, Vc.lenOf, Yq, Xh, Z2, Vc.atK, Z5, Vc.unK, Vc.wfK, Yh, Yf, Yg, Zr, Ya, Ye, Zv, Yt, Vc.sg, Y1, Y7, Xe, Xg, Z6, Res.own, At.sub, Vc.S1.sub, SV.sub, Res.sub, Xm, Xr, Yx, Yv, Yr, Vc.frS, Kd.sz, Nat.reduceSub, ↓reduceIte, reduceCtorEq, Nat.reduceEqDiff, Nat.reduceAdd, Nat.reduceMul, Nat.reduceLeDiff, Nat.reduceLT, Nat.reduceBEq, Nat.reduceBNe, implies_true, Xs, Yy.rs, Yy.res, hy', ht, hlb, hw, Int.ofNat_lt]) | (with_reducible first | refine T.seq ?_ | refine T.block ?_ | assumption | refine And.intro ?_ ?_) | (intro h; first | (exfalso; omega) | exact (tf h ‹_›).elim | exact (tf ‹_› h).elim | skip))
        all_goals first | omega | skip
        exact ⟨⟨(j + 1, acc), hlt, hrun, by simp only; omega⟩, (Ent.mk (id) (by simp [Za, Zb, Vc.bnd, St.get, St.find, Zd, SV.ren, Vc.S1.ren, At.ren, Res.ren, SV.bd, Vc.S1.bd, At.bd, Res.bd, Vc.upd, Vc.del, Kd.enc, Value.oneCell', hw]) (by simp [Za, Zb, Vc.bnd, St.get, St.find, Zd, SV.ren, Vc.S1.ren, At.ren, Res.ren, SV.bd, Vc.S1.bd, At.bd, Res.bd, Vc.upd, Vc.del, Kd.enc, Value.oneCell', hw]) (by simp [Za, Zb, Vc.bnd, St.get, St.find, Zd, SV.ren, Vc.S1.ren, At.ren, Res.ren, SV.bd, Vc.S1.bd, At.bd, Res.bd, Vc.upd, Vc.del, Kd.enc, Value.oneCell', hw]) (by simp [Za, Zb, Vc.bnd, St.get, St.find, Zd, SV.ren, Vc.S1.ren, At.ren, Res.ren, SV.bd, Vc.S1.bd, At.bd, Res.bd, Vc.upd, Vc.del, Kd.enc, Value.oneCell', hw])), by simp only; omega⟩
    · have hk2 : j = l.length := by omega
      have hd0 : l.drop j = [] := by rw [hk2]; exact List.drop_length
      rw [hd0] at hrun
      simp only [U7] at hrun
      subst hrun
      repeat' (first | ((first | (with_reducible first | refine T.regs ?_ | refine T.cond ?_ | refine T.reg ?_ | refine T.ret ?_ | refine T.exit ?_ | refine T.skip ?_) | ((with_reducible first | refine T.dregs ?_ ?_ | refine T.dreg ?_ ?_ | refine T.dregts ?_ ?_ | refine T.dregt ?_ ?_ | refine T.danys ?_ ?_ | refine T.dany ?_ ?_); exact mix)); simp only [Yd, Zz, Zx, Vc.exK, Zk, Zj, Zg, Zh, Zw, Xq, Y8, Z0, Zm, Zl, Zy, Zn, Zi, Xo, Z7, Xn, Vc.ev, Vc.st, Vc.stq, Vc.gst, Xl, St.rd, St.get, St.put, St.find, Zd, St.new, Vc.gdc, Zp, Yw, Ys, Yu, Xk, Zu, Zq, Ym, Yj, Vc.S1.cells, Vc.upd, Vc.del, Zf, Vc.noV, Kd.enc, Kd.dec, Ins.cells, Ln.cells, Z9, Yc, Yp, Yb, Y5, Vc.rvs, Xf, Ze, Xb, Y2, Y9, Xa, Xc, Xd, Yo, Xi, Z8, Zt, Zc, Zs, Vc.kdL, Xp, Y3, Xj, Zo, SV.bd, Vc.S1.bd, At.bd, Value.oneCell', Int.reduceEq, Int.reduceNeg, Int.reduceLE, Int.reduceLT, Vc.lenOf, Yq, Xh, Z2, Vc.atK, Z5, Vc.unK, Vc.wfK, Yh, Yf, Yg, Zr, Ya, Ye, Zv, Yt, Vc.sg, Y1, Y7, Xe, Xg, Z6, Res.own, At.sub, Vc.S1.sub, SV.sub, Res.sub, Xm, Xr, Yx, Yv, Yr, Vc.frS, Kd.sz, Nat.reduceSub, ↓reduceIte, reduceCtorEq, Nat.reduceEqDiff, Nat.reduceAdd, Nat.reduceMul, Nat.reduceLeDiff, Nat.reduceLT, Nat.reduceBEq, Nat.reduceBNe, implies_true, Xs, Yy.rs, Yy.res, hk2, Int.ofNat_lt]) | (with_reducible first | refine T.seq ?_ | refine T.block ?_ | assumption | refine And.intro ?_ ?_) | (intro h; first | (exfalso; omega) | exact (tf h ‹_›).elim | exact (tf ‹_› h).elim | skip))
      all_goals first | omega | skip
  · rw [if_pos (by simpa using he)] at hR
    subst hR
    repeat' (first | ((first | (with_reducible first | refine T.regs ?_ | refine T.cond ?_ | refine T.reg ?_ | refine T.ret ?_ | refine T.exit ?_ | refine T.skip ?_) | ((with_reducible first | refine T.dregs ?_ ?_ | refine T.dreg ?_ ?_ | refine T.dregts ?_ ?_ | refine T.dregt ?_ ?_ | refine T.danys ?_ ?_ | refine T.dany ?_ ?_); exact mix) | ((with_reducible first | apply Z1.rd (hCh) | apply Yi.rd (hCh)); (focus ((repeat' (first | exact rfl | exact trivial | refine And.intro ?_ ?_ | (simp [SV.bd, Vc.S1.bd, At.bd, Zo, Yn, Ins.cells, Ln.cells]; done))); done)))); simp only [Yd, Zz, Zx, Vc.exK, Zk, Zj, Zg, Zh, Zw, Xq, Y8, Z0, Zm, Zl, Zy, Zn, Zi, Xo, Z7, Xn, Vc.ev, Vc.st, Vc.stq, Vc.gst, Xl, St.rd, St.get, St.put, St.find, Zd, St.new, Vc.gdc, Zp, Yw, Ys, Yu, Xk, Zu, Zq, Ym, Yj, Vc.S1.cells, Vc.upd, Vc.del, Zf, Vc.noV, Kd.enc, Kd.dec, Ins.cells, Ln.cells, Z9, Yc, Yp, Yb, Y5, Vc.rvs, Xf, Ze, Xb, Y2, Y9, Xa, Xc, Xd, Yo, Xi, Z8, Zt, Zc, Zs, Vc.kdL, Xp, Y3, Xj, Zo, SV.bd, Vc.S1.bd, At.bd, Value.oneCell', Int.reduceEq, Int.reduceNeg, Int.reduceLE, Int.reduceLT, Vc.lenOf, Yq, Xh, Z2, Vc.atK, Z5, Vc.unK, Vc.wfK, Yh, Yf, Yg, Zr, Ya, Ye, Zv, Yt, Vc.sg, Y1, Y7, Xe, Xg, Z6, Res.own, At.sub, Vc.S1.sub, SV.sub, Res.sub, Xm, Xr, Yx, Yv, Yr, Vc.frS, Kd.sz, Nat.reduceSub, ↓reduceIte, reduceCtorEq, Nat.reduceEqDiff, Nat.reduceAdd, Nat.reduceMul, Nat.reduceLeDiff, Nat.reduceLT, Nat.reduceBEq, Nat.reduceBNe, implies_true, Xs, Yy.rs, Yy.res, he, Int.ofNat_lt]) | (with_reducible first | refine T.seq ?_ | refine T.block ?_ | assumption | refine And.intro ?_ ?_) | (intro h; first | (exfalso; omega) | exact (tf h ‹_›).elim | exact (tf ‹_› h).elim | skip))
    all_goals first | omega | skip
end Go.Proofs.YtccjjcdjgibilaaDoor
