/-
  A part of the proofs of this seat's laws: what the reference's Encode and One compute. It has no conditions of its own.
-/
import Derived.Test.YtccjjcdjgibilaaDoorRefA
namespace Go.Proofs.YtccjjcdjgibilaaDoor
open Go.RowKit Vc
set_option linter.unusedVariables false
set_option linter.unusedSimpArgs false
attribute [local irreducible] T Z1 Wl Ent RdC RwC Ts Yi Wd
theorem K8 {x : Ins} (h : X2 x = 0) : 0 ≤ W3 x ∧ W3 x ≤ 65535 := by
  obtain ⟨h1, h2, h3, _⟩ := Uu x h
  unfold W3
  split <;> split <;> simp_all <;> omega
theorem refword {x : Ins} (h : X2 x = 0) : IntKind.i64.wrap (IntKind.i64.wrap (IntKind.i64.wrap ((Ww x).op * 1024) + IntKind.i64.wrap ((Ww x).d * 128)) + IntKind.i64.wrap ((Ww x).s * 16)) = W3 x := by
  obtain ⟨h1, h2, h3, _⟩ := Uu x h
  have e : W3 x = (Ww x).op * 1024 + (Ww x).d * 128 + (Ww x).s * 16 := by
    unfold W3 Ww
    split <;> split <;> simp_all
  have hd : 0 ≤ (Ww x).d ∧ (Ww x).d ≤ 7 := by
    cases hD : Ug x.op <;> simp_all [Ww]
  have hs : 0 ≤ (Ww x).s ∧ (Ww x).s ≤ 7 := by
    cases hD : Uf x.op <;> simp_all [Ww]
  have ho : (Ww x).op = x.op := rfl
  rw [Vu (n := (Ww x).op * 1024) (by omega) (by omega), Vu (n := (Ww x).d * 128) (by omega) (by omega), Vu (n := (Ww x).s * 16) (by omega) (by omega),
    Vu (n := (Ww x).op * 1024 + (Ww x).d * 128) (by omega) (by omega), Vu (by omega) (by omega), e]
theorem Mp {x : Ins} (h : hasI x.op = true) : (Ww x).imm = x.imm := by simp [Ww, h]
theorem S9 (l : List Ins) : RwC Tryd.prog 44 [.ro .ins l] 3 (.int .i64) (encS l).1 [.agg [.int .i64 (encS l).2.1, .int .i64 (encS l).2.2]] := by
  refine Xy.fn.rw (by simp) (by repeat' (first | exact rfl | exact trivial | refine And.intro ?_ ?_ | (simp [SV.bd, Vc.S1.bd, At.bd, Zo, Yn, Ins.cells, Ln.cells]; done))) (by simp [S1.bd, At.bd]) fun w => ?_
  repeat' (first | ((first | (with_reducible first | refine T.regs ?_ | refine T.cond ?_ | refine T.reg ?_ | refine T.ret ?_ | refine T.exit ?_ | refine T.skip ?_) | ((with_reducible first | refine T.dregs ?_ ?_ | refine T.dreg ?_ ?_ | refine T.dregts ?_ ?_ | refine T.dregt ?_ ?_ | refine T.danys ?_ ?_ | refine T.dany ?_ ?_); exact mix)); simp only [Yd, Zz, Zx, Vc.exK, Zk, Zj, Zg, Zh, Zw, Xq, Y8, Z0, Zm, Zl, Zy, Zn, Zi, Xo, Z7, Xn, Vc.ev, Vc.st, Vc.stq, Vc.gst, Xl, St.rd, St.get, St.put, St.find, Zd, St.new, Vc.gdc, Zp, Yw, Ys, Yu, Xk, Zu, Zq, Ym, Yj, Vc.S1.cells, Vc.upd, Vc.del, Zf, Vc.noV, Kd.enc, Kd.dec, Ins.cells, Ln.cells, Z9, Yc, Yp, Yb, Y5, Vc.rvs, Xf, Ze, Xb, Y2, Y9, Xa, Xc, Xd, Yo, Xi, Z8, Zt, Zc, Zs, Vc.kdL, Xp, Y3, Xj, Zo, SV.bd, Vc.S1.bd, At.bd, Value.oneCell', Int.reduceEq, Int.reduceNeg, Int.reduceLE, Int.reduceLT, Vc.lenOf, Yq, Xh, Z2, Vc.atK, Z5, Vc.unK, Vc.wfK, Yh, Yf, Yg, Zr, Ya, Ye, Zv, Yt, Vc.sg, Y1, Y7, Xe, Xg, Z6, Res.own, At.sub, Vc.S1.sub, SV.sub, Res.sub, Xm, Xr, Yx, Yv, Yr, Vc.frS, Kd.sz, Nat.reduceSub, ↓reduceIte, reduceCtorEq, Nat.reduceEqDiff, Nat.reduceAdd, Nat.reduceMul, Nat.reduceLeDiff, Nat.reduceLT, Nat.reduceBEq, Nat.reduceBNe, implies_true, Xs, Xy.rs, Xy.res]) | (with_reducible first | refine T.seq ?_ | refine T.block ?_ | assumption | refine And.intro ?_ ?_) | (intro h; first | (exfalso; omega) | exact (tf h ‹_›).elim | exact (tf ‹_› h).elim | skip))
  refine T.weak (Ent.nilRow (t := 4) 3 (.int .i64) rfl) ?_
  simp only [Yd, Zz, Zx, Vc.exK, Zk, Zj, Zg, Zh, Zw, Xq, Y8, Z0, Zm, Zl, Zy, Zn, Zi, Xo, Z7, Xn, Vc.ev, Vc.st, Vc.stq, Vc.gst, Xl, St.rd, St.get, St.put, St.find, Zd, St.new, Vc.gdc, Zp, Yw, Ys, Yu, Xk, Zu, Zq, Ym, Yj, Vc.S1.cells, Vc.upd, Vc.del, Zf, Vc.noV, Kd.enc, Kd.dec, Ins.cells, Ln.cells, Z9, Yc, Yp, Yb, Y5, Vc.rvs, Xf, Ze, Xb, Y2, Y9, Xa, Xc, Xd, Yo, Xi, Z8, Zt, Zc, Zs, Vc.kdL, Xp, Y3, Xj, Zo, SV.bd, Vc.S1.bd, At.bd, Value.oneCell', Int.reduceEq, Int.reduceNeg, Int.reduceLE, Int.reduceLT, Vc.lenOf, Yq, Xh, Z2, Vc.atK, Z5, Vc.unK, Vc.wfK, Yh, Yf, Yg, Zr, Ya, Ye, Zv, Yt, Vc.sg, Y1, Y7, Xe, Xg, Z6, Res.own, At.sub, Vc.S1.sub, SV.sub, Res.sub, Xm, Xr, Yx, Yv, Yr, Vc.frS, Kd.sz, Nat.reduceSub, ↓reduceIte, reduceCtorEq, Nat.reduceEqDiff, Nat.reduceAdd, Nat.reduceMul, Nat.reduceLeDiff, Nat.reduceLT, Nat.reduceBEq, Nat.reduceBNe, implies_true, Xs]
  repeat' (first | ((first | (with_reducible first | refine T.regs ?_ | refine T.cond ?_ | refine T.reg ?_ | refine T.ret ?_ | refine T.exit ?_ | refine T.skip ?_) | ((with_reducible first | refine T.dregs ?_ ?_ | refine T.dreg ?_ ?_ | refine T.dregts ?_ ?_ | refine T.dregt ?_ ?_ | refine T.danys ?_ ?_ | refine T.dany ?_ ?_); exact mix)); simp only [Yd, Zz, Zx, Vc.exK, Zk, Zj, Zg, Zh, Zw, Xq, Y8, Z0, Zm, Zl, Zy, Zn, Zi, Xo, Z7, Xn, Vc.ev, Vc.st, Vc.stq, Vc.gst, Xl, St.rd, St.get, St.put, St.find, Zd, St.new, Vc.gdc, Zp, Yw, Ys, Yu, Xk, Zu, Zq, Ym, Yj, Vc.S1.cells, Vc.upd, Vc.del, Zf, Vc.noV, Kd.enc, Kd.dec, Ins.cells, Ln.cells, Z9, Yc, Yp, Yb, Y5, Vc.rvs, Xf, Ze, Xb, Y2, Y9, Xa, Xc, Xd, Yo, Xi, Z8, Zt, Zc, Zs, Vc.kdL, Xp, Y3, Xj, Zo, SV.bd, Vc.S1.bd, At.bd, Value.oneCell', Int.reduceEq, Int.reduceNeg, Int.reduceLE, Int.reduceLT, Vc.lenOf, Yq, Xh, Z2, Vc.atK, Z5, Vc.unK, Vc.wfK, Yh, Yf, Yg, Zr, Ya, Ye, Zv, Yt, Vc.sg, Y1, Y7, Xe, Xg, Z6, Res.own, At.sub, Vc.S1.sub, SV.sub, Res.sub, Xm, Xr, Yx, Yv, Yr, Vc.frS, Kd.sz, Nat.reduceSub, ↓reduceIte, reduceCtorEq, Nat.reduceEqDiff, Nat.reduceAdd, Nat.reduceMul, Nat.reduceLeDiff, Nat.reduceLT, Nat.reduceBEq, Nat.reduceBNe, implies_true, Xs, Xy.rs, Xy.res]) | (with_reducible first | refine T.seq ?_ | refine T.block ?_ | assumption | refine And.intro ?_ ?_) | (intro h; first | (exfalso; omega) | exact (tf h ‹_›).elim | exact (tf ‹_› h).elim | skip))
  refine T.loop (ι := { p : Nat × List Int // p.1 ≤ l.length ∧ Sk (l.drop p.1) p.1 p.2 = encS l ∧ p.1 ≤ p.2.length ∧ p.2.length ≤ 65536 })
    (fun x => ⟨[(4, .one (.a (.ref 2))), (11, .one (.a (.int .i64 (x.1.1 : Int)))), (10, .one (.a (.int .i64 l.length))), (9, .one (.a (.ref 0))), (3, .one (.a (.loc 1 0)))],
      [(2, .row 3 (.int .i64) x.1.2), (1, .cells 31 [.int .i64 0, .int .i64 0]), (0, .ro .ins l)], 3⟩)
    (fun x => l.length - x.1.1) ⟨(0, []), by simp, by simp [encS], by simp, by simp⟩ (Ent.mk (id) (by simp [Za, Zb, Vc.bnd, St.get, St.find, Zd, SV.ren, Vc.S1.ren, At.ren, Res.ren, SV.bd, Vc.S1.bd, At.bd, Res.bd, Vc.upd, Vc.del, Kd.enc, Value.oneCell']) (by simp [Za, Zb, Vc.bnd, St.get, St.find, Zd, SV.ren, Vc.S1.ren, At.ren, Res.ren, SV.bd, Vc.S1.bd, At.bd, Res.bd, Vc.upd, Vc.del, Kd.enc, Value.oneCell']) (by simp [Za, Zb, Vc.bnd, St.get, St.find, Zd, SV.ren, Vc.S1.ren, At.ren, Res.ren, SV.bd, Vc.S1.bd, At.bd, Res.bd, Vc.upd, Vc.del, Kd.enc, Value.oneCell']) (by simp [Za, Zb, Vc.bnd, St.get, St.find, Zd, SV.ren, Vc.S1.ren, At.ren, Res.ren, SV.bd, Vc.S1.bd, At.bd, Res.bd, Vc.upd, Vc.del, Kd.enc, Value.oneCell'])) ?_
  rintro ⟨⟨k, acc⟩, hk, hrun, hka, hacc⟩
  simp only at hk hrun hka hacc
  have hw : IntKind.i64.wrap ((k : Int) + 1) = ((k + 1 : Nat) : Int) := Wy (by omega)
  by_cases hlt : k < l.length
  · have hdrop : l.drop k = l.getD k ⟨0, 0, 0, 0⟩ :: l.drop (k + 1) := by
      rw [List.drop_eq_getElem_cons hlt]; simp [List.getD, hlt]
    generalize hx : l.getD k ⟨0, 0, 0, 0⟩ = x at hdrop
    have hx' : l.getD k (Kd.dflt .ins) = x := hx
    rw [hdrop] at hrun
    simp only [Sk] at hrun
    repeat' (first | ((first | (with_reducible first | refine T.regs ?_ | refine T.cond ?_ | refine T.reg ?_ | refine T.ret ?_ | refine T.exit ?_ | refine T.skip ?_) | ((with_reducible first | refine T.dregs ?_ ?_ | refine T.dreg ?_ ?_ | refine T.dregts ?_ ?_ | refine T.dregt ?_ ?_ | refine T.danys ?_ ?_ | refine T.dany ?_ ?_); exact mix) | ((with_reducible first | apply Z1.rd (Ub _) | apply Yi.rd (Ub _)); (focus ((repeat' (first | exact rfl | exact trivial | refine And.intro ?_ ?_ | (simp [SV.bd, Vc.S1.bd, At.bd, Zo, Yn, Ins.cells, Ln.cells]; done))); done))) | ((with_reducible first | apply Z1.rd (Mg _) | apply Yi.rd (Mg _)); (focus ((repeat' (first | exact rfl | exact trivial | refine And.intro ?_ ?_ | (simp [SV.bd, Vc.S1.bd, At.bd, Zo, Yn, Ins.cells, Ln.cells]; done))); done))) | ((with_reducible first | apply Z1.rd (Qf _) | apply Yi.rd (Qf _)); (focus ((repeat' (first | exact rfl | exact trivial | refine And.intro ?_ ?_ | (simp [SV.bd, Vc.S1.bd, At.bd, Zo, Yn, Ins.cells, Ln.cells]; done))); done)))); simp only [Yd, Zz, Zx, Vc.exK, Zk, Zj, Zg, Zh, Zw, Xq, Y8, Z0, Zm, Zl, Zy, Zn, Zi, Xo, Z7, Xn, Vc.ev, Vc.st, Vc.stq, Vc.gst, Xl, St.rd, St.get, St.put, St.find, Zd, St.new, Vc.gdc, Zp, Yw, Ys, Yu, Xk, Zu, Zq, Ym, Yj, Vc.S1.cells, Vc.upd, Vc.del, Zf, Vc.noV, Kd.enc, Kd.dec, Ins.cells, Ln.cells, Z9, Yc, Yp, Yb, Y5, Vc.rvs, Xf, Ze, Xb, Y2, Y9, Xa, Xc, Xd, Yo, Xi, Z8, Zt, Zc, Zs, Vc.kdL, Xp, Y3, Xj, Zo, SV.bd, Vc.S1.bd, At.bd, Value.oneCell', Int.reduceEq, Int.reduceNeg, Int.reduceLE, Int.reduceLT, Vc.lenOf, Yq, Xh, Z2, Vc.atK, Z5, Vc.unK, Vc.wfK, Yh, Yf, Yg, Zr, Ya, Ye, Zv, Yt, Vc.sg, Y1, Y7, Xe, Xg, Z6, Res.own, At.sub, Vc.S1.sub, SV.sub, Res.sub, Xm, Xr, Yx, Yv, Yr, Vc.frS, Kd.sz, Nat.reduceSub, ↓reduceIte, reduceCtorEq, Nat.reduceEqDiff, Nat.reduceAdd, Nat.reduceMul, Nat.reduceLeDiff, Nat.reduceLT, Nat.reduceBEq, Nat.reduceBNe, implies_true, Xs, Xy.rs, Xy.res, hx', hw, Int.toNat_natCast, Int.ofNat_lt, List.length_append]) | (with_reducible first | refine T.seq ?_ | refine T.block ?_ | assumption | refine And.intro ?_ ?_) | (intro h; first | (exfalso; omega) | exact (tf h ‹_›).elim | exact (tf ‹_› h).elim | skip))
    all_goals first | omega | skip
    all_goals try rw [refword ‹X2 x = 0›]
    all_goals try rw [Mp ‹hasI x.op = true›]
    all_goals try (first | rw [Nh ‹_›] at hrun | rw [Nk ‹_›] at hrun)
    all_goals try simp only [List.length_append, List.length_cons, List.length_nil, Nat.zero_add] at hrun
    all_goals first
      | (rw [if_neg ‹¬ X2 x = 0›] at hrun; rw [← hrun]; done)
      | (rw [if_pos ‹X2 x = 0›, if_pos (by omega)] at hrun; rw [← hrun]; done)
      | (rw [if_pos ‹X2 x = 0›, if_neg (by omega)] at hrun
         first
           | exact ⟨⟨(k + 1, acc ++ [W3 x, x.imm]), hlt, hrun, by simp; omega, by simp; omega⟩, (Ent.mk (fun n => if n = 2 then 8 else n) (by simp [Za, Zb, Vc.bnd, St.get, St.find, Zd, SV.ren, Vc.S1.ren, At.ren, Res.ren, SV.bd, Vc.S1.bd, At.bd, Res.bd, Vc.upd, Vc.del, Kd.enc, Value.oneCell']) (by simp [Za, Zb, Vc.bnd, St.get, St.find, Zd, SV.ren, Vc.S1.ren, At.ren, Res.ren, SV.bd, Vc.S1.bd, At.bd, Res.bd, Vc.upd, Vc.del, Kd.enc, Value.oneCell']) (by simp [Za, Zb, Vc.bnd, St.get, St.find, Zd, SV.ren, Vc.S1.ren, At.ren, Res.ren, SV.bd, Vc.S1.bd, At.bd, Res.bd, Vc.upd, Vc.del, Kd.enc, Value.oneCell']) (by simp [Za, Zb, Vc.bnd, St.get, St.find, Zd, SV.ren, Vc.S1.ren, At.ren, Res.ren, SV.bd, Vc.S1.bd, At.bd, Res.bd, Vc.upd, Vc.del, Kd.enc, Value.oneCell'])), by simp; omega⟩
           | exact ⟨⟨(k + 1, acc ++ [W3 x]), hlt, hrun, by simp; omega, by simp; omega⟩, (Ent.mk (fun n => if n = 2 then 6 else n) (by simp [Za, Zb, Vc.bnd, St.get, St.find, Zd, SV.ren, Vc.S1.ren, At.ren, Res.ren, SV.bd, Vc.S1.bd, At.bd, Res.bd, Vc.upd, Vc.del, Kd.enc, Value.oneCell']) (by simp [Za, Zb, Vc.bnd, St.get, St.find, Zd, SV.ren, Vc.S1.ren, At.ren, Res.ren, SV.bd, Vc.S1.bd, At.bd, Res.bd, Vc.upd, Vc.del, Kd.enc, Value.oneCell']) (by simp [Za, Zb, Vc.bnd, St.get, St.find, Zd, SV.ren, Vc.S1.ren, At.ren, Res.ren, SV.bd, Vc.S1.bd, At.bd, Res.bd, Vc.upd, Vc.del, Kd.enc, Value.oneCell']) (by simp [Za, Zb, Vc.bnd, St.get, St.find, Zd, SV.ren, Vc.S1.ren, At.ren, Res.ren, SV.bd, Vc.S1.bd, At.bd, Res.bd, Vc.upd, Vc.del, Kd.enc, Value.oneCell'])), by simp; omega⟩)
  · have hk2 : k = l.length := by omega
    subst hk2
    rw [List.drop_length] at hrun
    simp only [Sk] at hrun
    repeat' (first | ((first | (with_reducible first | refine T.regs ?_ | refine T.cond ?_ | refine T.reg ?_ | refine T.ret ?_ | refine T.exit ?_ | refine T.skip ?_) | ((with_reducible first | refine T.dregs ?_ ?_ | refine T.dreg ?_ ?_ | refine T.dregts ?_ ?_ | refine T.dregt ?_ ?_ | refine T.danys ?_ ?_ | refine T.dany ?_ ?_); exact mix)); simp only [Yd, Zz, Zx, Vc.exK, Zk, Zj, Zg, Zh, Zw, Xq, Y8, Z0, Zm, Zl, Zy, Zn, Zi, Xo, Z7, Xn, Vc.ev, Vc.st, Vc.stq, Vc.gst, Xl, St.rd, St.get, St.put, St.find, Zd, St.new, Vc.gdc, Zp, Yw, Ys, Yu, Xk, Zu, Zq, Ym, Yj, Vc.S1.cells, Vc.upd, Vc.del, Zf, Vc.noV, Kd.enc, Kd.dec, Ins.cells, Ln.cells, Z9, Yc, Yp, Yb, Y5, Vc.rvs, Xf, Ze, Xb, Y2, Y9, Xa, Xc, Xd, Yo, Xi, Z8, Zt, Zc, Zs, Vc.kdL, Xp, Y3, Xj, Zo, SV.bd, Vc.S1.bd, At.bd, Value.oneCell', Int.reduceEq, Int.reduceNeg, Int.reduceLE, Int.reduceLT, Vc.lenOf, Yq, Xh, Z2, Vc.atK, Z5, Vc.unK, Vc.wfK, Yh, Yf, Yg, Zr, Ya, Ye, Zv, Yt, Vc.sg, Y1, Y7, Xe, Xg, Z6, Res.own, At.sub, Vc.S1.sub, SV.sub, Res.sub, Xm, Xr, Yx, Yv, Yr, Vc.frS, Kd.sz, Nat.reduceSub, ↓reduceIte, reduceCtorEq, Nat.reduceEqDiff, Nat.reduceAdd, Nat.reduceMul, Nat.reduceLeDiff, Nat.reduceLT, Nat.reduceBEq, Nat.reduceBNe, implies_true, Xs, Xy.rs, Xy.res, hw, Int.toNat_natCast, Int.ofNat_lt]) | (with_reducible first | refine T.seq ?_ | refine T.block ?_ | assumption | refine And.intro ?_ ?_) | (intro h; first | (exfalso; omega) | exact (tf h ‹_›).elim | exact (tf ‹_› h).elim | skip))
    all_goals first | omega | (rw [← hrun]; done)
theorem Ny (x : Ins) : encS [x] = if X2 x = 0 then (Wv x, 0, 0) else ([], X2 x, 0) := by
  simp only [encS, Sk, List.nil_append]
  split
  · rw [if_neg]
    unfold Wv; split <;> simp
  · rfl
theorem Lr {x : Int} (hwx : Vn x = true) (imm : Int) (hi : hasI (x / 1024) = true → Vn imm = true) :
    okW x = true ↔ (X2 (Rz x imm) = 0 ∧ W3 (Rz x imm) = x) := by
  have hb := Qn hwx
  simp only [okW, hwx, Bool.true_and, Bool.and_eq_true, Bool.or_eq_true, decide_eq_true_eq]
  unfold X2 W3 Rz
  simp only
  have hr : ∀ y : Int, reg (y % 8) = true := fun y => by simp [reg]; omega
  cases hk : Wz (x / 1024) <;> cases hd : Ug (x / 1024) <;> cases hs : Uf (x / 1024) <;> cases hI : hasI (x / 1024) <;> simp_all [hr] <;> omega
end Go.Proofs.YtccjjcdjgibilaaDoor
