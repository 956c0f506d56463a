/-
  A part of the proofs of this seat's laws: what the reference's Encode and One compute. It has no conditions of its own.
-/
import Derived.Test.YtibkcfpcfbodaaaRefA
namespace Go.Proofs.Ytibkcfpcfbodaaa
open Go.RowKit Vc
set_option linter.unusedVariables false
set_option linter.unusedSimpArgs false
attribute [local irreducible] T Z9 Wm Ent RdC RwC Sb Yc Wg
theorem Io {x : Ins} (h : X5 x = 0) : 0 ≤ Vj x ∧ Vj x ≤ 65535 := by
  obtain ⟨h1, h2, h3, _⟩ := Tf x h
  unfold Vj
  split <;> split <;> simp_all <;> omega
theorem refword {x : Ins} (h : X5 x = 0) : IntKind.i64.wrap (IntKind.i64.wrap (IntKind.i64.wrap ((Ws x).op * 1024) + IntKind.i64.wrap ((Ws x).d * 128)) + IntKind.i64.wrap ((Ws x).s * 16)) = Vj x := by
  obtain ⟨h1, h2, h3, _⟩ := Tf x h
  have e : Vj x = (Ws x).op * 1024 + (Ws x).d * 128 + (Ws x).s * 16 := by
    unfold Vj Ws
    split <;> split <;> simp_all
  have hd : 0 ≤ (Ws x).d ∧ (Ws x).d ≤ 7 := by
    cases hD : T5 x.op <;> simp_all [Ws]
  have hs : 0 ≤ (Ws x).s ∧ (Ws x).s ≤ 7 := by
    cases hD : T6 x.op <;> simp_all [Ws]
  have ho : (Ws x).op = x.op := rfl
  rw [U5 (n := (Ws x).op * 1024) (by omega) (by omega), U5 (n := (Ws x).d * 128) (by omega) (by omega), U5 (n := (Ws x).s * 16) (by omega) (by omega),
    U5 (n := (Ws x).op * 1024 + (Ws x).d * 128) (by omega) (by omega), U5 (by omega) (by omega), e]
theorem O5 {x : Ins} (h : hasI x.op = true) : (Ws x).imm = x.imm := by simp [Ws, h]
theorem refEncode_any (l : List Ins) : RwC Try.prog 33 [.ro .ins l] 3 (.int .i64) (Uw l).1 [.agg [.int .i64 (Uw l).2.1, .int .i64 (Uw l).2.2]] := by
  refine X1.fn.rw (by simp) (by repeat' (first | exact rfl | exact trivial | refine And.intro ?_ ?_ | (simp [SV.bd, Vc.S1.bd, At.bd, Zo, Yx, Ins.cells, Ln.cells]; done))) (by simp [S1.bd, At.bd]) fun w => ?_
  repeat' (first | ((first | (with_reducible first | refine T.regs ?_ | refine T.cond ?_ | refine T.reg ?_ | refine T.ret ?_ | refine T.exit ?_ | refine T.skip ?_) | ((with_reducible first | refine T.dregs ?_ ?_ | refine T.dreg ?_ ?_ | refine T.dregts ?_ ?_ | refine T.dregt ?_ ?_ | refine T.danys ?_ ?_ | refine T.dany ?_ ?_); exact mix)); simp only [Z8, Zx, Zy, Vc.exK, Zl, Zn, Zg, Zh, Zu, Xo, Y5, Zw, Zm, Zi, Zv, Zk, Zj, Xn, Z3, Xm, Vc.ev, Vc.st, Vc.stq, Vc.gst, Xj, St.rd, St.get, St.put, St.find, Ze, St.new, Vc.gdc, Zp, Yw, Yr, Yv, Xk, Zs, Zq, Yl, Yf, Vc.S1.cells, Vc.upd, Vc.del, Zf, Vc.noV, Kd.enc, Kd.dec, Ins.cells, Ln.cells, Yb, Z7, Yo, Z5, Y7, Vc.rvs, Xb, Zd, Xa, Y3, Y6, Y9, Xc, Xd, Ym, Xi, Z4, Zt, Zc, Zr, Y4, Xh, Zo, SV.bd, Vc.S1.bd, At.bd, Value.oneCell', Int.reduceEq, Int.reduceNeg, Int.reduceLE, Int.reduceLT, Vc.lenOf, Yq, Xf, Z1, Vc.atK, Z2, Vc.unK, Vc.wfK, Yk, Yg, Yi, Zz, Z6, Yh, Z0, Yu, Vc.sg, Y2, Y8, Xg, Xe, Ya, Res.own, At.sub, Vc.S1.sub, SV.sub, Res.sub, Xl, Xp, Ys, Yt, Yp, Vc.frS, Kd.sz, Nat.reduceSub, ↓reduceIte, reduceCtorEq, Nat.reduceEqDiff, Nat.reduceAdd, Nat.reduceMul, Nat.reduceLeDiff, Nat.reduceLT, Nat.reduceBEq, Nat.reduceBNe, implies_true, Xq, X1.rs, X1.res]) | (with_reducible first | refine T.seq ?_ | refine T.block ?_ | assumption | refine And.intro ?_ ?_) | (intro h; first | (exfalso; omega) | exact (tf h ‹_›).elim | exact (tf ‹_› h).elim | skip))
  refine T.weak (Ent.nilRow (t := 4) 3 (.int .i64) rfl) ?_
  simp only [Z8, Zx, Zy, Vc.exK, Zl, Zn, Zg, Zh, Zu, Xo, Y5, Zw, Zm, Zi, Zv, Zk, Zj, Xn, Z3, Xm, Vc.ev, Vc.st, Vc.stq, Vc.gst, Xj, St.rd, St.get, St.put, St.find, Ze, St.new, Vc.gdc, Zp, Yw, Yr, Yv, Xk, Zs, Zq, Yl, Yf, Vc.S1.cells, Vc.upd, Vc.del, Zf, Vc.noV, Kd.enc, Kd.dec, Ins.cells, Ln.cells, Yb, Z7, Yo, Z5, Y7, Vc.rvs, Xb, Zd, Xa, Y3, Y6, Y9, Xc, Xd, Ym, Xi, Z4, Zt, Zc, Zr, Y4, Xh, Zo, SV.bd, Vc.S1.bd, At.bd, Value.oneCell', Int.reduceEq, Int.reduceNeg, Int.reduceLE, Int.reduceLT, Vc.lenOf, Yq, Xf, Z1, Vc.atK, Z2, Vc.unK, Vc.wfK, Yk, Yg, Yi, Zz, Z6, Yh, Z0, Yu, Vc.sg, Y2, Y8, Xg, Xe, Ya, Res.own, At.sub, Vc.S1.sub, SV.sub, Res.sub, Xl, Xp, Ys, Yt, Yp, Vc.frS, Kd.sz, Nat.reduceSub, ↓reduceIte, reduceCtorEq, Nat.reduceEqDiff, Nat.reduceAdd, Nat.reduceMul, Nat.reduceLeDiff, Nat.reduceLT, Nat.reduceBEq, Nat.reduceBNe, implies_true, Xq]
  repeat' (first | ((first | (with_reducible first | refine T.regs ?_ | refine T.cond ?_ | refine T.reg ?_ | refine T.ret ?_ | refine T.exit ?_ | refine T.skip ?_) | ((with_reducible first | refine T.dregs ?_ ?_ | refine T.dreg ?_ ?_ | refine T.dregts ?_ ?_ | refine T.dregt ?_ ?_ | refine T.danys ?_ ?_ | refine T.dany ?_ ?_); exact mix)); simp only [Z8, Zx, Zy, Vc.exK, Zl, Zn, Zg, Zh, Zu, Xo, Y5, Zw, Zm, Zi, Zv, Zk, Zj, Xn, Z3, Xm, Vc.ev, Vc.st, Vc.stq, Vc.gst, Xj, St.rd, St.get, St.put, St.find, Ze, St.new, Vc.gdc, Zp, Yw, Yr, Yv, Xk, Zs, Zq, Yl, Yf, Vc.S1.cells, Vc.upd, Vc.del, Zf, Vc.noV, Kd.enc, Kd.dec, Ins.cells, Ln.cells, Yb, Z7, Yo, Z5, Y7, Vc.rvs, Xb, Zd, Xa, Y3, Y6, Y9, Xc, Xd, Ym, Xi, Z4, Zt, Zc, Zr, Y4, Xh, Zo, SV.bd, Vc.S1.bd, At.bd, Value.oneCell', Int.reduceEq, Int.reduceNeg, Int.reduceLE, Int.reduceLT, Vc.lenOf, Yq, Xf, Z1, Vc.atK, Z2, Vc.unK, Vc.wfK, Yk, Yg, Yi, Zz, Z6, Yh, Z0, Yu, Vc.sg, Y2, Y8, Xg, Xe, Ya, Res.own, At.sub, Vc.S1.sub, SV.sub, Res.sub, Xl, Xp, Ys, Yt, Yp, Vc.frS, Kd.sz, Nat.reduceSub, ↓reduceIte, reduceCtorEq, Nat.reduceEqDiff, Nat.reduceAdd, Nat.reduceMul, Nat.reduceLeDiff, Nat.reduceLT, Nat.reduceBEq, Nat.reduceBNe, implies_true, Xq, X1.rs, X1.res]) | (with_reducible first | refine T.seq ?_ | refine T.block ?_ | assumption | refine And.intro ?_ ?_) | (intro h; first | (exfalso; omega) | exact (tf h ‹_›).elim | exact (tf ‹_› h).elim | skip))
  refine T.loop (ι := { p : Nat × List Int // p.1 ≤ l.length ∧ Ro (l.drop p.1) p.1 p.2 = Uw l ∧ p.1 ≤ p.2.length ∧ p.2.length ≤ 65536 })
    (fun x => ⟨[(4, .one (.a (.ref 2))), (11, .one (.a (.int .i64 (x.1.1 : Int)))), (10, .one (.a (.int .i64 l.length))), (9, .one (.a (.ref 0))), (3, .one (.a (.loc 1 0)))],
      [(2, .row 3 (.int .i64) x.1.2), (1, .cells 29 [.int .i64 0, .int .i64 0]), (0, .ro .ins l)], 3⟩)
    (fun x => l.length - x.1.1) ⟨(0, []), by simp, by simp [Uw], by simp, by simp⟩ (Ent.mk (id) (by simp [Za, Zb, Vc.bnd, St.get, St.find, Ze, SV.ren, Vc.S1.ren, At.ren, Res.ren, SV.bd, Vc.S1.bd, At.bd, Res.bd, Vc.upd, Vc.del, Kd.enc, Value.oneCell']) (by simp [Za, Zb, Vc.bnd, St.get, St.find, Ze, SV.ren, Vc.S1.ren, At.ren, Res.ren, SV.bd, Vc.S1.bd, At.bd, Res.bd, Vc.upd, Vc.del, Kd.enc, Value.oneCell']) (by simp [Za, Zb, Vc.bnd, St.get, St.find, Ze, SV.ren, Vc.S1.ren, At.ren, Res.ren, SV.bd, Vc.S1.bd, At.bd, Res.bd, Vc.upd, Vc.del, Kd.enc, Value.oneCell']) (by simp [Za, Zb, Vc.bnd, St.get, St.find, Ze, SV.ren, Vc.S1.ren, At.ren, Res.ren, SV.bd, Vc.S1.bd, At.bd, Res.bd, Vc.upd, Vc.del, Kd.enc, Value.oneCell'])) ?_
  rintro ⟨⟨k, acc⟩, hk, hrun, hka, hacc⟩
  simp only at hk hrun hka hacc
  have hw : IntKind.i64.wrap ((k : Int) + 1) = ((k + 1 : Nat) : Int) := Wi (by omega)
  by_cases hlt : k < l.length
  · have hdrop : l.drop k = l.getD k ⟨0, 0, 0, 0⟩ :: l.drop (k + 1) := by
      rw [List.drop_eq_getElem_cons hlt]; simp [List.getD, hlt]
    generalize hx : l.getD k ⟨0, 0, 0, 0⟩ = x at hdrop
    have hx' : l.getD k (Kd.dflt .ins) = x := hx
    rw [hdrop] at hrun
    simp only [Ro] at hrun
    repeat' (first | ((first | (with_reducible first | refine T.regs ?_ | refine T.cond ?_ | refine T.reg ?_ | refine T.ret ?_ | refine T.exit ?_ | refine T.skip ?_) | ((with_reducible first | refine T.dregs ?_ ?_ | refine T.dreg ?_ ?_ | refine T.dregts ?_ ?_ | refine T.dregt ?_ ?_ | refine T.danys ?_ ?_ | refine T.dany ?_ ?_); exact mix) | ((with_reducible first | apply Z9.rd (Uq _) | apply Yc.rd (Uq _)); (focus ((repeat' (first | exact rfl | exact trivial | refine And.intro ?_ ?_ | (simp [SV.bd, Vc.S1.bd, At.bd, Zo, Yx, Ins.cells, Ln.cells]; done))); done))) | ((with_reducible first | apply Z9.rd (L2 _) | apply Yc.rd (L2 _)); (focus ((repeat' (first | exact rfl | exact trivial | refine And.intro ?_ ?_ | (simp [SV.bd, Vc.S1.bd, At.bd, Zo, Yx, Ins.cells, Ln.cells]; done))); done))) | ((with_reducible first | apply Z9.rd (Ny _) | apply Yc.rd (Ny _)); (focus ((repeat' (first | exact rfl | exact trivial | refine And.intro ?_ ?_ | (simp [SV.bd, Vc.S1.bd, At.bd, Zo, Yx, Ins.cells, Ln.cells]; done))); done)))); simp only [Z8, Zx, Zy, Vc.exK, Zl, Zn, Zg, Zh, Zu, Xo, Y5, Zw, Zm, Zi, Zv, Zk, Zj, Xn, Z3, Xm, Vc.ev, Vc.st, Vc.stq, Vc.gst, Xj, St.rd, St.get, St.put, St.find, Ze, St.new, Vc.gdc, Zp, Yw, Yr, Yv, Xk, Zs, Zq, Yl, Yf, Vc.S1.cells, Vc.upd, Vc.del, Zf, Vc.noV, Kd.enc, Kd.dec, Ins.cells, Ln.cells, Yb, Z7, Yo, Z5, Y7, Vc.rvs, Xb, Zd, Xa, Y3, Y6, Y9, Xc, Xd, Ym, Xi, Z4, Zt, Zc, Zr, Y4, Xh, Zo, SV.bd, Vc.S1.bd, At.bd, Value.oneCell', Int.reduceEq, Int.reduceNeg, Int.reduceLE, Int.reduceLT, Vc.lenOf, Yq, Xf, Z1, Vc.atK, Z2, Vc.unK, Vc.wfK, Yk, Yg, Yi, Zz, Z6, Yh, Z0, Yu, Vc.sg, Y2, Y8, Xg, Xe, Ya, Res.own, At.sub, Vc.S1.sub, SV.sub, Res.sub, Xl, Xp, Ys, Yt, Yp, Vc.frS, Kd.sz, Nat.reduceSub, ↓reduceIte, reduceCtorEq, Nat.reduceEqDiff, Nat.reduceAdd, Nat.reduceMul, Nat.reduceLeDiff, Nat.reduceLT, Nat.reduceBEq, Nat.reduceBNe, implies_true, Xq, X1.rs, X1.res, hx', hw, Int.toNat_natCast, Int.ofNat_lt, List.length_append]) | (with_reducible first | refine T.seq ?_ | refine T.block ?_ | assumption | refine And.intro ?_ ?_) | (intro h; first | (exfalso; omega) | exact (tf h ‹_›).elim | exact (tf ‹_› h).elim | skip))
    all_goals first | omega | skip
    all_goals try rw [refword ‹X5 x = 0›]
    all_goals try rw [O5 ‹hasI x.op = true›]
    all_goals try (first | rw [M5 ‹_›] at hrun | rw [M0 ‹_›] at hrun)
    all_goals try simp only [List.length_append, List.length_cons, List.length_nil, Nat.zero_add] at hrun
    all_goals first
      | (rw [if_neg ‹¬ X5 x = 0›] at hrun; rw [← hrun]; done)
      | (rw [if_pos ‹X5 x = 0›, if_pos (by omega)] at hrun; rw [← hrun]; done)
      | (rw [if_pos ‹X5 x = 0›, if_neg (by omega)] at hrun
         first
           | exact ⟨⟨(k + 1, acc ++ [Vj x, x.imm]), hlt, hrun, by simp; omega, by simp; omega⟩, (Ent.mk (fun n => if n = 2 then 8 else n) (by simp [Za, Zb, Vc.bnd, St.get, St.find, Ze, SV.ren, Vc.S1.ren, At.ren, Res.ren, SV.bd, Vc.S1.bd, At.bd, Res.bd, Vc.upd, Vc.del, Kd.enc, Value.oneCell']) (by simp [Za, Zb, Vc.bnd, St.get, St.find, Ze, SV.ren, Vc.S1.ren, At.ren, Res.ren, SV.bd, Vc.S1.bd, At.bd, Res.bd, Vc.upd, Vc.del, Kd.enc, Value.oneCell']) (by simp [Za, Zb, Vc.bnd, St.get, St.find, Ze, SV.ren, Vc.S1.ren, At.ren, Res.ren, SV.bd, Vc.S1.bd, At.bd, Res.bd, Vc.upd, Vc.del, Kd.enc, Value.oneCell']) (by simp [Za, Zb, Vc.bnd, St.get, St.find, Ze, SV.ren, Vc.S1.ren, At.ren, Res.ren, SV.bd, Vc.S1.bd, At.bd, Res.bd, Vc.upd, Vc.del, Kd.enc, Value.oneCell'])), by simp; omega⟩
           | exact ⟨⟨(k + 1, acc ++ [Vj x]), hlt, hrun, by simp; omega, by simp; omega⟩, (Ent.mk (fun n => if n = 2 then 6 else n) (by simp [Za, Zb, Vc.bnd, St.get, St.find, Ze, SV.ren, Vc.S1.ren, At.ren, Res.ren, SV.bd, Vc.S1.bd, At.bd, Res.bd, Vc.upd, Vc.del, Kd.enc, Value.oneCell']) (by simp [Za, Zb, Vc.bnd, St.get, St.find, Ze, SV.ren, Vc.S1.ren, At.ren, Res.ren, SV.bd, Vc.S1.bd, At.bd, Res.bd, Vc.upd, Vc.del, Kd.enc, Value.oneCell']) (by simp [Za, Zb, Vc.bnd, St.get, St.find, Ze, SV.ren, Vc.S1.ren, At.ren, Res.ren, SV.bd, Vc.S1.bd, At.bd, Res.bd, Vc.upd, Vc.del, Kd.enc, Value.oneCell']) (by simp [Za, Zb, Vc.bnd, St.get, St.find, Ze, SV.ren, Vc.S1.ren, At.ren, Res.ren, SV.bd, Vc.S1.bd, At.bd, Res.bd, Vc.upd, Vc.del, Kd.enc, Value.oneCell'])), by simp; omega⟩)
  · have hk2 : k = l.length := by omega
    subst hk2
    rw [List.drop_length] at hrun
    simp only [Ro] at hrun
    repeat' (first | ((first | (with_reducible first | refine T.regs ?_ | refine T.cond ?_ | refine T.reg ?_ | refine T.ret ?_ | refine T.exit ?_ | refine T.skip ?_) | ((with_reducible first | refine T.dregs ?_ ?_ | refine T.dreg ?_ ?_ | refine T.dregts ?_ ?_ | refine T.dregt ?_ ?_ | refine T.danys ?_ ?_ | refine T.dany ?_ ?_); exact mix)); simp only [Z8, Zx, Zy, Vc.exK, Zl, Zn, Zg, Zh, Zu, Xo, Y5, Zw, Zm, Zi, Zv, Zk, Zj, Xn, Z3, Xm, Vc.ev, Vc.st, Vc.stq, Vc.gst, Xj, St.rd, St.get, St.put, St.find, Ze, St.new, Vc.gdc, Zp, Yw, Yr, Yv, Xk, Zs, Zq, Yl, Yf, Vc.S1.cells, Vc.upd, Vc.del, Zf, Vc.noV, Kd.enc, Kd.dec, Ins.cells, Ln.cells, Yb, Z7, Yo, Z5, Y7, Vc.rvs, Xb, Zd, Xa, Y3, Y6, Y9, Xc, Xd, Ym, Xi, Z4, Zt, Zc, Zr, Y4, Xh, Zo, SV.bd, Vc.S1.bd, At.bd, Value.oneCell', Int.reduceEq, Int.reduceNeg, Int.reduceLE, Int.reduceLT, Vc.lenOf, Yq, Xf, Z1, Vc.atK, Z2, Vc.unK, Vc.wfK, Yk, Yg, Yi, Zz, Z6, Yh, Z0, Yu, Vc.sg, Y2, Y8, Xg, Xe, Ya, Res.own, At.sub, Vc.S1.sub, SV.sub, Res.sub, Xl, Xp, Ys, Yt, Yp, Vc.frS, Kd.sz, Nat.reduceSub, ↓reduceIte, reduceCtorEq, Nat.reduceEqDiff, Nat.reduceAdd, Nat.reduceMul, Nat.reduceLeDiff, Nat.reduceLT, Nat.reduceBEq, Nat.reduceBNe, implies_true, Xq, X1.rs, X1.res, hw, Int.toNat_natCast, Int.ofNat_lt]) | (with_reducible first | refine T.seq ?_ | refine T.block ?_ | assumption | refine And.intro ?_ ?_) | (intro h; first | (exfalso; omega) | exact (tf h ‹_›).elim | exact (tf ‹_› h).elim | skip))
    all_goals first | omega | (rw [← hrun]; done)
theorem Kq (x : Ins) : Uw [x] = if X5 x = 0 then (W2 x, 0, 0) else ([], X5 x, 0) := by
  simp only [Uw, Ro, List.nil_append]
  split
  · rw [if_neg]
    unfold W2; split <;> simp
  · rfl
theorem Ju {x : Int} (hwx : V6 x = true) (imm : Int) (hi : hasI (x / 1024) = true → V6 imm = true) :
    okW x = true ↔ (X5 (Ph x imm) = 0 ∧ Vj (Ph x imm) = x) := by
  have hb := P9 hwx
  simp only [okW, hwx, Bool.true_and, Bool.and_eq_true, Bool.or_eq_true, decide_eq_true_eq]
  unfold X5 Vj Ph
  simp only
  have hr : ∀ y : Int, reg (y % 8) = true := fun y => by simp [reg]; omega
  cases hk : Vx (x / 1024) <;> cases hd : T5 (x / 1024) <;> cases hs : T6 (x / 1024) <;> cases hI : hasI (x / 1024) <;> simp_all [hr] <;> omega
end Go.Proofs.Ytibkcfpcfbodaaa
