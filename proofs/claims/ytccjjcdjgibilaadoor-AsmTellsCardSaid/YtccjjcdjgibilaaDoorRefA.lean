/-
  A part of the proofs of this seat's laws: what the reference's Fields, Has, Wrong and Bare compute. It has no conditions of its own.
-/
import Derived.Test.YtccjjcdjgibilaaDoorDecode
namespace Go.Proofs.YtccjjcdjgibilaaDoor
open Go.RowKit Vc
set_option linter.unusedVariables false
set_option linter.unusedSimpArgs false
attribute [local irreducible] T Z1 Wl Ent RdC RwC Ts Yi Wd
def Se : List (List UInt8) := [[46], [100, 115], [100, 105], [100, 115, 105], [100, 115, 105], [100, 115], [100, 115], [100, 115], [100, 115], [100, 115], [100, 115], [100, 115], [100, 115], [100, 115], [100], [100], [100], [100], [100], [105], [105], [105], [105], [105], [105], [105], [105], [46], [115], [100], [115], [100], [105]]
def Vy (op : Int) : List UInt8 := if op < 0 ∨ 33 ≤ op then [] else Se.getD op.toNat []
theorem Sf (n : Int) : RdC Tryd.prog 53 [.v (.a (.int .i64 n))] (.one (.a (.str (Vy n)))) := by
  refine Wi.fn.rd (by simp) (by repeat' (first | exact rfl | exact trivial | refine And.intro ?_ ?_ | (simp [SV.bd, Vc.S1.bd, At.bd, Zo, Yn, Ins.cells, Ln.cells]; done))) (by repeat' (first | exact rfl | exact trivial | refine And.intro ?_ ?_ | (simp [SV.bd, Vc.S1.bd, At.bd, Zo, Yn, Ins.cells, Ln.cells]; done))) fun w => ?_
  have hlen : Se.length = 33 := rfl
  refine T.regs ?_
  simp only [Yd, Zz, Zx, Vc.exK, Zk, Zj, Zg, Zh, Zw, Xq, Y8, Z0, Zm, Zl, Zy, Zn, Zi, Xo, Z7, Xn, Vc.ev, Vc.st, Vc.stq, Vc.gst, Xl, St.rd, St.get, St.put, St.find, Zd, St.new, Vc.gdc, Zp, Yw, Ys, Yu, Xk, Zu, Zq, Ym, Yj, Vc.S1.cells, Vc.upd, Vc.del, Zf, Vc.noV, Kd.enc, Kd.dec, Ins.cells, Ln.cells, Z9, Yc, Yp, Yb, Y5, Vc.rvs, Xf, Ze, Xb, Y2, Y9, Xa, Xc, Xd, Yo, Xi, Z8, Zt, Zc, Zs, Vc.kdL, Xp, Y3, Xj, Zo, SV.bd, Vc.S1.bd, At.bd, Value.oneCell', Int.reduceEq, Int.reduceNeg, Int.reduceLE, Int.reduceLT, Vc.lenOf, Yq, Xh, Z2, Vc.atK, Z5, Vc.unK, Vc.wfK, Yh, Yf, Yg, Zr, Ya, Ye, Zv, Yt, Vc.sg, Y1, Y7, Xe, Xg, Z6, Res.own, At.sub, Vc.S1.sub, SV.sub, Res.sub, Xm, Xr, Yx, Yv, Yr, Vc.frS, Kd.sz, Nat.reduceSub, ↓reduceIte, reduceCtorEq, Nat.reduceEqDiff, Nat.reduceAdd, Nat.reduceMul, Nat.reduceLeDiff, Nat.reduceLT, Nat.reduceBEq, Nat.reduceBNe, implies_true, Xs, Wi.r0]
  refine T.regs ?_
  simp only [Yd, Zz, Zx, Vc.exK, Zk, Zj, Zg, Zh, Zw, Xq, Y8, Z0, Zm, Zl, Zy, Zn, Zi, Xo, Z7, Xn, Vc.ev, Vc.st, Vc.stq, Vc.gst, Xl, St.rd, St.get, St.put, St.find, Zd, St.new, Vc.gdc, Zp, Yw, Ys, Yu, Xk, Zu, Zq, Ym, Yj, Vc.S1.cells, Vc.upd, Vc.del, Zf, Vc.noV, Kd.enc, Kd.dec, Ins.cells, Ln.cells, Z9, Yc, Yp, Yb, Y5, Vc.rvs, Xf, Ze, Xb, Y2, Y9, Xa, Xc, Xd, Yo, Xi, Z8, Zt, Zc, Zs, Vc.kdL, Xp, Y3, Xj, Zo, SV.bd, Vc.S1.bd, At.bd, Value.oneCell', Int.reduceEq, Int.reduceNeg, Int.reduceLE, Int.reduceLT, Vc.lenOf, Yq, Xh, Z2, Vc.atK, Z5, Vc.unK, Vc.wfK, Yh, Yf, Yg, Zr, Ya, Ye, Zv, Yt, Vc.sg, Y1, Y7, Xe, Xg, Z6, Res.own, At.sub, Vc.S1.sub, SV.sub, Res.sub, Xm, Xr, Yx, Yv, Yr, Vc.frS, Kd.sz, Nat.reduceSub, ↓reduceIte, reduceCtorEq, Nat.reduceEqDiff, Nat.reduceAdd, Nat.reduceMul, Nat.reduceLeDiff, Nat.reduceLT, Nat.reduceBEq, Nat.reduceBNe, implies_true, Xs, Wi.r1]
  refine T.weak (Ent.litRow (m := 0) .str Se rfl rfl rfl rfl (by decide)) ?_
  simp only [Yd, Zz, Zx, Vc.exK, Zk, Zj, Zg, Zh, Zw, Xq, Y8, Z0, Zm, Zl, Zy, Zn, Zi, Xo, Z7, Xn, Vc.ev, Vc.st, Vc.stq, Vc.gst, Xl, St.rd, St.get, St.put, St.find, Zd, St.new, Vc.gdc, Zp, Yw, Ys, Yu, Xk, Zu, Zq, Ym, Yj, Vc.S1.cells, Vc.upd, Vc.del, Zf, Vc.noV, Kd.enc, Kd.dec, Ins.cells, Ln.cells, Z9, Yc, Yp, Yb, Y5, Vc.rvs, Xf, Ze, Xb, Y2, Y9, Xa, Xc, Xd, Yo, Xi, Z8, Zt, Zc, Zs, Vc.kdL, Xp, Y3, Xj, Zo, SV.bd, Vc.S1.bd, At.bd, Value.oneCell', Int.reduceEq, Int.reduceNeg, Int.reduceLE, Int.reduceLT, Vc.lenOf, Yq, Xh, Z2, Vc.atK, Z5, Vc.unK, Vc.wfK, Yh, Yf, Yg, Zr, Ya, Ye, Zv, Yt, Vc.sg, Y1, Y7, Xe, Xg, Z6, Res.own, At.sub, Vc.S1.sub, SV.sub, Res.sub, Xm, Xr, Yx, Yv, Yr, Vc.frS, Kd.sz, Nat.reduceSub, ↓reduceIte, reduceCtorEq, Nat.reduceEqDiff, Nat.reduceAdd, Nat.reduceMul, Nat.reduceLeDiff, Nat.reduceLT, Nat.reduceBEq, Nat.reduceBNe, implies_true, Xs]
  repeat' (first | ((first | (with_reducible first | refine T.regs ?_ | refine T.cond ?_ | refine T.reg ?_ | refine T.ret ?_ | refine T.exit ?_ | refine T.skip ?_) | ((with_reducible first | refine T.dregs ?_ ?_ | refine T.dreg ?_ ?_ | refine T.dregts ?_ ?_ | refine T.dregt ?_ ?_ | refine T.danys ?_ ?_ | refine T.dany ?_ ?_); exact mix)); simp only [Yd, Zz, Zx, Vc.exK, Zk, Zj, Zg, Zh, Zw, Xq, Y8, Z0, Zm, Zl, Zy, Zn, Zi, Xo, Z7, Xn, Vc.ev, Vc.st, Vc.stq, Vc.gst, Xl, St.rd, St.get, St.put, St.find, Zd, St.new, Vc.gdc, Zp, Yw, Ys, Yu, Xk, Zu, Zq, Ym, Yj, Vc.S1.cells, Vc.upd, Vc.del, Zf, Vc.noV, Kd.enc, Kd.dec, Ins.cells, Ln.cells, Z9, Yc, Yp, Yb, Y5, Vc.rvs, Xf, Ze, Xb, Y2, Y9, Xa, Xc, Xd, Yo, Xi, Z8, Zt, Zc, Zs, Vc.kdL, Xp, Y3, Xj, Zo, SV.bd, Vc.S1.bd, At.bd, Value.oneCell', Int.reduceEq, Int.reduceNeg, Int.reduceLE, Int.reduceLT, Vc.lenOf, Yq, Xh, Z2, Vc.atK, Z5, Vc.unK, Vc.wfK, Yh, Yf, Yg, Zr, Ya, Ye, Zv, Yt, Vc.sg, Y1, Y7, Xe, Xg, Z6, Res.own, At.sub, Vc.S1.sub, SV.sub, Res.sub, Xm, Xr, Yx, Yv, Yr, Vc.frS, Kd.sz, Nat.reduceSub, ↓reduceIte, reduceCtorEq, Nat.reduceEqDiff, Nat.reduceAdd, Nat.reduceMul, Nat.reduceLeDiff, Nat.reduceLT, Nat.reduceBEq, Nat.reduceBNe, implies_true, Xs, Wi.rs, Wi.res, hlen]) | (with_reducible first | refine T.seq ?_ | refine T.block ?_ | assumption | refine And.intro ?_ ?_) | (intro h; first | (exfalso; omega) | exact (tf h ‹_›).elim | exact (tf ‹_› h).elim | skip))
  all_goals first | omega | skip
  · rw [Vy, if_pos (by omega)]
  · rw [Vy, if_neg (by omega)]; rfl
def P0 (op f : Int) : Bool := (Vy op).any fun c => decide (((c.toNat : Nat) : Int) = f)
theorem M8 (op : Int) : (Vy op).length ≤ 3 := by
  unfold Vy
  split
  · simp
  · have : ∀ k : Nat, (Se.getD k []).length ≤ 3 := by
      intro k
      by_cases hk : k < 33
      · revert k; decide
      · have : Se.getD k [] = [] := by
          have : Se.length ≤ k := by simp [Se]; omega
          simp [List.getD, this]
        rw [this]; simp
    exact this _
theorem Ou (op f : Int) : RdC Tryd.prog 36 [.v (.a (.int .i64 op)), .v (.a (.int .u8 f))] (.one (.a (.bool (P0 op f)))) := by
  refine Wb.fn.rd (by simp) (by repeat' (first | exact rfl | exact trivial | refine And.intro ?_ ?_ | (simp [SV.bd, Vc.S1.bd, At.bd, Zo, Yn, Ins.cells, Ln.cells]; done))) (by repeat' (first | exact rfl | exact trivial | refine And.intro ?_ ?_ | (simp [SV.bd, Vc.S1.bd, At.bd, Zo, Yn, Ins.cells, Ln.cells]; done))) fun w => ?_
  have hl := M8 op
  unfold P0
  generalize hs : Vy op = s at hl ⊢
  repeat' (first | ((first | (with_reducible first | refine T.regs ?_ | refine T.cond ?_ | refine T.reg ?_ | refine T.ret ?_ | refine T.exit ?_ | refine T.skip ?_) | ((with_reducible first | refine T.dregs ?_ ?_ | refine T.dreg ?_ ?_ | refine T.dregts ?_ ?_ | refine T.dregt ?_ ?_ | refine T.danys ?_ ?_ | refine T.dany ?_ ?_); exact mix) | ((with_reducible first | apply Z1.rd (Sf _) | apply Yi.rd (Sf _)); (focus ((repeat' (first | exact rfl | exact trivial | refine And.intro ?_ ?_ | (simp [SV.bd, Vc.S1.bd, At.bd, Zo, Yn, Ins.cells, Ln.cells]; done))); done)))); simp only [Yd, Zz, Zx, Vc.exK, Zk, Zj, Zg, Zh, Zw, Xq, Y8, Z0, Zm, Zl, Zy, Zn, Zi, Xo, Z7, Xn, Vc.ev, Vc.st, Vc.stq, Vc.gst, Xl, St.rd, St.get, St.put, St.find, Zd, St.new, Vc.gdc, Zp, Yw, Ys, Yu, Xk, Zu, Zq, Ym, Yj, Vc.S1.cells, Vc.upd, Vc.del, Zf, Vc.noV, Kd.enc, Kd.dec, Ins.cells, Ln.cells, Z9, Yc, Yp, Yb, Y5, Vc.rvs, Xf, Ze, Xb, Y2, Y9, Xa, Xc, Xd, Yo, Xi, Z8, Zt, Zc, Zs, Vc.kdL, Xp, Y3, Xj, Zo, SV.bd, Vc.S1.bd, At.bd, Value.oneCell', Int.reduceEq, Int.reduceNeg, Int.reduceLE, Int.reduceLT, Vc.lenOf, Yq, Xh, Z2, Vc.atK, Z5, Vc.unK, Vc.wfK, Yh, Yf, Yg, Zr, Ya, Ye, Zv, Yt, Vc.sg, Y1, Y7, Xe, Xg, Z6, Res.own, At.sub, Vc.S1.sub, SV.sub, Res.sub, Xm, Xr, Yx, Yv, Yr, Vc.frS, Kd.sz, Nat.reduceSub, ↓reduceIte, reduceCtorEq, Nat.reduceEqDiff, Nat.reduceAdd, Nat.reduceMul, Nat.reduceLeDiff, Nat.reduceLT, Nat.reduceBEq, Nat.reduceBNe, implies_true, Xs, Wb.rs, Wb.res, hs, List.length_map]) | (with_reducible first | refine T.seq ?_ | refine T.block ?_ | assumption | refine And.intro ?_ ?_) | (intro h; first | (exfalso; omega) | exact (tf h ‹_›).elim | exact (tf ‹_› h).elim | skip))
  refine T.loop (ι := { k : Nat // k ≤ s.length ∧ (s.take k).any (fun c => decide (((c.toNat : Nat) : Int) = f)) = false })
    (fun x => ⟨[(11, .one (.a (.int .i64 (x.1 : Int)))), (10, .one (.a (.int .i64 s.length))), (9, .one (.a (.ref 0))), (4, .one (.a (.bool false))), (1, .one (.a (.int .u8 f)))],
      [(0, .ro (.int .u8) (s.map fun b => ((b.toNat : Nat) : Int)))], 1⟩)
    (fun x => s.length - x.1) ⟨0, by simp, by simp⟩ (Ent.mk (id) (by simp [Za, Zb, Vc.bnd, St.get, St.find, Zd, SV.ren, Vc.S1.ren, At.ren, Res.ren, SV.bd, Vc.S1.bd, At.bd, Res.bd, Vc.upd, Vc.del, Kd.enc, Value.oneCell']) (by simp [Za, Zb, Vc.bnd, St.get, St.find, Zd, SV.ren, Vc.S1.ren, At.ren, Res.ren, SV.bd, Vc.S1.bd, At.bd, Res.bd, Vc.upd, Vc.del, Kd.enc, Value.oneCell']) (by simp [Za, Zb, Vc.bnd, St.get, St.find, Zd, SV.ren, Vc.S1.ren, At.ren, Res.ren, SV.bd, Vc.S1.bd, At.bd, Res.bd, Vc.upd, Vc.del, Kd.enc, Value.oneCell']) (by simp [Za, Zb, Vc.bnd, St.get, St.find, Zd, SV.ren, Vc.S1.ren, At.ren, Res.ren, SV.bd, Vc.S1.bd, At.bd, Res.bd, Vc.upd, Vc.del, Kd.enc, Value.oneCell'])) ?_
  rintro ⟨k, hk, hrun⟩
  simp only
  have hw : IntKind.i64.wrap ((k : Int) + 1) = ((k + 1 : Nat) : Int) := Wy (by omega)
  by_cases hlt : k < s.length
  · have hget : (s.map fun b => ((b.toNat : Nat) : Int)).getD k (Kd.int .u8).dflt = ((s[k].toNat : Nat) : Int) := by
      simp [List.getD, hlt]
    have htake : s.take (k + 1) = s.take k ++ [s[k]] := by rw [List.take_add_one]; simp [hlt]
    repeat' (first | ((first | (with_reducible first | refine T.regs ?_ | refine T.cond ?_ | refine T.reg ?_ | refine T.ret ?_ | refine T.exit ?_ | refine T.skip ?_) | ((with_reducible first | refine T.dregs ?_ ?_ | refine T.dreg ?_ ?_ | refine T.dregts ?_ ?_ | refine T.dregt ?_ ?_ | refine T.danys ?_ ?_ | refine T.dany ?_ ?_); exact mix)); simp only [Yd, Zz, Zx, Vc.exK, Zk, Zj, Zg, Zh, Zw, Xq, Y8, Z0, Zm, Zl, Zy, Zn, Zi, Xo, Z7, Xn, Vc.ev, Vc.st, Vc.stq, Vc.gst, Xl, St.rd, St.get, St.put, St.find, Zd, St.new, Vc.gdc, Zp, Yw, Ys, Yu, Xk, Zu, Zq, Ym, Yj, Vc.S1.cells, Vc.upd, Vc.del, Zf, Vc.noV, Kd.enc, Kd.dec, Ins.cells, Ln.cells, Z9, Yc, Yp, Yb, Y5, Vc.rvs, Xf, Ze, Xb, Y2, Y9, Xa, Xc, Xd, Yo, Xi, Z8, Zt, Zc, Zs, Vc.kdL, Xp, Y3, Xj, Zo, SV.bd, Vc.S1.bd, At.bd, Value.oneCell', Int.reduceEq, Int.reduceNeg, Int.reduceLE, Int.reduceLT, Vc.lenOf, Yq, Xh, Z2, Vc.atK, Z5, Vc.unK, Vc.wfK, Yh, Yf, Yg, Zr, Ya, Ye, Zv, Yt, Vc.sg, Y1, Y7, Xe, Xg, Z6, Res.own, At.sub, Vc.S1.sub, SV.sub, Res.sub, Xm, Xr, Yx, Yv, Yr, Vc.frS, Kd.sz, Nat.reduceSub, ↓reduceIte, reduceCtorEq, Nat.reduceEqDiff, Nat.reduceAdd, Nat.reduceMul, Nat.reduceLeDiff, Nat.reduceLT, Nat.reduceBEq, Nat.reduceBNe, implies_true, Xs, Wb.rs, Wb.res, hw, hget, Int.toNat_natCast, Int.ofNat_lt, List.length_map]) | (with_reducible first | refine T.seq ?_ | refine T.block ?_ | assumption | refine And.intro ?_ ?_) | (intro h; first | (exfalso; omega) | exact (tf h ‹_›).elim | exact (tf ‹_› h).elim | skip))
    all_goals first | omega | skip
    · have : (s.any fun c => decide (((c.toNat : Nat) : Int) = f)) = true := List.any_eq_true.2 ⟨s[k], List.getElem_mem hlt, by simpa using ‹((s[k].toNat : Nat) : Int) = f›⟩
      rw [this]
    · exact ⟨⟨k + 1, hlt, by rw [htake, List.any_append, hrun]; simpa using ‹¬((s[k].toNat : Nat) : Int) = f›⟩, (Ent.mk (id) (by simp [Za, Zb, Vc.bnd, St.get, St.find, Zd, SV.ren, Vc.S1.ren, At.ren, Res.ren, SV.bd, Vc.S1.bd, At.bd, Res.bd, Vc.upd, Vc.del, Kd.enc, Value.oneCell']) (by simp [Za, Zb, Vc.bnd, St.get, St.find, Zd, SV.ren, Vc.S1.ren, At.ren, Res.ren, SV.bd, Vc.S1.bd, At.bd, Res.bd, Vc.upd, Vc.del, Kd.enc, Value.oneCell']) (by simp [Za, Zb, Vc.bnd, St.get, St.find, Zd, SV.ren, Vc.S1.ren, At.ren, Res.ren, SV.bd, Vc.S1.bd, At.bd, Res.bd, Vc.upd, Vc.del, Kd.enc, Value.oneCell']) (by simp [Za, Zb, Vc.bnd, St.get, St.find, Zd, SV.ren, Vc.S1.ren, At.ren, Res.ren, SV.bd, Vc.S1.bd, At.bd, Res.bd, Vc.upd, Vc.del, Kd.enc, Value.oneCell'])), by simp only; omega⟩
  · have hk2 : k = s.length := by omega
    rw [hk2, List.take_length] at hrun
    repeat' (first | ((first | (with_reducible first | refine T.regs ?_ | refine T.cond ?_ | refine T.reg ?_ | refine T.ret ?_ | refine T.exit ?_ | refine T.skip ?_) | ((with_reducible first | refine T.dregs ?_ ?_ | refine T.dreg ?_ ?_ | refine T.dregts ?_ ?_ | refine T.dregt ?_ ?_ | refine T.danys ?_ ?_ | refine T.dany ?_ ?_); exact mix)); simp only [Yd, Zz, Zx, Vc.exK, Zk, Zj, Zg, Zh, Zw, Xq, Y8, Z0, Zm, Zl, Zy, Zn, Zi, Xo, Z7, Xn, Vc.ev, Vc.st, Vc.stq, Vc.gst, Xl, St.rd, St.get, St.put, St.find, Zd, St.new, Vc.gdc, Zp, Yw, Ys, Yu, Xk, Zu, Zq, Ym, Yj, Vc.S1.cells, Vc.upd, Vc.del, Zf, Vc.noV, Kd.enc, Kd.dec, Ins.cells, Ln.cells, Z9, Yc, Yp, Yb, Y5, Vc.rvs, Xf, Ze, Xb, Y2, Y9, Xa, Xc, Xd, Yo, Xi, Z8, Zt, Zc, Zs, Vc.kdL, Xp, Y3, Xj, Zo, SV.bd, Vc.S1.bd, At.bd, Value.oneCell', Int.reduceEq, Int.reduceNeg, Int.reduceLE, Int.reduceLT, Vc.lenOf, Yq, Xh, Z2, Vc.atK, Z5, Vc.unK, Vc.wfK, Yh, Yf, Yg, Zr, Ya, Ye, Zv, Yt, Vc.sg, Y1, Y7, Xe, Xg, Z6, Res.own, At.sub, Vc.S1.sub, SV.sub, Res.sub, Xm, Xr, Yx, Yv, Yr, Vc.frS, Kd.sz, Nat.reduceSub, ↓reduceIte, reduceCtorEq, Nat.reduceEqDiff, Nat.reduceAdd, Nat.reduceMul, Nat.reduceLeDiff, Nat.reduceLT, Nat.reduceBEq, Nat.reduceBNe, implies_true, Xs, Wb.rs, Wb.res, hw, hrun, Int.toNat_natCast, Int.ofNat_lt]) | (with_reducible first | refine T.seq ?_ | refine T.block ?_ | assumption | refine And.intro ?_ ?_) | (intro h; first | (exfalso; omega) | exact (tf h ‹_›).elim | exact (tf ‹_› h).elim | skip))
    all_goals first | omega | skip
theorem Lf (P : Int → Prop) (h1 : ∀ k : Nat, k < 33 → P k) (h2 : ∀ n : Int, n < 0 ∨ 33 ≤ n → P n) (n : Int) : P n := by
  by_cases h : n < 0 ∨ 33 ≤ n
  · exact h2 n h
  · obtain ⟨k, rfl⟩ := Int.eq_ofNat_of_zero_le (show 0 ≤ n by omega)
    exact h1 k (by omega)
theorem hasF_d (n : Int) : P0 n 100 = Ug n := by
  refine Lf (fun n => P0 n 100 = Ug n) (by decide +kernel) (fun n h => ?_) n
  simp only [P0, Vy, if_pos h, List.any_nil, Ug]
  symm; simp only [decide_eq_false_iff_not]; omega
theorem hasF_s (n : Int) : P0 n 115 = Uf n := by
  refine Lf (fun n => P0 n 115 = Uf n) (by decide +kernel) (fun n h => ?_) n
  simp only [P0, Vy, if_pos h, List.any_nil, Uf]
  symm; simp only [decide_eq_false_iff_not]; omega
theorem hasF_i (n : Int) : P0 n 105 = hasI n := by
  refine Lf (fun n => P0 n 105 = hasI n) (by decide +kernel) (fun n h => ?_) n
  simp only [P0, Vy, if_pos h, List.any_nil, hasI]
  symm; simp only [decide_eq_false_iff_not]; omega
theorem Ng (n : Int) : decide (Vy n = []) = !Wz n := by
  refine Lf (fun n => decide (Vy n = []) = !Wz n) (by decide +kernel) (fun n h => ?_) n
  simp only [Vy, if_pos h, Wz]
  simp; omega
theorem L4 (n : Int) : RdC Tryd.prog 36 [.v (.a (.int .i64 n)), .v (.a (.int .u8 100))] (.one (.a (.bool (Ug n)))) := hasF_d n ▸ Ou n 100
theorem Km (n : Int) : RdC Tryd.prog 36 [.v (.a (.int .i64 n)), .v (.a (.int .u8 115))] (.one (.a (.bool (Uf n)))) := hasF_s n ▸ Ou n 115
theorem Qf (n : Int) : RdC Tryd.prog 36 [.v (.a (.int .i64 n)), .v (.a (.int .u8 105))] (.one (.a (.bool (hasI n)))) := hasF_i n ▸ Ou n 105
set_option maxHeartbeats 1000000 in
theorem Ub (x : Ins) : RdC Tryd.prog 25 [.v (.agg x.cells)] (.one (.a (.int .i64 (X2 x)))) := by
  refine W6.fn.rd (by simp) (by simp [Yn, S1.bd, At.bd, Ins.cells]) (by repeat' (first | exact rfl | exact trivial | refine And.intro ?_ ?_ | (simp [SV.bd, Vc.S1.bd, At.bd, Zo, Yn, Ins.cells, Ln.cells]; done))) fun w => ?_
  have hk := Ng x.op
  repeat' (first | ((first | (with_reducible first | refine T.regs ?_ | refine T.cond ?_ | refine T.reg ?_ | refine T.ret ?_ | refine T.exit ?_ | refine T.skip ?_) | ((with_reducible first | refine T.dregs ?_ ?_ | refine T.dreg ?_ ?_ | refine T.dregts ?_ ?_ | refine T.dregt ?_ ?_ | refine T.danys ?_ ?_ | refine T.dany ?_ ?_); exact mix) | ((with_reducible first | apply Z1.rd (Sf _) | apply Yi.rd (Sf _)); (focus ((repeat' (first | exact rfl | exact trivial | refine And.intro ?_ ?_ | (simp [SV.bd, Vc.S1.bd, At.bd, Zo, Yn, Ins.cells, Ln.cells]; done))); done))) | ((with_reducible first | apply Z1.rd (L4 _) | apply Yi.rd (L4 _)); (focus ((repeat' (first | exact rfl | exact trivial | refine And.intro ?_ ?_ | (simp [SV.bd, Vc.S1.bd, At.bd, Zo, Yn, Ins.cells, Ln.cells]; done))); done))) | ((with_reducible first | apply Z1.rd (Km _) | apply Yi.rd (Km _)); (focus ((repeat' (first | exact rfl | exact trivial | refine And.intro ?_ ?_ | (simp [SV.bd, Vc.S1.bd, At.bd, Zo, Yn, Ins.cells, Ln.cells]; done))); done))) | ((with_reducible first | apply Z1.rd (Qf _) | apply Yi.rd (Qf _)); (focus ((repeat' (first | exact rfl | exact trivial | refine And.intro ?_ ?_ | (simp [SV.bd, Vc.S1.bd, At.bd, Zo, Yn, Ins.cells, Ln.cells]; done))); done)))); simp only [Yd, Zz, Zx, Vc.exK, Zk, Zj, Zg, Zh, Zw, Xq, Y8, Z0, Zm, Zl, Zy, Zn, Zi, Xo, Z7, Xn, Vc.ev, Vc.st, Vc.stq, Vc.gst, Xl, St.rd, St.get, St.put, St.find, Zd, St.new, Vc.gdc, Zp, Yw, Ys, Yu, Xk, Zu, Zq, Ym, Yj, Vc.S1.cells, Vc.upd, Vc.del, Zf, Vc.noV, Kd.enc, Kd.dec, Ins.cells, Ln.cells, Z9, Yc, Yp, Yb, Y5, Vc.rvs, Xf, Ze, Xb, Y2, Y9, Xa, Xc, Xd, Yo, Xi, Z8, Zt, Zc, Zs, Vc.kdL, Xp, Y3, Xj, Zo, SV.bd, Vc.S1.bd, At.bd, Value.oneCell', Int.reduceEq, Int.reduceNeg, Int.reduceLE, Int.reduceLT, Vc.lenOf, Yq, Xh, Z2, Vc.atK, Z5, Vc.unK, Vc.wfK, Yh, Yf, Yg, Zr, Ya, Ye, Zv, Yt, Vc.sg, Y1, Y7, Xe, Xg, Z6, Res.own, At.sub, Vc.S1.sub, SV.sub, Res.sub, Xm, Xr, Yx, Yv, Yr, Vc.frS, Kd.sz, Nat.reduceSub, ↓reduceIte, reduceCtorEq, Nat.reduceEqDiff, Nat.reduceAdd, Nat.reduceMul, Nat.reduceLeDiff, Nat.reduceLT, Nat.reduceBEq, Nat.reduceBNe, implies_true, Xs, W6.rs, W6.res]) | (with_reducible first | refine T.seq ?_ | refine T.block ?_ | assumption | refine And.intro ?_ ?_) | (intro h; first | (exfalso; omega) | exact (tf h ‹_›).elim | exact (tf ‹_› h).elim | skip))
  · have : Wz x.op = false := by simpa [‹Vy x.op = []›] using hk
    simp [X2, this]
  all_goals
    have hk2 : Wz x.op = true := by simpa [‹¬Vy x.op = []›] using hk
    cases hd : Ug x.op <;> cases hs : Uf x.op <;> cases hi : hasI x.op <;> simp [hd, hs, hi] at h <;> simp [X2, hk2, hd, hs, hi, reg, Vn] <;> omega
def Ww (x : Ins) : Ins := ⟨x.op, if Ug x.op then x.d else 0, if Uf x.op then x.s else 0, if hasI x.op then x.imm else 0⟩
theorem Mg (x : Ins) : RdC Tryd.prog 22 [.v (.agg x.cells)] (.one (.agg (Ww x).cells)) := by
  refine Vb.fn.rd (by simp) (by simp [Yn, S1.bd, At.bd, Ins.cells]) (by simp [SV.bd, Vc.S1.bd, At.bd, Ins.cells]) fun w => ?_
  repeat' (first | ((first | (with_reducible first | refine T.regs ?_ | refine T.cond ?_ | refine T.reg ?_ | refine T.ret ?_ | refine T.exit ?_ | refine T.skip ?_) | ((with_reducible first | refine T.dregs ?_ ?_ | refine T.dreg ?_ ?_ | refine T.dregts ?_ ?_ | refine T.dregt ?_ ?_ | refine T.danys ?_ ?_ | refine T.dany ?_ ?_); exact mix) | ((with_reducible first | apply Z1.rd (L4 _) | apply Yi.rd (L4 _)); (focus ((repeat' (first | exact rfl | exact trivial | refine And.intro ?_ ?_ | (simp [SV.bd, Vc.S1.bd, At.bd, Zo, Yn, Ins.cells, Ln.cells]; done))); done))) | ((with_reducible first | apply Z1.rd (Km _) | apply Yi.rd (Km _)); (focus ((repeat' (first | exact rfl | exact trivial | refine And.intro ?_ ?_ | (simp [SV.bd, Vc.S1.bd, At.bd, Zo, Yn, Ins.cells, Ln.cells]; done))); done))) | ((with_reducible first | apply Z1.rd (Qf _) | apply Yi.rd (Qf _)); (focus ((repeat' (first | exact rfl | exact trivial | refine And.intro ?_ ?_ | (simp [SV.bd, Vc.S1.bd, At.bd, Zo, Yn, Ins.cells, Ln.cells]; done))); done)))); simp only [Yd, Zz, Zx, Vc.exK, Zk, Zj, Zg, Zh, Zw, Xq, Y8, Z0, Zm, Zl, Zy, Zn, Zi, Xo, Z7, Xn, Vc.ev, Vc.st, Vc.stq, Vc.gst, Xl, St.rd, St.get, St.put, St.find, Zd, St.new, Vc.gdc, Zp, Yw, Ys, Yu, Xk, Zu, Zq, Ym, Yj, Vc.S1.cells, Vc.upd, Vc.del, Zf, Vc.noV, Kd.enc, Kd.dec, Ins.cells, Ln.cells, Z9, Yc, Yp, Yb, Y5, Vc.rvs, Xf, Ze, Xb, Y2, Y9, Xa, Xc, Xd, Yo, Xi, Z8, Zt, Zc, Zs, Vc.kdL, Xp, Y3, Xj, Zo, SV.bd, Vc.S1.bd, At.bd, Value.oneCell', Int.reduceEq, Int.reduceNeg, Int.reduceLE, Int.reduceLT, Vc.lenOf, Yq, Xh, Z2, Vc.atK, Z5, Vc.unK, Vc.wfK, Yh, Yf, Yg, Zr, Ya, Ye, Zv, Yt, Vc.sg, Y1, Y7, Xe, Xg, Z6, Res.own, At.sub, Vc.S1.sub, SV.sub, Res.sub, Xm, Xr, Yx, Yv, Yr, Vc.frS, Kd.sz, Nat.reduceSub, ↓reduceIte, reduceCtorEq, Nat.reduceEqDiff, Nat.reduceAdd, Nat.reduceMul, Nat.reduceLeDiff, Nat.reduceLT, Nat.reduceBEq, Nat.reduceBNe, implies_true, Xs, Vb.rs, Vb.res]) | (with_reducible first | refine T.seq ?_ | refine T.block ?_ | assumption | refine And.intro ?_ ?_) | (intro h; first | (exfalso; omega) | exact (tf h ‹_›).elim | exact (tf ‹_› h).elim | skip))
  all_goals simp_all [Ww]
end Go.Proofs.YtccjjcdjgibilaaDoor
