/-
  A part of the proofs of this seat's laws: what the reference's Fields, Has, Wrong and Bare compute. It has no conditions of its own.
-/
import Derived.Test.YtccjjcdjgibilaaGreatDoorInstr
namespace Go.Proofs.YtccjjcdjgibilaaGreatDoor
open Go.RowKit Vc
set_option linter.unusedVariables false
set_option linter.unusedSimpArgs false
attribute [local irreducible] T Zq Wa Ent RdC RwC V2 Yl Xt
def T3 : List (List UInt8) := [[46], [100, 115], [100, 105], [100, 115, 105], [100, 115, 105], [100, 115], [100, 115], [100, 115], [100, 115], [100, 115], [100, 115], [100, 115], [100, 115], [100, 115], [100], [100], [100], [100], [100], [105], [105], [105], [105], [105], [105], [105], [105], [46], [115], [100], [115], [100], [105]]
def Vv (op : Int) : List UInt8 := if op < 0 ∨ 33 ≤ op then [] else T3.getD op.toNat []
theorem P8 (n : Int) : RdC Tryz.prog 61 [.v (.a (.int .i64 n))] (.one (.a (.str (Vv n)))) := by
  refine Wn.fn.rd (by simp) (by repeat' (first | exact rfl | exact trivial | refine And.intro ?_ ?_ | (simp [SV.bd, Vc.S1.bd, At.bd, Z7, Xu, Ins.cells, Ln.cells]; done))) (by repeat' (first | exact rfl | exact trivial | refine And.intro ?_ ?_ | (simp [SV.bd, Vc.S1.bd, At.bd, Z7, Xu, Ins.cells, Ln.cells]; done))) fun w => ?_
  have hlen : T3.length = 33 := rfl
  refine T.regs ?_
  simp only [Yg, Z3, Z6, Vc.exK, Zk, Zn, Zh, Zi, Z2, Xq, Y7, Z4, Zj, Zl, Z5, Zm, Zo, Xo, Yb, Xn, Vc.ev, Vc.st, Vc.stq, Vc.gst, Xk, St.rd, St.get, St.put, St.find, Zb, St.new, Vc.gdc, Zv, Yv, Yw, Yu, Xl, Z0, Zy, Yn, Yi, Vc.S1.cells, Vc.upd, Vc.del, Zg, Vc.noV, Kd.enc, Kd.dec, Ins.cells, Ln.cells, Zs, Yd, Yq, Ye, Y4, Vc.rvs, Xe, Zf, Xb, Y2, Y6, Xa, Xg, Xf, Yo, Xi, Ya, Z1, Zd, Zz, Vc.kdL, Xr, Y3, Xj, Z7, SV.bd, Vc.S1.bd, At.bd, Value.oneCell', Int.reduceEq, Int.reduceNeg, Int.reduceLE, Int.reduceLT, Vc.lenOf, Yp, Xh, Z8, Vc.atK, Z9, Vc.unK, Vc.wfK, Zx, Zu, Zw, Zc, Yf, Zt, Ze, Yt, Vc.sg, Y1, Y8, Xd, Xc, Zr, Res.own, At.sub, Vc.S1.sub, SV.sub, Res.sub, Xm, Xp, Ys, Yx, Yr, Vc.frS, Kd.sz, Nat.reduceSub, ↓reduceIte, reduceCtorEq, Nat.reduceEqDiff, Nat.reduceAdd, Nat.reduceMul, Nat.reduceLeDiff, Nat.reduceLT, Nat.reduceBEq, Nat.reduceBNe, implies_true, Xs, Wn.r0]
  refine T.regs ?_
  simp only [Yg, Z3, Z6, Vc.exK, Zk, Zn, Zh, Zi, Z2, Xq, Y7, Z4, Zj, Zl, Z5, Zm, Zo, Xo, Yb, Xn, Vc.ev, Vc.st, Vc.stq, Vc.gst, Xk, St.rd, St.get, St.put, St.find, Zb, St.new, Vc.gdc, Zv, Yv, Yw, Yu, Xl, Z0, Zy, Yn, Yi, Vc.S1.cells, Vc.upd, Vc.del, Zg, Vc.noV, Kd.enc, Kd.dec, Ins.cells, Ln.cells, Zs, Yd, Yq, Ye, Y4, Vc.rvs, Xe, Zf, Xb, Y2, Y6, Xa, Xg, Xf, Yo, Xi, Ya, Z1, Zd, Zz, Vc.kdL, Xr, Y3, Xj, Z7, SV.bd, Vc.S1.bd, At.bd, Value.oneCell', Int.reduceEq, Int.reduceNeg, Int.reduceLE, Int.reduceLT, Vc.lenOf, Yp, Xh, Z8, Vc.atK, Z9, Vc.unK, Vc.wfK, Zx, Zu, Zw, Zc, Yf, Zt, Ze, Yt, Vc.sg, Y1, Y8, Xd, Xc, Zr, Res.own, At.sub, Vc.S1.sub, SV.sub, Res.sub, Xm, Xp, Ys, Yx, Yr, Vc.frS, Kd.sz, Nat.reduceSub, ↓reduceIte, reduceCtorEq, Nat.reduceEqDiff, Nat.reduceAdd, Nat.reduceMul, Nat.reduceLeDiff, Nat.reduceLT, Nat.reduceBEq, Nat.reduceBNe, implies_true, Xs, Wn.r1]
  refine T.weak (Ent.litRow (m := 0) .str T3 rfl rfl rfl rfl (by decide)) ?_
  simp only [Yg, Z3, Z6, Vc.exK, Zk, Zn, Zh, Zi, Z2, Xq, Y7, Z4, Zj, Zl, Z5, Zm, Zo, Xo, Yb, Xn, Vc.ev, Vc.st, Vc.stq, Vc.gst, Xk, St.rd, St.get, St.put, St.find, Zb, St.new, Vc.gdc, Zv, Yv, Yw, Yu, Xl, Z0, Zy, Yn, Yi, Vc.S1.cells, Vc.upd, Vc.del, Zg, Vc.noV, Kd.enc, Kd.dec, Ins.cells, Ln.cells, Zs, Yd, Yq, Ye, Y4, Vc.rvs, Xe, Zf, Xb, Y2, Y6, Xa, Xg, Xf, Yo, Xi, Ya, Z1, Zd, Zz, Vc.kdL, Xr, Y3, Xj, Z7, SV.bd, Vc.S1.bd, At.bd, Value.oneCell', Int.reduceEq, Int.reduceNeg, Int.reduceLE, Int.reduceLT, Vc.lenOf, Yp, Xh, Z8, Vc.atK, Z9, Vc.unK, Vc.wfK, Zx, Zu, Zw, Zc, Yf, Zt, Ze, Yt, Vc.sg, Y1, Y8, Xd, Xc, Zr, Res.own, At.sub, Vc.S1.sub, SV.sub, Res.sub, Xm, Xp, Ys, Yx, Yr, Vc.frS, Kd.sz, Nat.reduceSub, ↓reduceIte, reduceCtorEq, Nat.reduceEqDiff, Nat.reduceAdd, Nat.reduceMul, Nat.reduceLeDiff, Nat.reduceLT, Nat.reduceBEq, Nat.reduceBNe, implies_true, Xs]
  repeat' (first | ((first | (with_reducible first | refine T.regs ?_ | refine T.cond ?_ | refine T.reg ?_ | refine T.ret ?_ | refine T.exit ?_ | refine T.skip ?_) | ((with_reducible first | refine T.dregs ?_ ?_ | refine T.dreg ?_ ?_ | refine T.dregts ?_ ?_ | refine T.dregt ?_ ?_ | refine T.danys ?_ ?_ | refine T.dany ?_ ?_); exact mix)); simp only [Yg, Z3, Z6, Vc.exK, Zk, Zn, Zh, Zi, Z2, Xq, Y7, Z4, Zj, Zl, Z5, Zm, Zo, Xo, Yb, Xn, Vc.ev, Vc.st, Vc.stq, Vc.gst, Xk, St.rd, St.get, St.put, St.find, Zb, St.new, Vc.gdc, Zv, Yv, Yw, Yu, Xl, Z0, Zy, Yn, Yi, Vc.S1.cells, Vc.upd, Vc.del, Zg, Vc.noV, Kd.enc, Kd.dec, Ins.cells, Ln.cells, Zs, Yd, Yq, Ye, Y4, Vc.rvs, Xe, Zf, Xb, Y2, Y6, Xa, Xg, Xf, Yo, Xi, Ya, Z1, Zd, Zz, Vc.kdL, Xr, Y3, Xj, Z7, SV.bd, Vc.S1.bd, At.bd, Value.oneCell', Int.reduceEq, Int.reduceNeg, Int.reduceLE, Int.reduceLT, Vc.lenOf, Yp, Xh, Z8, Vc.atK, Z9, Vc.unK, Vc.wfK, Zx, Zu, Zw, Zc, Yf, Zt, Ze, Yt, Vc.sg, Y1, Y8, Xd, Xc, Zr, Res.own, At.sub, Vc.S1.sub, SV.sub, Res.sub, Xm, Xp, Ys, Yx, Yr, Vc.frS, Kd.sz, Nat.reduceSub, ↓reduceIte, reduceCtorEq, Nat.reduceEqDiff, Nat.reduceAdd, Nat.reduceMul, Nat.reduceLeDiff, Nat.reduceLT, Nat.reduceBEq, Nat.reduceBNe, implies_true, Xs, Wn.rs, Wn.res, hlen]) | (with_reducible first | refine T.seq ?_ | refine T.block ?_ | assumption | refine And.intro ?_ ?_) | (intro h; first | (exfalso; omega) | exact (tf h ‹_›).elim | exact (tf ‹_› h).elim | skip))
  all_goals first | omega | skip
  · rw [Vv, if_pos (by omega)]
  · rw [Vv, if_neg (by omega)]; rfl
def P0 (op f : Int) : Bool := (Vv op).any fun c => decide (((c.toNat : Nat) : Int) = f)
theorem L6 (op : Int) : (Vv op).length ≤ 3 := by
  unfold Vv
  split
  · simp
  · have : ∀ k : Nat, (T3.getD k []).length ≤ 3 := by
      intro k
      by_cases hk : k < 33
      · revert k; decide
      · have : T3.getD k [] = [] := by
          have : T3.length ≤ k := by simp [T3]; omega
          simp [List.getD, this]
        rw [this]; simp
    exact this _
theorem N2 (op f : Int) : RdC Tryz.prog 40 [.v (.a (.int .i64 op)), .v (.a (.int .u8 f))] (.one (.a (.bool (P0 op f)))) := by
  refine Wj.fn.rd (by simp) (by repeat' (first | exact rfl | exact trivial | refine And.intro ?_ ?_ | (simp [SV.bd, Vc.S1.bd, At.bd, Z7, Xu, Ins.cells, Ln.cells]; done))) (by repeat' (first | exact rfl | exact trivial | refine And.intro ?_ ?_ | (simp [SV.bd, Vc.S1.bd, At.bd, Z7, Xu, Ins.cells, Ln.cells]; done))) fun w => ?_
  have hl := L6 op
  unfold P0
  generalize hs : Vv op = s at hl ⊢
  repeat' (first | ((first | (with_reducible first | refine T.regs ?_ | refine T.cond ?_ | refine T.reg ?_ | refine T.ret ?_ | refine T.exit ?_ | refine T.skip ?_) | ((with_reducible first | refine T.dregs ?_ ?_ | refine T.dreg ?_ ?_ | refine T.dregts ?_ ?_ | refine T.dregt ?_ ?_ | refine T.danys ?_ ?_ | refine T.dany ?_ ?_); exact mix) | ((with_reducible first | apply Zq.rd (P8 _) | apply Yl.rd (P8 _)); (focus ((repeat' (first | exact rfl | exact trivial | refine And.intro ?_ ?_ | (simp [SV.bd, Vc.S1.bd, At.bd, Z7, Xu, Ins.cells, Ln.cells]; done))); done)))); simp only [Yg, Z3, Z6, Vc.exK, Zk, Zn, Zh, Zi, Z2, Xq, Y7, Z4, Zj, Zl, Z5, Zm, Zo, Xo, Yb, Xn, Vc.ev, Vc.st, Vc.stq, Vc.gst, Xk, St.rd, St.get, St.put, St.find, Zb, St.new, Vc.gdc, Zv, Yv, Yw, Yu, Xl, Z0, Zy, Yn, Yi, Vc.S1.cells, Vc.upd, Vc.del, Zg, Vc.noV, Kd.enc, Kd.dec, Ins.cells, Ln.cells, Zs, Yd, Yq, Ye, Y4, Vc.rvs, Xe, Zf, Xb, Y2, Y6, Xa, Xg, Xf, Yo, Xi, Ya, Z1, Zd, Zz, Vc.kdL, Xr, Y3, Xj, Z7, SV.bd, Vc.S1.bd, At.bd, Value.oneCell', Int.reduceEq, Int.reduceNeg, Int.reduceLE, Int.reduceLT, Vc.lenOf, Yp, Xh, Z8, Vc.atK, Z9, Vc.unK, Vc.wfK, Zx, Zu, Zw, Zc, Yf, Zt, Ze, Yt, Vc.sg, Y1, Y8, Xd, Xc, Zr, Res.own, At.sub, Vc.S1.sub, SV.sub, Res.sub, Xm, Xp, Ys, Yx, Yr, Vc.frS, Kd.sz, Nat.reduceSub, ↓reduceIte, reduceCtorEq, Nat.reduceEqDiff, Nat.reduceAdd, Nat.reduceMul, Nat.reduceLeDiff, Nat.reduceLT, Nat.reduceBEq, Nat.reduceBNe, implies_true, Xs, Wj.rs, Wj.res, hs, List.length_map]) | (with_reducible first | refine T.seq ?_ | refine T.block ?_ | assumption | refine And.intro ?_ ?_) | (intro h; first | (exfalso; omega) | exact (tf h ‹_›).elim | exact (tf ‹_› h).elim | skip))
  refine T.loop (ι := { k : Nat // k ≤ s.length ∧ (s.take k).any (fun c => decide (((c.toNat : Nat) : Int) = f)) = false })
    (fun x => ⟨[(11, .one (.a (.int .i64 (x.1 : Int)))), (10, .one (.a (.int .i64 s.length))), (9, .one (.a (.ref 0))), (4, .one (.a (.bool false))), (1, .one (.a (.int .u8 f)))],
      [(0, .ro (.int .u8) (s.map fun b => ((b.toNat : Nat) : Int)))], 1⟩)
    (fun x => s.length - x.1) ⟨0, by simp, by simp⟩ (Ent.mk (id) (by simp [Za, Zp, Vc.bnd, St.get, St.find, Zb, SV.ren, Vc.S1.ren, At.ren, Res.ren, SV.bd, Vc.S1.bd, At.bd, Res.bd, Vc.upd, Vc.del, Kd.enc, Value.oneCell']) (by simp [Za, Zp, Vc.bnd, St.get, St.find, Zb, SV.ren, Vc.S1.ren, At.ren, Res.ren, SV.bd, Vc.S1.bd, At.bd, Res.bd, Vc.upd, Vc.del, Kd.enc, Value.oneCell']) (by simp [Za, Zp, Vc.bnd, St.get, St.find, Zb, SV.ren, Vc.S1.ren, At.ren, Res.ren, SV.bd, Vc.S1.bd, At.bd, Res.bd, Vc.upd, Vc.del, Kd.enc, Value.oneCell']) (by simp [Za, Zp, Vc.bnd, St.get, St.find, Zb, SV.ren, Vc.S1.ren, At.ren, Res.ren, SV.bd, Vc.S1.bd, At.bd, Res.bd, Vc.upd, Vc.del, Kd.enc, Value.oneCell'])) ?_
  rintro ⟨k, hk, hrun⟩
  simp only
  have hw : IntKind.i64.wrap ((k : Int) + 1) = ((k + 1 : Nat) : Int) := Va (by omega)
  by_cases hlt : k < s.length
  · have hget : (s.map fun b => ((b.toNat : Nat) : Int)).getD k (Kd.int .u8).dflt = ((s[k].toNat : Nat) : Int) := by
      simp [List.getD, hlt]
    have htake : s.take (k + 1) = s.take k ++ [s[k]] := by rw [List.take_add_one]; simp [hlt]
    repeat' (first | ((first | (with_reducible first | refine T.regs ?_ | refine T.cond ?_ | refine T.reg ?_ | refine T.ret ?_ | refine T.exit ?_ | refine T.skip ?_) | ((with_reducible first | refine T.dregs ?_ ?_ | refine T.dreg ?_ ?_ | refine T.dregts ?_ ?_ | refine T.dregt ?_ ?_ | refine T.danys ?_ ?_ | refine T.dany ?_ ?_); exact mix)); simp only [Yg, Z3, Z6, Vc.exK, Zk, Zn, Zh, Zi, Z2, Xq, Y7, Z4, Zj, Zl, Z5, Zm, Zo, Xo, Yb, Xn, Vc.ev, Vc.st, Vc.stq, Vc.gst, Xk, St.rd, St.get, St.put, St.find, Zb, St.new, Vc.gdc, Zv, Yv, Yw, Yu, Xl, Z0, Zy, Yn, Yi, Vc.S1.cells, Vc.upd, Vc.del, Zg, Vc.noV, Kd.enc, Kd.dec, Ins.cells, Ln.cells, Zs, Yd, Yq, Ye, Y4, Vc.rvs, Xe, Zf, Xb, Y2, Y6, Xa, Xg, Xf, Yo, Xi, Ya, Z1, Zd, Zz, Vc.kdL, Xr, Y3, Xj, Z7, SV.bd, Vc.S1.bd, At.bd, Value.oneCell', Int.reduceEq, Int.reduceNeg, Int.reduceLE, Int.reduceLT, Vc.lenOf, Yp, Xh, Z8, Vc.atK, Z9, Vc.unK, Vc.wfK, Zx, Zu, Zw, Zc, Yf, Zt, Ze, Yt, Vc.sg, Y1, Y8, Xd, Xc, Zr, Res.own, At.sub, Vc.S1.sub, SV.sub, Res.sub, Xm, Xp, Ys, Yx, Yr, Vc.frS, Kd.sz, Nat.reduceSub, ↓reduceIte, reduceCtorEq, Nat.reduceEqDiff, Nat.reduceAdd, Nat.reduceMul, Nat.reduceLeDiff, Nat.reduceLT, Nat.reduceBEq, Nat.reduceBNe, implies_true, Xs, Wj.rs, Wj.res, hw, hget, Int.toNat_natCast, Int.ofNat_lt, List.length_map]) | (with_reducible first | refine T.seq ?_ | refine T.block ?_ | assumption | refine And.intro ?_ ?_) | (intro h; first | (exfalso; omega) | exact (tf h ‹_›).elim | exact (tf ‹_› h).elim | skip))
    all_goals first | omega | skip
    · have : (s.any fun c => decide (((c.toNat : Nat) : Int) = f)) = true := List.any_eq_true.2 ⟨s[k], List.getElem_mem hlt, by simpa using ‹((s[k].toNat : Nat) : Int) = f›⟩
      rw [this]
    · exact ⟨⟨k + 1, hlt, by rw [htake, List.any_append, hrun]; simpa using ‹¬((s[k].toNat : Nat) : Int) = f›⟩, (Ent.mk (id) (by simp [Za, Zp, Vc.bnd, St.get, St.find, Zb, SV.ren, Vc.S1.ren, At.ren, Res.ren, SV.bd, Vc.S1.bd, At.bd, Res.bd, Vc.upd, Vc.del, Kd.enc, Value.oneCell']) (by simp [Za, Zp, Vc.bnd, St.get, St.find, Zb, SV.ren, Vc.S1.ren, At.ren, Res.ren, SV.bd, Vc.S1.bd, At.bd, Res.bd, Vc.upd, Vc.del, Kd.enc, Value.oneCell']) (by simp [Za, Zp, Vc.bnd, St.get, St.find, Zb, SV.ren, Vc.S1.ren, At.ren, Res.ren, SV.bd, Vc.S1.bd, At.bd, Res.bd, Vc.upd, Vc.del, Kd.enc, Value.oneCell']) (by simp [Za, Zp, Vc.bnd, St.get, St.find, Zb, SV.ren, Vc.S1.ren, At.ren, Res.ren, SV.bd, Vc.S1.bd, At.bd, Res.bd, Vc.upd, Vc.del, Kd.enc, Value.oneCell'])), by simp only; omega⟩
  · have hk2 : k = s.length := by omega
    rw [hk2, List.take_length] at hrun
    repeat' (first | ((first | (with_reducible first | refine T.regs ?_ | refine T.cond ?_ | refine T.reg ?_ | refine T.ret ?_ | refine T.exit ?_ | refine T.skip ?_) | ((with_reducible first | refine T.dregs ?_ ?_ | refine T.dreg ?_ ?_ | refine T.dregts ?_ ?_ | refine T.dregt ?_ ?_ | refine T.danys ?_ ?_ | refine T.dany ?_ ?_); exact mix)); simp only [Yg, Z3, Z6, Vc.exK, Zk, Zn, Zh, Zi, Z2, Xq, Y7, Z4, Zj, Zl, Z5, Zm, Zo, Xo, Yb, Xn, Vc.ev, Vc.st, Vc.stq, Vc.gst, Xk, St.rd, St.get, St.put, St.find, Zb, St.new, Vc.gdc, Zv, Yv, Yw, Yu, Xl, Z0, Zy, Yn, Yi, Vc.S1.cells, Vc.upd, Vc.del, Zg, Vc.noV, Kd.enc, Kd.dec, Ins.cells, Ln.cells, Zs, Yd, Yq, Ye, Y4, Vc.rvs, Xe, Zf, Xb, Y2, Y6, Xa, Xg, Xf, Yo, Xi, Ya, Z1, Zd, Zz, Vc.kdL, Xr, Y3, Xj, Z7, SV.bd, Vc.S1.bd, At.bd, Value.oneCell', Int.reduceEq, Int.reduceNeg, Int.reduceLE, Int.reduceLT, Vc.lenOf, Yp, Xh, Z8, Vc.atK, Z9, Vc.unK, Vc.wfK, Zx, Zu, Zw, Zc, Yf, Zt, Ze, Yt, Vc.sg, Y1, Y8, Xd, Xc, Zr, Res.own, At.sub, Vc.S1.sub, SV.sub, Res.sub, Xm, Xp, Ys, Yx, Yr, Vc.frS, Kd.sz, Nat.reduceSub, ↓reduceIte, reduceCtorEq, Nat.reduceEqDiff, Nat.reduceAdd, Nat.reduceMul, Nat.reduceLeDiff, Nat.reduceLT, Nat.reduceBEq, Nat.reduceBNe, implies_true, Xs, Wj.rs, Wj.res, hw, hrun, Int.toNat_natCast, Int.ofNat_lt]) | (with_reducible first | refine T.seq ?_ | refine T.block ?_ | assumption | refine And.intro ?_ ?_) | (intro h; first | (exfalso; omega) | exact (tf h ‹_›).elim | exact (tf ‹_› h).elim | skip))
    all_goals first | omega | skip
theorem Jf (P : Int → Prop) (h1 : ∀ k : Nat, k < 33 → P k) (h2 : ∀ n : Int, n < 0 ∨ 33 ≤ n → P n) (n : Int) : P n := by
  by_cases h : n < 0 ∨ 33 ≤ n
  · exact h2 n h
  · obtain ⟨k, rfl⟩ := Int.eq_ofNat_of_zero_le (show 0 ≤ n by omega)
    exact h1 k (by omega)
theorem hasF_d (n : Int) : P0 n 100 = Uh n := by
  refine Jf (fun n => P0 n 100 = Uh n) (by decide +kernel) (fun n h => ?_) n
  simp only [P0, Vv, if_pos h, List.any_nil, Uh]
  symm; simp only [decide_eq_false_iff_not]; omega
theorem hasF_s (n : Int) : P0 n 115 = Ue n := by
  refine Jf (fun n => P0 n 115 = Ue n) (by decide +kernel) (fun n h => ?_) n
  simp only [P0, Vv, if_pos h, List.any_nil, Ue]
  symm; simp only [decide_eq_false_iff_not]; omega
theorem hasF_i (n : Int) : P0 n 105 = W7 n := by
  refine Jf (fun n => P0 n 105 = W7 n) (by decide +kernel) (fun n h => ?_) n
  simp only [P0, Vv, if_pos h, List.any_nil, W7]
  symm; simp only [decide_eq_false_iff_not]; omega
theorem fields_known (n : Int) : decide (Vv n = []) = !Wy n := by
  refine Jf (fun n => decide (Vv n = []) = !Wy n) (by decide +kernel) (fun n h => ?_) n
  simp only [Vv, if_pos h, Wy]
  simp; omega
theorem HasD (n : Int) : RdC Tryz.prog 40 [.v (.a (.int .i64 n)), .v (.a (.int .u8 100))] (.one (.a (.bool (Uh n)))) := hasF_d n ▸ N2 n 100
theorem HasS (n : Int) : RdC Tryz.prog 40 [.v (.a (.int .i64 n)), .v (.a (.int .u8 115))] (.one (.a (.bool (Ue n)))) := hasF_s n ▸ N2 n 115
theorem HasI (n : Int) : RdC Tryz.prog 40 [.v (.a (.int .i64 n)), .v (.a (.int .u8 105))] (.one (.a (.bool (W7 n)))) := hasF_i n ▸ N2 n 105
def Q1 (x : Ins) : Ins := ⟨x.op, if Uh x.op then x.d else 0, if Ue x.op then x.s else 0, if W7 x.op then x.imm else 0⟩
theorem Hj (x : Ins) : RdC Tryz.prog 21 [.v (.agg x.cells)] (.one (.agg (Q1 x).cells)) := by
  refine W3.fn.rd (by simp) (by simp [Xu, S1.bd, At.bd, Ins.cells]) (by simp [SV.bd, Vc.S1.bd, At.bd, Ins.cells]) fun w => ?_
  repeat' (first | ((first | (with_reducible first | refine T.regs ?_ | refine T.cond ?_ | refine T.reg ?_ | refine T.ret ?_ | refine T.exit ?_ | refine T.skip ?_) | ((with_reducible first | refine T.dregs ?_ ?_ | refine T.dreg ?_ ?_ | refine T.dregts ?_ ?_ | refine T.dregt ?_ ?_ | refine T.danys ?_ ?_ | refine T.dany ?_ ?_); exact mix) | ((with_reducible first | apply Zq.rd (HasD _) | apply Yl.rd (HasD _)); (focus ((repeat' (first | exact rfl | exact trivial | refine And.intro ?_ ?_ | (simp [SV.bd, Vc.S1.bd, At.bd, Z7, Xu, Ins.cells, Ln.cells]; done))); done))) | ((with_reducible first | apply Zq.rd (HasS _) | apply Yl.rd (HasS _)); (focus ((repeat' (first | exact rfl | exact trivial | refine And.intro ?_ ?_ | (simp [SV.bd, Vc.S1.bd, At.bd, Z7, Xu, Ins.cells, Ln.cells]; done))); done))) | ((with_reducible first | apply Zq.rd (HasI _) | apply Yl.rd (HasI _)); (focus ((repeat' (first | exact rfl | exact trivial | refine And.intro ?_ ?_ | (simp [SV.bd, Vc.S1.bd, At.bd, Z7, Xu, Ins.cells, Ln.cells]; done))); done)))); simp only [Yg, Z3, Z6, Vc.exK, Zk, Zn, Zh, Zi, Z2, Xq, Y7, Z4, Zj, Zl, Z5, Zm, Zo, Xo, Yb, Xn, Vc.ev, Vc.st, Vc.stq, Vc.gst, Xk, St.rd, St.get, St.put, St.find, Zb, St.new, Vc.gdc, Zv, Yv, Yw, Yu, Xl, Z0, Zy, Yn, Yi, Vc.S1.cells, Vc.upd, Vc.del, Zg, Vc.noV, Kd.enc, Kd.dec, Ins.cells, Ln.cells, Zs, Yd, Yq, Ye, Y4, Vc.rvs, Xe, Zf, Xb, Y2, Y6, Xa, Xg, Xf, Yo, Xi, Ya, Z1, Zd, Zz, Vc.kdL, Xr, Y3, Xj, Z7, SV.bd, Vc.S1.bd, At.bd, Value.oneCell', Int.reduceEq, Int.reduceNeg, Int.reduceLE, Int.reduceLT, Vc.lenOf, Yp, Xh, Z8, Vc.atK, Z9, Vc.unK, Vc.wfK, Zx, Zu, Zw, Zc, Yf, Zt, Ze, Yt, Vc.sg, Y1, Y8, Xd, Xc, Zr, Res.own, At.sub, Vc.S1.sub, SV.sub, Res.sub, Xm, Xp, Ys, Yx, Yr, Vc.frS, Kd.sz, Nat.reduceSub, ↓reduceIte, reduceCtorEq, Nat.reduceEqDiff, Nat.reduceAdd, Nat.reduceMul, Nat.reduceLeDiff, Nat.reduceLT, Nat.reduceBEq, Nat.reduceBNe, implies_true, Xs, W3.rs, W3.res]) | (with_reducible first | refine T.seq ?_ | refine T.block ?_ | assumption | refine And.intro ?_ ?_) | (intro h; first | (exfalso; omega) | exact (tf h ‹_›).elim | exact (tf ‹_› h).elim | skip))
  all_goals simp_all [Q1]
end Go.Proofs.YtccjjcdjgibilaaGreatDoor
