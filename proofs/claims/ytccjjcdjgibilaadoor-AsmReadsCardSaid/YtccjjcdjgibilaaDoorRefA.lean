/-
  A part of the proofs of this seat's laws: what the reference's Fields, Has, Wrong and Bare compute. It has no conditions of its own.
-/
import Derived.Test.YtccjjcdjgibilaaDoorInstr
namespace Go.Proofs.YtccjjcdjgibilaaDoor
open Go.RowKit Vc
set_option linter.unusedVariables false
set_option linter.unusedSimpArgs false
attribute [local irreducible] T Z2 Wn Ent RdC RwC Ut Z3 Y7
def Tf : List (List UInt8) := [[46], [100, 115], [100, 105], [100, 115, 105], [100, 115, 105], [100, 115], [100, 115], [100, 115], [100, 115], [100, 115], [100, 115], [100, 115], [100, 115], [100, 115], [100], [100], [100], [100], [100], [105], [105], [105], [105], [105], [105], [105], [105], [46], [115], [100], [115], [100], [105]]
def Va (op : Int) : List UInt8 := if op < 0 ∨ 33 ≤ op then [] else Tf.getD op.toNat []
theorem Tn (n : Int) : RdC Tryd.prog 53 [.v (.a (.int .i64 n))] (.one (.a (.str (Va n)))) := by
  refine Wk.fn.rd (by simp) (by repeat' (first | exact rfl | exact trivial | refine And.intro ?_ ?_ | (simp [SV.bd, Vc.S1.bd, At.bd, Zr, Y0, Ins.cells, Ln.cells]; done))) (by repeat' (first | exact rfl | exact trivial | refine And.intro ?_ ?_ | (simp [SV.bd, Vc.S1.bd, At.bd, Zr, Y0, Ins.cells, Ln.cells]; done))) fun w => ?_
  have hlen : Tf.length = 33 := rfl
  refine T.regs ?_
  simp only [Yh, Zz, Zy, Vc.exK, Zn, Zk, Zg, Zh, Zx, Xr, Y8, Z0, Zl, Zi, Z1, Zm, Zj, Xn, Yc, Xo, Vc.ev, Vc.st, Vc.stq, Vc.gst, Xl, St.rd, St.get, St.put, St.find, Zf, St.new, Vc.gdc, Zs, Yp, Yt, Yu, Xk, Zw, Zt, Yk, Yi, Vc.S1.cells, Vc.upd, Vc.del, Zd, Vc.noV, Kd.enc, Kd.dec, Ins.cells, Ln.cells, Z5, Yf, Yo, Ye, Y4, Vc.rvs, Xf, Ze, Y9, Y2, Y5, Xa, Xc, Xe, Yl, Xi, Yd, Zv, Zc, Zu, Vc.kdL, Xq, Y3, Xj, Zr, SV.bd, Vc.S1.bd, At.bd, Value.oneCell', Int.reduceEq, Int.reduceNeg, Int.reduceLE, Int.reduceLT, Vc.lenOf, Ym, Xg, Z8, Vc.atK, Ya, Vc.unK, Vc.wfK, Yb, Z7, Z9, Zp, Yg, Z6, Zq, Yr, Vc.sg, Y1, Y6, Xb, Xd, Z4, Res.own, At.sub, Vc.S1.sub, SV.sub, Res.sub, Xm, Xp, Ys, Yq, Yn, Vc.frS, Kd.sz, Nat.reduceSub, ↓reduceIte, reduceCtorEq, Nat.reduceEqDiff, Nat.reduceAdd, Nat.reduceMul, Nat.reduceLeDiff, Nat.reduceLT, Nat.reduceBEq, Nat.reduceBNe, implies_true, Xs, Wk.r0]
  refine T.regs ?_
  simp only [Yh, Zz, Zy, Vc.exK, Zn, Zk, Zg, Zh, Zx, Xr, Y8, Z0, Zl, Zi, Z1, Zm, Zj, Xn, Yc, Xo, Vc.ev, Vc.st, Vc.stq, Vc.gst, Xl, St.rd, St.get, St.put, St.find, Zf, St.new, Vc.gdc, Zs, Yp, Yt, Yu, Xk, Zw, Zt, Yk, Yi, Vc.S1.cells, Vc.upd, Vc.del, Zd, Vc.noV, Kd.enc, Kd.dec, Ins.cells, Ln.cells, Z5, Yf, Yo, Ye, Y4, Vc.rvs, Xf, Ze, Y9, Y2, Y5, Xa, Xc, Xe, Yl, Xi, Yd, Zv, Zc, Zu, Vc.kdL, Xq, Y3, Xj, Zr, SV.bd, Vc.S1.bd, At.bd, Value.oneCell', Int.reduceEq, Int.reduceNeg, Int.reduceLE, Int.reduceLT, Vc.lenOf, Ym, Xg, Z8, Vc.atK, Ya, Vc.unK, Vc.wfK, Yb, Z7, Z9, Zp, Yg, Z6, Zq, Yr, Vc.sg, Y1, Y6, Xb, Xd, Z4, Res.own, At.sub, Vc.S1.sub, SV.sub, Res.sub, Xm, Xp, Ys, Yq, Yn, Vc.frS, Kd.sz, Nat.reduceSub, ↓reduceIte, reduceCtorEq, Nat.reduceEqDiff, Nat.reduceAdd, Nat.reduceMul, Nat.reduceLeDiff, Nat.reduceLT, Nat.reduceBEq, Nat.reduceBNe, implies_true, Xs, Wk.r1]
  refine T.weak (Ent.litRow (m := 0) .str Tf rfl rfl rfl rfl (by decide)) ?_
  simp only [Yh, Zz, Zy, Vc.exK, Zn, Zk, Zg, Zh, Zx, Xr, Y8, Z0, Zl, Zi, Z1, Zm, Zj, Xn, Yc, Xo, Vc.ev, Vc.st, Vc.stq, Vc.gst, Xl, St.rd, St.get, St.put, St.find, Zf, St.new, Vc.gdc, Zs, Yp, Yt, Yu, Xk, Zw, Zt, Yk, Yi, Vc.S1.cells, Vc.upd, Vc.del, Zd, Vc.noV, Kd.enc, Kd.dec, Ins.cells, Ln.cells, Z5, Yf, Yo, Ye, Y4, Vc.rvs, Xf, Ze, Y9, Y2, Y5, Xa, Xc, Xe, Yl, Xi, Yd, Zv, Zc, Zu, Vc.kdL, Xq, Y3, Xj, Zr, SV.bd, Vc.S1.bd, At.bd, Value.oneCell', Int.reduceEq, Int.reduceNeg, Int.reduceLE, Int.reduceLT, Vc.lenOf, Ym, Xg, Z8, Vc.atK, Ya, Vc.unK, Vc.wfK, Yb, Z7, Z9, Zp, Yg, Z6, Zq, Yr, Vc.sg, Y1, Y6, Xb, Xd, Z4, Res.own, At.sub, Vc.S1.sub, SV.sub, Res.sub, Xm, Xp, Ys, Yq, Yn, Vc.frS, Kd.sz, Nat.reduceSub, ↓reduceIte, reduceCtorEq, Nat.reduceEqDiff, Nat.reduceAdd, Nat.reduceMul, Nat.reduceLeDiff, Nat.reduceLT, Nat.reduceBEq, Nat.reduceBNe, implies_true, Xs]
  repeat' (first | ((first | (with_reducible first | refine T.regs ?_ | refine T.cond ?_ | refine T.reg ?_ | refine T.ret ?_ | refine T.exit ?_ | refine T.skip ?_) | ((with_reducible first | refine T.dregs ?_ ?_ | refine T.dreg ?_ ?_ | refine T.dregts ?_ ?_ | refine T.dregt ?_ ?_ | refine T.danys ?_ ?_ | refine T.dany ?_ ?_); exact mix)); simp only [Yh, Zz, Zy, Vc.exK, Zn, Zk, Zg, Zh, Zx, Xr, Y8, Z0, Zl, Zi, Z1, Zm, Zj, Xn, Yc, Xo, Vc.ev, Vc.st, Vc.stq, Vc.gst, Xl, St.rd, St.get, St.put, St.find, Zf, St.new, Vc.gdc, Zs, Yp, Yt, Yu, Xk, Zw, Zt, Yk, Yi, Vc.S1.cells, Vc.upd, Vc.del, Zd, Vc.noV, Kd.enc, Kd.dec, Ins.cells, Ln.cells, Z5, Yf, Yo, Ye, Y4, Vc.rvs, Xf, Ze, Y9, Y2, Y5, Xa, Xc, Xe, Yl, Xi, Yd, Zv, Zc, Zu, Vc.kdL, Xq, Y3, Xj, Zr, SV.bd, Vc.S1.bd, At.bd, Value.oneCell', Int.reduceEq, Int.reduceNeg, Int.reduceLE, Int.reduceLT, Vc.lenOf, Ym, Xg, Z8, Vc.atK, Ya, Vc.unK, Vc.wfK, Yb, Z7, Z9, Zp, Yg, Z6, Zq, Yr, Vc.sg, Y1, Y6, Xb, Xd, Z4, Res.own, At.sub, Vc.S1.sub, SV.sub, Res.sub, Xm, Xp, Ys, Yq, Yn, Vc.frS, Kd.sz, Nat.reduceSub, ↓reduceIte, reduceCtorEq, Nat.reduceEqDiff, Nat.reduceAdd, Nat.reduceMul, Nat.reduceLeDiff, Nat.reduceLT, Nat.reduceBEq, Nat.reduceBNe, implies_true, Xs, Wk.rs, Wk.res, hlen]) | (with_reducible first | refine T.seq ?_ | refine T.block ?_ | assumption | refine And.intro ?_ ?_) | (intro h; first | (exfalso; omega) | exact (tf h ‹_›).elim | exact (tf ‹_› h).elim | skip))
  all_goals first | omega | skip
  · rw [Va, if_pos (by omega)]
  · rw [Va, if_neg (by omega)]; rfl
def Qg (op f : Int) : Bool := (Va op).any fun c => decide (((c.toNat : Nat) : Int) = f)
theorem Mf (op : Int) : (Va op).length ≤ 3 := by
  unfold Va
  split
  · simp
  · have : ∀ k : Nat, (Tf.getD k []).length ≤ 3 := by
      intro k
      by_cases hk : k < 33
      · revert k; decide
      · have : Tf.getD k [] = [] := by
          have : Tf.length ≤ k := by simp [Tf]; omega
          simp [List.getD, this]
        rw [this]; simp
    exact this _
theorem Ol (op f : Int) : RdC Tryd.prog 36 [.v (.a (.int .i64 op)), .v (.a (.int .u8 f))] (.one (.a (.bool (Qg op f)))) := by
  refine X9.fn.rd (by simp) (by repeat' (first | exact rfl | exact trivial | refine And.intro ?_ ?_ | (simp [SV.bd, Vc.S1.bd, At.bd, Zr, Y0, Ins.cells, Ln.cells]; done))) (by repeat' (first | exact rfl | exact trivial | refine And.intro ?_ ?_ | (simp [SV.bd, Vc.S1.bd, At.bd, Zr, Y0, Ins.cells, Ln.cells]; done))) fun w => ?_
  have hl := Mf op
  unfold Qg
  generalize hs : Va op = s at hl ⊢
  repeat' (first | ((first | (with_reducible first | refine T.regs ?_ | refine T.cond ?_ | refine T.reg ?_ | refine T.ret ?_ | refine T.exit ?_ | refine T.skip ?_) | ((with_reducible first | refine T.dregs ?_ ?_ | refine T.dreg ?_ ?_ | refine T.dregts ?_ ?_ | refine T.dregt ?_ ?_ | refine T.danys ?_ ?_ | refine T.dany ?_ ?_); exact mix) | ((with_reducible first | apply Z2.rd (Tn _) | apply Z3.rd (Tn _)); (focus ((repeat' (first | exact rfl | exact trivial | refine And.intro ?_ ?_ | (simp [SV.bd, Vc.S1.bd, At.bd, Zr, Y0, Ins.cells, Ln.cells]; done))); done)))); simp only [Yh, Zz, Zy, Vc.exK, Zn, Zk, Zg, Zh, Zx, Xr, Y8, Z0, Zl, Zi, Z1, Zm, Zj, Xn, Yc, Xo, Vc.ev, Vc.st, Vc.stq, Vc.gst, Xl, St.rd, St.get, St.put, St.find, Zf, St.new, Vc.gdc, Zs, Yp, Yt, Yu, Xk, Zw, Zt, Yk, Yi, Vc.S1.cells, Vc.upd, Vc.del, Zd, Vc.noV, Kd.enc, Kd.dec, Ins.cells, Ln.cells, Z5, Yf, Yo, Ye, Y4, Vc.rvs, Xf, Ze, Y9, Y2, Y5, Xa, Xc, Xe, Yl, Xi, Yd, Zv, Zc, Zu, Vc.kdL, Xq, Y3, Xj, Zr, SV.bd, Vc.S1.bd, At.bd, Value.oneCell', Int.reduceEq, Int.reduceNeg, Int.reduceLE, Int.reduceLT, Vc.lenOf, Ym, Xg, Z8, Vc.atK, Ya, Vc.unK, Vc.wfK, Yb, Z7, Z9, Zp, Yg, Z6, Zq, Yr, Vc.sg, Y1, Y6, Xb, Xd, Z4, Res.own, At.sub, Vc.S1.sub, SV.sub, Res.sub, Xm, Xp, Ys, Yq, Yn, Vc.frS, Kd.sz, Nat.reduceSub, ↓reduceIte, reduceCtorEq, Nat.reduceEqDiff, Nat.reduceAdd, Nat.reduceMul, Nat.reduceLeDiff, Nat.reduceLT, Nat.reduceBEq, Nat.reduceBNe, implies_true, Xs, X9.rs, X9.res, hs, List.length_map]) | (with_reducible first | refine T.seq ?_ | refine T.block ?_ | assumption | refine And.intro ?_ ?_) | (intro h; first | (exfalso; omega) | exact (tf h ‹_›).elim | exact (tf ‹_› h).elim | skip))
  refine T.loop (ι := { k : Nat // k ≤ s.length ∧ (s.take k).any (fun c => decide (((c.toNat : Nat) : Int) = f)) = false })
    (fun x => ⟨[(11, .one (.a (.int .i64 (x.1 : Int)))), (10, .one (.a (.int .i64 s.length))), (9, .one (.a (.ref 0))), (4, .one (.a (.bool false))), (1, .one (.a (.int .u8 f)))],
      [(0, .ro (.int .u8) (s.map fun b => ((b.toNat : Nat) : Int)))], 1⟩)
    (fun x => s.length - x.1) ⟨0, by simp, by simp⟩ (Ent.mk (id) (by simp [Za, Zo, Vc.bnd, St.get, St.find, Zf, SV.ren, Vc.S1.ren, At.ren, Res.ren, SV.bd, Vc.S1.bd, At.bd, Res.bd, Vc.upd, Vc.del, Kd.enc, Value.oneCell']) (by simp [Za, Zo, Vc.bnd, St.get, St.find, Zf, SV.ren, Vc.S1.ren, At.ren, Res.ren, SV.bd, Vc.S1.bd, At.bd, Res.bd, Vc.upd, Vc.del, Kd.enc, Value.oneCell']) (by simp [Za, Zo, Vc.bnd, St.get, St.find, Zf, SV.ren, Vc.S1.ren, At.ren, Res.ren, SV.bd, Vc.S1.bd, At.bd, Res.bd, Vc.upd, Vc.del, Kd.enc, Value.oneCell']) (by simp [Za, Zo, Vc.bnd, St.get, St.find, Zf, SV.ren, Vc.S1.ren, At.ren, Res.ren, SV.bd, Vc.S1.bd, At.bd, Res.bd, Vc.upd, Vc.del, Kd.enc, Value.oneCell'])) ?_
  rintro ⟨k, hk, hrun⟩
  simp only
  have hw : IntKind.i64.wrap ((k : Int) + 1) = ((k + 1 : Nat) : Int) := Wt (by omega)
  by_cases hlt : k < s.length
  · have hget : (s.map fun b => ((b.toNat : Nat) : Int)).getD k (Kd.int .u8).dflt = ((s[k].toNat : Nat) : Int) := by
      simp [List.getD, hlt]
    have htake : s.take (k + 1) = s.take k ++ [s[k]] := by rw [List.take_add_one]; simp [hlt]
    repeat' (first | ((first | (with_reducible first | refine T.regs ?_ | refine T.cond ?_ | refine T.reg ?_ | refine T.ret ?_ | refine T.exit ?_ | refine T.skip ?_) | ((with_reducible first | refine T.dregs ?_ ?_ | refine T.dreg ?_ ?_ | refine T.dregts ?_ ?_ | refine T.dregt ?_ ?_ | refine T.danys ?_ ?_ | refine T.dany ?_ ?_); exact mix)); simp only [Yh, Zz, Zy, Vc.exK, Zn, Zk, Zg, Zh, Zx, Xr, Y8, Z0, Zl, Zi, Z1, Zm, Zj, Xn, Yc, Xo, Vc.ev, Vc.st, Vc.stq, Vc.gst, Xl, St.rd, St.get, St.put, St.find, Zf, St.new, Vc.gdc, Zs, Yp, Yt, Yu, Xk, Zw, Zt, Yk, Yi, Vc.S1.cells, Vc.upd, Vc.del, Zd, Vc.noV, Kd.enc, Kd.dec, Ins.cells, Ln.cells, Z5, Yf, Yo, Ye, Y4, Vc.rvs, Xf, Ze, Y9, Y2, Y5, Xa, Xc, Xe, Yl, Xi, Yd, Zv, Zc, Zu, Vc.kdL, Xq, Y3, Xj, Zr, SV.bd, Vc.S1.bd, At.bd, Value.oneCell', Int.reduceEq, Int.reduceNeg, Int.reduceLE, Int.reduceLT, Vc.lenOf, Ym, Xg, Z8, Vc.atK, Ya, Vc.unK, Vc.wfK, Yb, Z7, Z9, Zp, Yg, Z6, Zq, Yr, Vc.sg, Y1, Y6, Xb, Xd, Z4, Res.own, At.sub, Vc.S1.sub, SV.sub, Res.sub, Xm, Xp, Ys, Yq, Yn, Vc.frS, Kd.sz, Nat.reduceSub, ↓reduceIte, reduceCtorEq, Nat.reduceEqDiff, Nat.reduceAdd, Nat.reduceMul, Nat.reduceLeDiff, Nat.reduceLT, Nat.reduceBEq, Nat.reduceBNe, implies_true, Xs, X9.rs, X9.res, hw, hget, Int.toNat_natCast, Int.ofNat_lt, List.length_map]) | (with_reducible first | refine T.seq ?_ | refine T.block ?_ | assumption | refine And.intro ?_ ?_) | (intro h; first | (exfalso; omega) | exact (tf h ‹_›).elim | exact (tf ‹_› h).elim | skip))
    all_goals first | omega | skip
    · have : (s.any fun c => decide (((c.toNat : Nat) : Int) = f)) = true := List.any_eq_true.2 ⟨s[k], List.getElem_mem hlt, by simpa using ‹((s[k].toNat : Nat) : Int) = f›⟩
      rw [this]
    · exact ⟨⟨k + 1, hlt, by rw [htake, List.any_append, hrun]; simpa using ‹¬((s[k].toNat : Nat) : Int) = f›⟩, (Ent.mk (id) (by simp [Za, Zo, Vc.bnd, St.get, St.find, Zf, SV.ren, Vc.S1.ren, At.ren, Res.ren, SV.bd, Vc.S1.bd, At.bd, Res.bd, Vc.upd, Vc.del, Kd.enc, Value.oneCell']) (by simp [Za, Zo, Vc.bnd, St.get, St.find, Zf, SV.ren, Vc.S1.ren, At.ren, Res.ren, SV.bd, Vc.S1.bd, At.bd, Res.bd, Vc.upd, Vc.del, Kd.enc, Value.oneCell']) (by simp [Za, Zo, Vc.bnd, St.get, St.find, Zf, SV.ren, Vc.S1.ren, At.ren, Res.ren, SV.bd, Vc.S1.bd, At.bd, Res.bd, Vc.upd, Vc.del, Kd.enc, Value.oneCell']) (by simp [Za, Zo, Vc.bnd, St.get, St.find, Zf, SV.ren, Vc.S1.ren, At.ren, Res.ren, SV.bd, Vc.S1.bd, At.bd, Res.bd, Vc.upd, Vc.del, Kd.enc, Value.oneCell'])), by simp only; omega⟩
  · have hk2 : k = s.length := by omega
    rw [hk2, List.take_length] at hrun
    repeat' (first | ((first | (with_reducible first | refine T.regs ?_ | refine T.cond ?_ | refine T.reg ?_ | refine T.ret ?_ | refine T.exit ?_ | refine T.skip ?_) | ((with_reducible first | refine T.dregs ?_ ?_ | refine T.dreg ?_ ?_ | refine T.dregts ?_ ?_ | refine T.dregt ?_ ?_ | refine T.danys ?_ ?_ | refine T.dany ?_ ?_); exact mix)); simp only [Yh, Zz, Zy, Vc.exK, Zn, Zk, Zg, Zh, Zx, Xr, Y8, Z0, Zl, Zi, Z1, Zm, Zj, Xn, Yc, Xo, Vc.ev, Vc.st, Vc.stq, Vc.gst, Xl, St.rd, St.get, St.put, St.find, Zf, St.new, Vc.gdc, Zs, Yp, Yt, Yu, Xk, Zw, Zt, Yk, Yi, Vc.S1.cells, Vc.upd, Vc.del, Zd, Vc.noV, Kd.enc, Kd.dec, Ins.cells, Ln.cells, Z5, Yf, Yo, Ye, Y4, Vc.rvs, Xf, Ze, Y9, Y2, Y5, Xa, Xc, Xe, Yl, Xi, Yd, Zv, Zc, Zu, Vc.kdL, Xq, Y3, Xj, Zr, SV.bd, Vc.S1.bd, At.bd, Value.oneCell', Int.reduceEq, Int.reduceNeg, Int.reduceLE, Int.reduceLT, Vc.lenOf, Ym, Xg, Z8, Vc.atK, Ya, Vc.unK, Vc.wfK, Yb, Z7, Z9, Zp, Yg, Z6, Zq, Yr, Vc.sg, Y1, Y6, Xb, Xd, Z4, Res.own, At.sub, Vc.S1.sub, SV.sub, Res.sub, Xm, Xp, Ys, Yq, Yn, Vc.frS, Kd.sz, Nat.reduceSub, ↓reduceIte, reduceCtorEq, Nat.reduceEqDiff, Nat.reduceAdd, Nat.reduceMul, Nat.reduceLeDiff, Nat.reduceLT, Nat.reduceBEq, Nat.reduceBNe, implies_true, Xs, X9.rs, X9.res, hw, hrun, Int.toNat_natCast, Int.ofNat_lt]) | (with_reducible first | refine T.seq ?_ | refine T.block ?_ | assumption | refine And.intro ?_ ?_) | (intro h; first | (exfalso; omega) | exact (tf h ‹_›).elim | exact (tf ‹_› h).elim | skip))
    all_goals first | omega | skip
theorem Mn (P : Int → Prop) (h1 : ∀ k : Nat, k < 33 → P k) (h2 : ∀ n : Int, n < 0 ∨ 33 ≤ n → P n) (n : Int) : P n := by
  by_cases h : n < 0 ∨ 33 ≤ n
  · exact h2 n h
  · obtain ⟨k, rfl⟩ := Int.eq_ofNat_of_zero_le (show 0 ≤ n by omega)
    exact h1 k (by omega)
theorem hasF_d (n : Int) : Qg n 100 = Ti n := by
  refine Mn (fun n => Qg n 100 = Ti n) (by decide +kernel) (fun n h => ?_) n
  simp only [Qg, Va, if_pos h, List.any_nil, Ti]
  symm; simp only [decide_eq_false_iff_not]; omega
theorem hasF_s (n : Int) : Qg n 115 = Te n := by
  refine Mn (fun n => Qg n 115 = Te n) (by decide +kernel) (fun n h => ?_) n
  simp only [Qg, Va, if_pos h, List.any_nil, Te]
  symm; simp only [decide_eq_false_iff_not]; omega
theorem hasF_i (n : Int) : Qg n 105 = V0 n := by
  refine Mn (fun n => Qg n 105 = V0 n) (by decide +kernel) (fun n h => ?_) n
  simp only [Qg, Va, if_pos h, List.any_nil, V0]
  symm; simp only [decide_eq_false_iff_not]; omega
theorem P3 (n : Int) : decide (Va n = []) = !Vi n := by
  refine Mn (fun n => decide (Va n = []) = !Vi n) (by decide +kernel) (fun n h => ?_) n
  simp only [Va, if_pos h, Vi]
  simp; omega
theorem L4 (n : Int) : RdC Tryd.prog 36 [.v (.a (.int .i64 n)), .v (.a (.int .u8 100))] (.one (.a (.bool (Ti n)))) := hasF_d n ▸ Ol n 100
theorem Kp (n : Int) : RdC Tryd.prog 36 [.v (.a (.int .i64 n)), .v (.a (.int .u8 115))] (.one (.a (.bool (Te n)))) := hasF_s n ▸ Ol n 115
theorem Oe (n : Int) : RdC Tryd.prog 36 [.v (.a (.int .i64 n)), .v (.a (.int .u8 105))] (.one (.a (.bool (V0 n)))) := hasF_i n ▸ Ol n 105
set_option maxHeartbeats 1000000 in
theorem Un (x : Ins) : RdC Tryd.prog 25 [.v (.agg x.cells)] (.one (.a (.int .i64 (Sr x)))) := by
  refine W0.fn.rd (by simp) (by simp [Y0, S1.bd, At.bd, Ins.cells]) (by repeat' (first | exact rfl | exact trivial | refine And.intro ?_ ?_ | (simp [SV.bd, Vc.S1.bd, At.bd, Zr, Y0, Ins.cells, Ln.cells]; done))) fun w => ?_
  have hk := P3 x.op
  repeat' (first | ((first | (with_reducible first | refine T.regs ?_ | refine T.cond ?_ | refine T.reg ?_ | refine T.ret ?_ | refine T.exit ?_ | refine T.skip ?_) | ((with_reducible first | refine T.dregs ?_ ?_ | refine T.dreg ?_ ?_ | refine T.dregts ?_ ?_ | refine T.dregt ?_ ?_ | refine T.danys ?_ ?_ | refine T.dany ?_ ?_); exact mix) | ((with_reducible first | apply Z2.rd (Tn _) | apply Z3.rd (Tn _)); (focus ((repeat' (first | exact rfl | exact trivial | refine And.intro ?_ ?_ | (simp [SV.bd, Vc.S1.bd, At.bd, Zr, Y0, Ins.cells, Ln.cells]; done))); done))) | ((with_reducible first | apply Z2.rd (L4 _) | apply Z3.rd (L4 _)); (focus ((repeat' (first | exact rfl | exact trivial | refine And.intro ?_ ?_ | (simp [SV.bd, Vc.S1.bd, At.bd, Zr, Y0, Ins.cells, Ln.cells]; done))); done))) | ((with_reducible first | apply Z2.rd (Kp _) | apply Z3.rd (Kp _)); (focus ((repeat' (first | exact rfl | exact trivial | refine And.intro ?_ ?_ | (simp [SV.bd, Vc.S1.bd, At.bd, Zr, Y0, Ins.cells, Ln.cells]; done))); done))) | ((with_reducible first | apply Z2.rd (Oe _) | apply Z3.rd (Oe _)); (focus ((repeat' (first | exact rfl | exact trivial | refine And.intro ?_ ?_ | (simp [SV.bd, Vc.S1.bd, At.bd, Zr, Y0, Ins.cells, Ln.cells]; done))); done)))); simp only [Yh, Zz, Zy, Vc.exK, Zn, Zk, Zg, Zh, Zx, Xr, Y8, Z0, Zl, Zi, Z1, Zm, Zj, Xn, Yc, Xo, Vc.ev, Vc.st, Vc.stq, Vc.gst, Xl, St.rd, St.get, St.put, St.find, Zf, St.new, Vc.gdc, Zs, Yp, Yt, Yu, Xk, Zw, Zt, Yk, Yi, Vc.S1.cells, Vc.upd, Vc.del, Zd, Vc.noV, Kd.enc, Kd.dec, Ins.cells, Ln.cells, Z5, Yf, Yo, Ye, Y4, Vc.rvs, Xf, Ze, Y9, Y2, Y5, Xa, Xc, Xe, Yl, Xi, Yd, Zv, Zc, Zu, Vc.kdL, Xq, Y3, Xj, Zr, SV.bd, Vc.S1.bd, At.bd, Value.oneCell', Int.reduceEq, Int.reduceNeg, Int.reduceLE, Int.reduceLT, Vc.lenOf, Ym, Xg, Z8, Vc.atK, Ya, Vc.unK, Vc.wfK, Yb, Z7, Z9, Zp, Yg, Z6, Zq, Yr, Vc.sg, Y1, Y6, Xb, Xd, Z4, Res.own, At.sub, Vc.S1.sub, SV.sub, Res.sub, Xm, Xp, Ys, Yq, Yn, Vc.frS, Kd.sz, Nat.reduceSub, ↓reduceIte, reduceCtorEq, Nat.reduceEqDiff, Nat.reduceAdd, Nat.reduceMul, Nat.reduceLeDiff, Nat.reduceLT, Nat.reduceBEq, Nat.reduceBNe, implies_true, Xs, W0.rs, W0.res]) | (with_reducible first | refine T.seq ?_ | refine T.block ?_ | assumption | refine And.intro ?_ ?_) | (intro h; first | (exfalso; omega) | exact (tf h ‹_›).elim | exact (tf ‹_› h).elim | skip))
  · have : Vi x.op = false := by simpa [‹Va x.op = []›] using hk
    simp [Sr, this]
  all_goals
    have hk2 : Vi x.op = true := by simpa [‹¬Va x.op = []›] using hk
    cases hd : Ti x.op <;> cases hs : Te x.op <;> cases hi : V0 x.op <;> simp [hd, hs, hi] at h <;> simp [Sr, hk2, hd, hs, hi, reg, N7] <;> omega
def bareI (x : Ins) : Ins := ⟨x.op, if Ti x.op then x.d else 0, if Te x.op then x.s else 0, if V0 x.op then x.imm else 0⟩
theorem Bare_any (x : Ins) : RdC Tryd.prog 22 [.v (.agg x.cells)] (.one (.agg (bareI x).cells)) := by
  refine W2.fn.rd (by simp) (by simp [Y0, S1.bd, At.bd, Ins.cells]) (by simp [SV.bd, Vc.S1.bd, At.bd, Ins.cells]) fun w => ?_
  repeat' (first | ((first | (with_reducible first | refine T.regs ?_ | refine T.cond ?_ | refine T.reg ?_ | refine T.ret ?_ | refine T.exit ?_ | refine T.skip ?_) | ((with_reducible first | refine T.dregs ?_ ?_ | refine T.dreg ?_ ?_ | refine T.dregts ?_ ?_ | refine T.dregt ?_ ?_ | refine T.danys ?_ ?_ | refine T.dany ?_ ?_); exact mix) | ((with_reducible first | apply Z2.rd (L4 _) | apply Z3.rd (L4 _)); (focus ((repeat' (first | exact rfl | exact trivial | refine And.intro ?_ ?_ | (simp [SV.bd, Vc.S1.bd, At.bd, Zr, Y0, Ins.cells, Ln.cells]; done))); done))) | ((with_reducible first | apply Z2.rd (Kp _) | apply Z3.rd (Kp _)); (focus ((repeat' (first | exact rfl | exact trivial | refine And.intro ?_ ?_ | (simp [SV.bd, Vc.S1.bd, At.bd, Zr, Y0, Ins.cells, Ln.cells]; done))); done))) | ((with_reducible first | apply Z2.rd (Oe _) | apply Z3.rd (Oe _)); (focus ((repeat' (first | exact rfl | exact trivial | refine And.intro ?_ ?_ | (simp [SV.bd, Vc.S1.bd, At.bd, Zr, Y0, Ins.cells, Ln.cells]; done))); done)))); simp only [Yh, Zz, Zy, Vc.exK, Zn, Zk, Zg, Zh, Zx, Xr, Y8, Z0, Zl, Zi, Z1, Zm, Zj, Xn, Yc, Xo, Vc.ev, Vc.st, Vc.stq, Vc.gst, Xl, St.rd, St.get, St.put, St.find, Zf, St.new, Vc.gdc, Zs, Yp, Yt, Yu, Xk, Zw, Zt, Yk, Yi, Vc.S1.cells, Vc.upd, Vc.del, Zd, Vc.noV, Kd.enc, Kd.dec, Ins.cells, Ln.cells, Z5, Yf, Yo, Ye, Y4, Vc.rvs, Xf, Ze, Y9, Y2, Y5, Xa, Xc, Xe, Yl, Xi, Yd, Zv, Zc, Zu, Vc.kdL, Xq, Y3, Xj, Zr, SV.bd, Vc.S1.bd, At.bd, Value.oneCell', Int.reduceEq, Int.reduceNeg, Int.reduceLE, Int.reduceLT, Vc.lenOf, Ym, Xg, Z8, Vc.atK, Ya, Vc.unK, Vc.wfK, Yb, Z7, Z9, Zp, Yg, Z6, Zq, Yr, Vc.sg, Y1, Y6, Xb, Xd, Z4, Res.own, At.sub, Vc.S1.sub, SV.sub, Res.sub, Xm, Xp, Ys, Yq, Yn, Vc.frS, Kd.sz, Nat.reduceSub, ↓reduceIte, reduceCtorEq, Nat.reduceEqDiff, Nat.reduceAdd, Nat.reduceMul, Nat.reduceLeDiff, Nat.reduceLT, Nat.reduceBEq, Nat.reduceBNe, implies_true, Xs, W2.rs, W2.res]) | (with_reducible first | refine T.seq ?_ | refine T.block ?_ | assumption | refine And.intro ?_ ?_) | (intro h; first | (exfalso; omega) | exact (tf h ‹_›).elim | exact (tf ‹_› h).elim | skip))
  all_goals simp_all [bareI]
end Go.Proofs.YtccjjcdjgibilaaDoor
