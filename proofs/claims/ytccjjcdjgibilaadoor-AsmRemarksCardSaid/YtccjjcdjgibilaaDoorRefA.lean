/-
  A part of the proofs of this seat's laws: what the reference's Fields, Has, Wrong and Bare compute. It has no conditions of its own.
-/
import Derived.Test.YtccjjcdjgibilaaDoorInstr
namespace Go.Proofs.YtccjjcdjgibilaaDoor
open Go.RowKit Vc
set_option linter.unusedVariables false
set_option linter.unusedSimpArgs false
attribute [local irreducible] T Z2 Wi Ent RdC RwC Uj Yg Xs
def T0 : List (List UInt8) := [[46], [100, 115], [100, 105], [100, 115, 105], [100, 115, 105], [100, 115], [100, 115], [100, 115], [100, 115], [100, 115], [100, 115], [100, 115], [100, 115], [100, 115], [100], [100], [100], [100], [100], [105], [105], [105], [105], [105], [105], [105], [105], [46], [115], [100], [115], [100], [105]]
def Vn (op : Int) : List UInt8 := if op < 0 ∨ 33 ≤ op then [] else T0.getD op.toNat []
theorem T2 (n : Int) : RdC Tryd.prog 53 [.v (.a (.int .i64 n))] (.one (.a (.str (Vn n)))) := by
  refine Wn.fn.rd (by simp) (by repeat' (first | exact rfl | exact trivial | refine And.intro ?_ ?_ | (simp [SV.bd, Vc.S1.bd, At.bd, Zr, Yw, Ins.cells, Ln.cells]; done))) (by repeat' (first | exact rfl | exact trivial | refine And.intro ?_ ?_ | (simp [SV.bd, Vc.S1.bd, At.bd, Zr, Yw, Ins.cells, Ln.cells]; done))) fun w => ?_
  have hlen : T0.length = 33 := rfl
  refine T.regs ?_
  simp only [Yh, Z1, Zy, Vc.exK, Zm, Zj, Zh, Zg, Zx, Xp, Y7, Z0, Zn, Zl, Zz, Zk, Zi, Xm, Yc, Xn, Vc.ev, Vc.st, Vc.stq, Vc.gst, Xk, St.rd, St.get, St.put, St.find, Ze, St.new, Vc.gdc, Zs, Yt, Yp, Yr, Xl, Zw, Zt, Yj, Yi, Vc.S1.cells, Vc.upd, Vc.del, Zd, Vc.noV, Kd.enc, Kd.dec, Ins.cells, Ln.cells, Z4, Ye, Yn, Yf, Y4, Vc.rvs, Xc, Zc, Y8, Y2, Y5, Y9, Xb, Xe, Yk, Xh, Yb, Zv, Zb, Zu, Vc.kdL, Xq, Y3, Xi, Zr, SV.bd, Vc.S1.bd, At.bd, Value.oneCell', Int.reduceEq, Int.reduceNeg, Int.reduceLE, Int.reduceLT, Vc.lenOf, Yl, Xg, Z7, Vc.atK, Z8, Vc.unK, Vc.wfK, Ya, Z6, Z9, Zp, Yd, Z5, Zq, Ys, Vc.sg, Y1, Y6, Xd, Xa, Z3, Res.own, At.sub, Vc.S1.sub, SV.sub, Res.sub, Xj, Xo, Yo, Yq, Ym, Vc.frS, Kd.sz, Nat.reduceSub, ↓reduceIte, reduceCtorEq, Nat.reduceEqDiff, Nat.reduceAdd, Nat.reduceMul, Nat.reduceLeDiff, Nat.reduceLT, Nat.reduceBEq, Nat.reduceBNe, implies_true, Xr, Wn.r0]
  refine T.regs ?_
  simp only [Yh, Z1, Zy, Vc.exK, Zm, Zj, Zh, Zg, Zx, Xp, Y7, Z0, Zn, Zl, Zz, Zk, Zi, Xm, Yc, Xn, Vc.ev, Vc.st, Vc.stq, Vc.gst, Xk, St.rd, St.get, St.put, St.find, Ze, St.new, Vc.gdc, Zs, Yt, Yp, Yr, Xl, Zw, Zt, Yj, Yi, Vc.S1.cells, Vc.upd, Vc.del, Zd, Vc.noV, Kd.enc, Kd.dec, Ins.cells, Ln.cells, Z4, Ye, Yn, Yf, Y4, Vc.rvs, Xc, Zc, Y8, Y2, Y5, Y9, Xb, Xe, Yk, Xh, Yb, Zv, Zb, Zu, Vc.kdL, Xq, Y3, Xi, Zr, SV.bd, Vc.S1.bd, At.bd, Value.oneCell', Int.reduceEq, Int.reduceNeg, Int.reduceLE, Int.reduceLT, Vc.lenOf, Yl, Xg, Z7, Vc.atK, Z8, Vc.unK, Vc.wfK, Ya, Z6, Z9, Zp, Yd, Z5, Zq, Ys, Vc.sg, Y1, Y6, Xd, Xa, Z3, Res.own, At.sub, Vc.S1.sub, SV.sub, Res.sub, Xj, Xo, Yo, Yq, Ym, Vc.frS, Kd.sz, Nat.reduceSub, ↓reduceIte, reduceCtorEq, Nat.reduceEqDiff, Nat.reduceAdd, Nat.reduceMul, Nat.reduceLeDiff, Nat.reduceLT, Nat.reduceBEq, Nat.reduceBNe, implies_true, Xr, Wn.r1]
  refine T.weak (Ent.litRow (m := 0) .str T0 rfl rfl rfl rfl (by decide)) ?_
  simp only [Yh, Z1, Zy, Vc.exK, Zm, Zj, Zh, Zg, Zx, Xp, Y7, Z0, Zn, Zl, Zz, Zk, Zi, Xm, Yc, Xn, Vc.ev, Vc.st, Vc.stq, Vc.gst, Xk, St.rd, St.get, St.put, St.find, Ze, St.new, Vc.gdc, Zs, Yt, Yp, Yr, Xl, Zw, Zt, Yj, Yi, Vc.S1.cells, Vc.upd, Vc.del, Zd, Vc.noV, Kd.enc, Kd.dec, Ins.cells, Ln.cells, Z4, Ye, Yn, Yf, Y4, Vc.rvs, Xc, Zc, Y8, Y2, Y5, Y9, Xb, Xe, Yk, Xh, Yb, Zv, Zb, Zu, Vc.kdL, Xq, Y3, Xi, Zr, SV.bd, Vc.S1.bd, At.bd, Value.oneCell', Int.reduceEq, Int.reduceNeg, Int.reduceLE, Int.reduceLT, Vc.lenOf, Yl, Xg, Z7, Vc.atK, Z8, Vc.unK, Vc.wfK, Ya, Z6, Z9, Zp, Yd, Z5, Zq, Ys, Vc.sg, Y1, Y6, Xd, Xa, Z3, Res.own, At.sub, Vc.S1.sub, SV.sub, Res.sub, Xj, Xo, Yo, Yq, Ym, Vc.frS, Kd.sz, Nat.reduceSub, ↓reduceIte, reduceCtorEq, Nat.reduceEqDiff, Nat.reduceAdd, Nat.reduceMul, Nat.reduceLeDiff, Nat.reduceLT, Nat.reduceBEq, Nat.reduceBNe, implies_true, Xr]
  repeat' (first | ((first | (with_reducible first | refine T.regs ?_ | refine T.cond ?_ | refine T.reg ?_ | refine T.ret ?_ | refine T.exit ?_ | refine T.skip ?_) | ((with_reducible first | refine T.dregs ?_ ?_ | refine T.dreg ?_ ?_ | refine T.dregts ?_ ?_ | refine T.dregt ?_ ?_ | refine T.danys ?_ ?_ | refine T.dany ?_ ?_); exact mix)); simp only [Yh, Z1, Zy, Vc.exK, Zm, Zj, Zh, Zg, Zx, Xp, Y7, Z0, Zn, Zl, Zz, Zk, Zi, Xm, Yc, Xn, Vc.ev, Vc.st, Vc.stq, Vc.gst, Xk, St.rd, St.get, St.put, St.find, Ze, St.new, Vc.gdc, Zs, Yt, Yp, Yr, Xl, Zw, Zt, Yj, Yi, Vc.S1.cells, Vc.upd, Vc.del, Zd, Vc.noV, Kd.enc, Kd.dec, Ins.cells, Ln.cells, Z4, Ye, Yn, Yf, Y4, Vc.rvs, Xc, Zc, Y8, Y2, Y5, Y9, Xb, Xe, Yk, Xh, Yb, Zv, Zb, Zu, Vc.kdL, Xq, Y3, Xi, Zr, SV.bd, Vc.S1.bd, At.bd, Value.oneCell', Int.reduceEq, Int.reduceNeg, Int.reduceLE, Int.reduceLT, Vc.lenOf, Yl, Xg, Z7, Vc.atK, Z8, Vc.unK, Vc.wfK, Ya, Z6, Z9, Zp, Yd, Z5, Zq, Ys, Vc.sg, Y1, Y6, Xd, Xa, Z3, Res.own, At.sub, Vc.S1.sub, SV.sub, Res.sub, Xj, Xo, Yo, Yq, Ym, Vc.frS, Kd.sz, Nat.reduceSub, ↓reduceIte, reduceCtorEq, Nat.reduceEqDiff, Nat.reduceAdd, Nat.reduceMul, Nat.reduceLeDiff, Nat.reduceLT, Nat.reduceBEq, Nat.reduceBNe, implies_true, Xr, Wn.rs, Wn.res, hlen]) | (with_reducible first | refine T.seq ?_ | refine T.block ?_ | assumption | refine And.intro ?_ ?_) | (intro h; first | (exfalso; omega) | exact (tf h ‹_›).elim | exact (tf ‹_› h).elim | skip))
  all_goals first | omega | skip
  · rw [Vn, if_pos (by omega)]
  · rw [Vn, if_neg (by omega)]; rfl
def P7 (op f : Int) : Bool := (Vn op).any fun c => decide (((c.toNat : Nat) : Int) = f)
theorem Lt (op : Int) : (Vn op).length ≤ 3 := by
  unfold Vn
  split
  · simp
  · have : ∀ k : Nat, (T0.getD k []).length ≤ 3 := by
      intro k
      by_cases hk : k < 33
      · revert k; decide
      · have : T0.getD k [] = [] := by
          have : T0.length ≤ k := by simp [T0]; omega
          simp [List.getD, this]
        rw [this]; simp
    exact this _
theorem Nj (op f : Int) : RdC Tryd.prog 36 [.v (.a (.int .i64 op)), .v (.a (.int .u8 f))] (.one (.a (.bool (P7 op f)))) := by
  refine Wj.fn.rd (by simp) (by repeat' (first | exact rfl | exact trivial | refine And.intro ?_ ?_ | (simp [SV.bd, Vc.S1.bd, At.bd, Zr, Yw, Ins.cells, Ln.cells]; done))) (by repeat' (first | exact rfl | exact trivial | refine And.intro ?_ ?_ | (simp [SV.bd, Vc.S1.bd, At.bd, Zr, Yw, Ins.cells, Ln.cells]; done))) fun w => ?_
  have hl := Lt op
  unfold P7
  generalize hs : Vn op = s at hl ⊢
  repeat' (first | ((first | (with_reducible first | refine T.regs ?_ | refine T.cond ?_ | refine T.reg ?_ | refine T.ret ?_ | refine T.exit ?_ | refine T.skip ?_) | ((with_reducible first | refine T.dregs ?_ ?_ | refine T.dreg ?_ ?_ | refine T.dregts ?_ ?_ | refine T.dregt ?_ ?_ | refine T.danys ?_ ?_ | refine T.dany ?_ ?_); exact mix) | ((with_reducible first | apply Z2.rd (T2 _) | apply Yg.rd (T2 _)); (focus ((repeat' (first | exact rfl | exact trivial | refine And.intro ?_ ?_ | (simp [SV.bd, Vc.S1.bd, At.bd, Zr, Yw, Ins.cells, Ln.cells]; done))); done)))); simp only [Yh, Z1, Zy, Vc.exK, Zm, Zj, Zh, Zg, Zx, Xp, Y7, Z0, Zn, Zl, Zz, Zk, Zi, Xm, Yc, Xn, Vc.ev, Vc.st, Vc.stq, Vc.gst, Xk, St.rd, St.get, St.put, St.find, Ze, St.new, Vc.gdc, Zs, Yt, Yp, Yr, Xl, Zw, Zt, Yj, Yi, Vc.S1.cells, Vc.upd, Vc.del, Zd, Vc.noV, Kd.enc, Kd.dec, Ins.cells, Ln.cells, Z4, Ye, Yn, Yf, Y4, Vc.rvs, Xc, Zc, Y8, Y2, Y5, Y9, Xb, Xe, Yk, Xh, Yb, Zv, Zb, Zu, Vc.kdL, Xq, Y3, Xi, Zr, SV.bd, Vc.S1.bd, At.bd, Value.oneCell', Int.reduceEq, Int.reduceNeg, Int.reduceLE, Int.reduceLT, Vc.lenOf, Yl, Xg, Z7, Vc.atK, Z8, Vc.unK, Vc.wfK, Ya, Z6, Z9, Zp, Yd, Z5, Zq, Ys, Vc.sg, Y1, Y6, Xd, Xa, Z3, Res.own, At.sub, Vc.S1.sub, SV.sub, Res.sub, Xj, Xo, Yo, Yq, Ym, Vc.frS, Kd.sz, Nat.reduceSub, ↓reduceIte, reduceCtorEq, Nat.reduceEqDiff, Nat.reduceAdd, Nat.reduceMul, Nat.reduceLeDiff, Nat.reduceLT, Nat.reduceBEq, Nat.reduceBNe, implies_true, Xr, Wj.rs, Wj.res, hs, List.length_map]) | (with_reducible first | refine T.seq ?_ | refine T.block ?_ | assumption | refine And.intro ?_ ?_) | (intro h; first | (exfalso; omega) | exact (tf h ‹_›).elim | exact (tf ‹_› h).elim | skip))
  refine T.loop (ι := { k : Nat // k ≤ s.length ∧ (s.take k).any (fun c => decide (((c.toNat : Nat) : Int) = f)) = false })
    (fun x => ⟨[(11, .one (.a (.int .i64 (x.1 : Int)))), (10, .one (.a (.int .i64 s.length))), (9, .one (.a (.ref 0))), (4, .one (.a (.bool false))), (1, .one (.a (.int .u8 f)))],
      [(0, .ro (.int .u8) (s.map fun b => ((b.toNat : Nat) : Int)))], 1⟩)
    (fun x => s.length - x.1) ⟨0, by simp, by simp⟩ (Ent.mk (id) (by simp [Za, Zo, Vc.bnd, St.get, St.find, Ze, SV.ren, Vc.S1.ren, At.ren, Res.ren, SV.bd, Vc.S1.bd, At.bd, Res.bd, Vc.upd, Vc.del, Kd.enc, Value.oneCell']) (by simp [Za, Zo, Vc.bnd, St.get, St.find, Ze, SV.ren, Vc.S1.ren, At.ren, Res.ren, SV.bd, Vc.S1.bd, At.bd, Res.bd, Vc.upd, Vc.del, Kd.enc, Value.oneCell']) (by simp [Za, Zo, Vc.bnd, St.get, St.find, Ze, SV.ren, Vc.S1.ren, At.ren, Res.ren, SV.bd, Vc.S1.bd, At.bd, Res.bd, Vc.upd, Vc.del, Kd.enc, Value.oneCell']) (by simp [Za, Zo, Vc.bnd, St.get, St.find, Ze, SV.ren, Vc.S1.ren, At.ren, Res.ren, SV.bd, Vc.S1.bd, At.bd, Res.bd, Vc.upd, Vc.del, Kd.enc, Value.oneCell'])) ?_
  rintro ⟨k, hk, hrun⟩
  simp only
  have hw : IntKind.i64.wrap ((k : Int) + 1) = ((k + 1 : Nat) : Int) := Wp (by omega)
  by_cases hlt : k < s.length
  · have hget : (s.map fun b => ((b.toNat : Nat) : Int)).getD k (Kd.int .u8).dflt = ((s[k].toNat : Nat) : Int) := by
      simp [List.getD, hlt]
    have htake : s.take (k + 1) = s.take k ++ [s[k]] := by rw [List.take_add_one]; simp [hlt]
    repeat' (first | ((first | (with_reducible first | refine T.regs ?_ | refine T.cond ?_ | refine T.reg ?_ | refine T.ret ?_ | refine T.exit ?_ | refine T.skip ?_) | ((with_reducible first | refine T.dregs ?_ ?_ | refine T.dreg ?_ ?_ | refine T.dregts ?_ ?_ | refine T.dregt ?_ ?_ | refine T.danys ?_ ?_ | refine T.dany ?_ ?_); exact mix)); simp only [Yh, Z1, Zy, Vc.exK, Zm, Zj, Zh, Zg, Zx, Xp, Y7, Z0, Zn, Zl, Zz, Zk, Zi, Xm, Yc, Xn, Vc.ev, Vc.st, Vc.stq, Vc.gst, Xk, St.rd, St.get, St.put, St.find, Ze, St.new, Vc.gdc, Zs, Yt, Yp, Yr, Xl, Zw, Zt, Yj, Yi, Vc.S1.cells, Vc.upd, Vc.del, Zd, Vc.noV, Kd.enc, Kd.dec, Ins.cells, Ln.cells, Z4, Ye, Yn, Yf, Y4, Vc.rvs, Xc, Zc, Y8, Y2, Y5, Y9, Xb, Xe, Yk, Xh, Yb, Zv, Zb, Zu, Vc.kdL, Xq, Y3, Xi, Zr, SV.bd, Vc.S1.bd, At.bd, Value.oneCell', Int.reduceEq, Int.reduceNeg, Int.reduceLE, Int.reduceLT, Vc.lenOf, Yl, Xg, Z7, Vc.atK, Z8, Vc.unK, Vc.wfK, Ya, Z6, Z9, Zp, Yd, Z5, Zq, Ys, Vc.sg, Y1, Y6, Xd, Xa, Z3, Res.own, At.sub, Vc.S1.sub, SV.sub, Res.sub, Xj, Xo, Yo, Yq, Ym, Vc.frS, Kd.sz, Nat.reduceSub, ↓reduceIte, reduceCtorEq, Nat.reduceEqDiff, Nat.reduceAdd, Nat.reduceMul, Nat.reduceLeDiff, Nat.reduceLT, Nat.reduceBEq, Nat.reduceBNe, implies_true, Xr, Wj.rs, Wj.res, hw, hget, Int.toNat_natCast, Int.ofNat_lt, List.length_map]) | (with_reducible first | refine T.seq ?_ | refine T.block ?_ | assumption | refine And.intro ?_ ?_) | (intro h; first | (exfalso; omega) | exact (tf h ‹_›).elim | exact (tf ‹_› h).elim | skip))
    all_goals first | omega | skip
    · have : (s.any fun c => decide (((c.toNat : Nat) : Int) = f)) = true := List.any_eq_true.2 ⟨s[k], List.getElem_mem hlt, by simpa using ‹((s[k].toNat : Nat) : Int) = f›⟩
      rw [this]
    · exact ⟨⟨k + 1, hlt, by rw [htake, List.any_append, hrun]; simpa using ‹¬((s[k].toNat : Nat) : Int) = f›⟩, (Ent.mk (id) (by simp [Za, Zo, Vc.bnd, St.get, St.find, Ze, SV.ren, Vc.S1.ren, At.ren, Res.ren, SV.bd, Vc.S1.bd, At.bd, Res.bd, Vc.upd, Vc.del, Kd.enc, Value.oneCell']) (by simp [Za, Zo, Vc.bnd, St.get, St.find, Ze, SV.ren, Vc.S1.ren, At.ren, Res.ren, SV.bd, Vc.S1.bd, At.bd, Res.bd, Vc.upd, Vc.del, Kd.enc, Value.oneCell']) (by simp [Za, Zo, Vc.bnd, St.get, St.find, Ze, SV.ren, Vc.S1.ren, At.ren, Res.ren, SV.bd, Vc.S1.bd, At.bd, Res.bd, Vc.upd, Vc.del, Kd.enc, Value.oneCell']) (by simp [Za, Zo, Vc.bnd, St.get, St.find, Ze, SV.ren, Vc.S1.ren, At.ren, Res.ren, SV.bd, Vc.S1.bd, At.bd, Res.bd, Vc.upd, Vc.del, Kd.enc, Value.oneCell'])), by simp only; omega⟩
  · have hk2 : k = s.length := by omega
    rw [hk2, List.take_length] at hrun
    repeat' (first | ((first | (with_reducible first | refine T.regs ?_ | refine T.cond ?_ | refine T.reg ?_ | refine T.ret ?_ | refine T.exit ?_ | refine T.skip ?_) | ((with_reducible first | refine T.dregs ?_ ?_ | refine T.dreg ?_ ?_ | refine T.dregts ?_ ?_ | refine T.dregt ?_ ?_ | refine T.danys ?_ ?_ | refine T.dany ?_ ?_); exact mix)); simp only [Yh, Z1, Zy, Vc.exK, Zm, Zj, Zh, Zg, Zx, Xp, Y7, Z0, Zn, Zl, Zz, Zk, Zi, Xm, Yc, Xn, Vc.ev, Vc.st, Vc.stq, Vc.gst, Xk, St.rd, St.get, St.put, St.find, Ze, St.new, Vc.gdc, Zs, Yt, Yp, Yr, Xl, Zw, Zt, Yj, Yi, Vc.S1.cells, Vc.upd, Vc.del, Zd, Vc.noV, Kd.enc, Kd.dec, Ins.cells, Ln.cells, Z4, Ye, Yn, Yf, Y4, Vc.rvs, Xc, Zc, Y8, Y2, Y5, Y9, Xb, Xe, Yk, Xh, Yb, Zv, Zb, Zu, Vc.kdL, Xq, Y3, Xi, Zr, SV.bd, Vc.S1.bd, At.bd, Value.oneCell', Int.reduceEq, Int.reduceNeg, Int.reduceLE, Int.reduceLT, Vc.lenOf, Yl, Xg, Z7, Vc.atK, Z8, Vc.unK, Vc.wfK, Ya, Z6, Z9, Zp, Yd, Z5, Zq, Ys, Vc.sg, Y1, Y6, Xd, Xa, Z3, Res.own, At.sub, Vc.S1.sub, SV.sub, Res.sub, Xj, Xo, Yo, Yq, Ym, Vc.frS, Kd.sz, Nat.reduceSub, ↓reduceIte, reduceCtorEq, Nat.reduceEqDiff, Nat.reduceAdd, Nat.reduceMul, Nat.reduceLeDiff, Nat.reduceLT, Nat.reduceBEq, Nat.reduceBNe, implies_true, Xr, Wj.rs, Wj.res, hw, hrun, Int.toNat_natCast, Int.ofNat_lt]) | (with_reducible first | refine T.seq ?_ | refine T.block ?_ | assumption | refine And.intro ?_ ?_) | (intro h; first | (exfalso; omega) | exact (tf h ‹_›).elim | exact (tf ‹_› h).elim | skip))
    all_goals first | omega | skip
theorem L3 (P : Int → Prop) (h1 : ∀ k : Nat, k < 33 → P k) (h2 : ∀ n : Int, n < 0 ∨ 33 ≤ n → P n) (n : Int) : P n := by
  by_cases h : n < 0 ∨ 33 ≤ n
  · exact h2 n h
  · obtain ⟨k, rfl⟩ := Int.eq_ofNat_of_zero_le (show 0 ≤ n by omega)
    exact h1 k (by omega)
theorem hasF_d (n : Int) : P7 n 100 = U2 n := by
  refine L3 (fun n => P7 n 100 = U2 n) (by decide +kernel) (fun n h => ?_) n
  simp only [P7, Vn, if_pos h, List.any_nil, U2]
  symm; simp only [decide_eq_false_iff_not]; omega
theorem hasF_s (n : Int) : P7 n 115 = U1 n := by
  refine L3 (fun n => P7 n 115 = U1 n) (by decide +kernel) (fun n h => ?_) n
  simp only [P7, Vn, if_pos h, List.any_nil, U1]
  symm; simp only [decide_eq_false_iff_not]; omega
theorem hasF_i (n : Int) : P7 n 105 = Vv n := by
  refine L3 (fun n => P7 n 105 = Vv n) (by decide +kernel) (fun n h => ?_) n
  simp only [P7, Vn, if_pos h, List.any_nil, Vv]
  symm; simp only [decide_eq_false_iff_not]; omega
theorem Nu (n : Int) : decide (Vn n = []) = !Vj n := by
  refine L3 (fun n => decide (Vn n = []) = !Vj n) (by decide +kernel) (fun n h => ?_) n
  simp only [Vn, if_pos h, Vj]
  simp; omega
theorem J8 (n : Int) : RdC Tryd.prog 36 [.v (.a (.int .i64 n)), .v (.a (.int .u8 100))] (.one (.a (.bool (U2 n)))) := hasF_d n ▸ Nj n 100
theorem J7 (n : Int) : RdC Tryd.prog 36 [.v (.a (.int .i64 n)), .v (.a (.int .u8 115))] (.one (.a (.bool (U1 n)))) := hasF_s n ▸ Nj n 115
theorem Nh (n : Int) : RdC Tryd.prog 36 [.v (.a (.int .i64 n)), .v (.a (.int .u8 105))] (.one (.a (.bool (Vv n)))) := hasF_i n ▸ Nj n 105
set_option maxHeartbeats 1000000 in
theorem U4 (x : Ins) : RdC Tryd.prog 25 [.v (.agg x.cells)] (.one (.a (.int .i64 (Ve x)))) := by
  refine W6.fn.rd (by simp) (by simp [Yw, S1.bd, At.bd, Ins.cells]) (by repeat' (first | exact rfl | exact trivial | refine And.intro ?_ ?_ | (simp [SV.bd, Vc.S1.bd, At.bd, Zr, Yw, Ins.cells, Ln.cells]; done))) fun w => ?_
  have hk := Nu x.op
  repeat' (first | ((first | (with_reducible first | refine T.regs ?_ | refine T.cond ?_ | refine T.reg ?_ | refine T.ret ?_ | refine T.exit ?_ | refine T.skip ?_) | ((with_reducible first | refine T.dregs ?_ ?_ | refine T.dreg ?_ ?_ | refine T.dregts ?_ ?_ | refine T.dregt ?_ ?_ | refine T.danys ?_ ?_ | refine T.dany ?_ ?_); exact mix) | ((with_reducible first | apply Z2.rd (T2 _) | apply Yg.rd (T2 _)); (focus ((repeat' (first | exact rfl | exact trivial | refine And.intro ?_ ?_ | (simp [SV.bd, Vc.S1.bd, At.bd, Zr, Yw, Ins.cells, Ln.cells]; done))); done))) | ((with_reducible first | apply Z2.rd (J8 _) | apply Yg.rd (J8 _)); (focus ((repeat' (first | exact rfl | exact trivial | refine And.intro ?_ ?_ | (simp [SV.bd, Vc.S1.bd, At.bd, Zr, Yw, Ins.cells, Ln.cells]; done))); done))) | ((with_reducible first | apply Z2.rd (J7 _) | apply Yg.rd (J7 _)); (focus ((repeat' (first | exact rfl | exact trivial | refine And.intro ?_ ?_ | (simp [SV.bd, Vc.S1.bd, At.bd, Zr, Yw, Ins.cells, Ln.cells]; done))); done))) | ((with_reducible first | apply Z2.rd (Nh _) | apply Yg.rd (Nh _)); (focus ((repeat' (first | exact rfl | exact trivial | refine And.intro ?_ ?_ | (simp [SV.bd, Vc.S1.bd, At.bd, Zr, Yw, Ins.cells, Ln.cells]; done))); done)))); simp only [Yh, Z1, Zy, Vc.exK, Zm, Zj, Zh, Zg, Zx, Xp, Y7, Z0, Zn, Zl, Zz, Zk, Zi, Xm, Yc, Xn, Vc.ev, Vc.st, Vc.stq, Vc.gst, Xk, St.rd, St.get, St.put, St.find, Ze, St.new, Vc.gdc, Zs, Yt, Yp, Yr, Xl, Zw, Zt, Yj, Yi, Vc.S1.cells, Vc.upd, Vc.del, Zd, Vc.noV, Kd.enc, Kd.dec, Ins.cells, Ln.cells, Z4, Ye, Yn, Yf, Y4, Vc.rvs, Xc, Zc, Y8, Y2, Y5, Y9, Xb, Xe, Yk, Xh, Yb, Zv, Zb, Zu, Vc.kdL, Xq, Y3, Xi, Zr, SV.bd, Vc.S1.bd, At.bd, Value.oneCell', Int.reduceEq, Int.reduceNeg, Int.reduceLE, Int.reduceLT, Vc.lenOf, Yl, Xg, Z7, Vc.atK, Z8, Vc.unK, Vc.wfK, Ya, Z6, Z9, Zp, Yd, Z5, Zq, Ys, Vc.sg, Y1, Y6, Xd, Xa, Z3, Res.own, At.sub, Vc.S1.sub, SV.sub, Res.sub, Xj, Xo, Yo, Yq, Ym, Vc.frS, Kd.sz, Nat.reduceSub, ↓reduceIte, reduceCtorEq, Nat.reduceEqDiff, Nat.reduceAdd, Nat.reduceMul, Nat.reduceLeDiff, Nat.reduceLT, Nat.reduceBEq, Nat.reduceBNe, implies_true, Xr, W6.rs, W6.res]) | (with_reducible first | refine T.seq ?_ | refine T.block ?_ | assumption | refine And.intro ?_ ?_) | (intro h; first | (exfalso; omega) | exact (tf h ‹_›).elim | exact (tf ‹_› h).elim | skip))
  · have : Vj x.op = false := by simpa [‹Vn x.op = []›] using hk
    simp [Ve, this]
  all_goals
    have hk2 : Vj x.op = true := by simpa [‹¬Vn x.op = []›] using hk
    cases hd : U2 x.op <;> cases hs : U1 x.op <;> cases hi : Vv x.op <;> simp [hd, hs, hi] at h <;> simp [Ve, hk2, hd, hs, hi, reg, O8] <;> omega
def bareI (x : Ins) : Ins := ⟨x.op, if U2 x.op then x.d else 0, if U1 x.op then x.s else 0, if Vv x.op then x.imm else 0⟩
theorem Bare_any (x : Ins) : RdC Tryd.prog 22 [.v (.agg x.cells)] (.one (.agg (bareI x).cells)) := by
  refine W9.fn.rd (by simp) (by simp [Yw, S1.bd, At.bd, Ins.cells]) (by simp [SV.bd, Vc.S1.bd, At.bd, Ins.cells]) fun w => ?_
  repeat' (first | ((first | (with_reducible first | refine T.regs ?_ | refine T.cond ?_ | refine T.reg ?_ | refine T.ret ?_ | refine T.exit ?_ | refine T.skip ?_) | ((with_reducible first | refine T.dregs ?_ ?_ | refine T.dreg ?_ ?_ | refine T.dregts ?_ ?_ | refine T.dregt ?_ ?_ | refine T.danys ?_ ?_ | refine T.dany ?_ ?_); exact mix) | ((with_reducible first | apply Z2.rd (J8 _) | apply Yg.rd (J8 _)); (focus ((repeat' (first | exact rfl | exact trivial | refine And.intro ?_ ?_ | (simp [SV.bd, Vc.S1.bd, At.bd, Zr, Yw, Ins.cells, Ln.cells]; done))); done))) | ((with_reducible first | apply Z2.rd (J7 _) | apply Yg.rd (J7 _)); (focus ((repeat' (first | exact rfl | exact trivial | refine And.intro ?_ ?_ | (simp [SV.bd, Vc.S1.bd, At.bd, Zr, Yw, Ins.cells, Ln.cells]; done))); done))) | ((with_reducible first | apply Z2.rd (Nh _) | apply Yg.rd (Nh _)); (focus ((repeat' (first | exact rfl | exact trivial | refine And.intro ?_ ?_ | (simp [SV.bd, Vc.S1.bd, At.bd, Zr, Yw, Ins.cells, Ln.cells]; done))); done)))); simp only [Yh, Z1, Zy, Vc.exK, Zm, Zj, Zh, Zg, Zx, Xp, Y7, Z0, Zn, Zl, Zz, Zk, Zi, Xm, Yc, Xn, Vc.ev, Vc.st, Vc.stq, Vc.gst, Xk, St.rd, St.get, St.put, St.find, Ze, St.new, Vc.gdc, Zs, Yt, Yp, Yr, Xl, Zw, Zt, Yj, Yi, Vc.S1.cells, Vc.upd, Vc.del, Zd, Vc.noV, Kd.enc, Kd.dec, Ins.cells, Ln.cells, Z4, Ye, Yn, Yf, Y4, Vc.rvs, Xc, Zc, Y8, Y2, Y5, Y9, Xb, Xe, Yk, Xh, Yb, Zv, Zb, Zu, Vc.kdL, Xq, Y3, Xi, Zr, SV.bd, Vc.S1.bd, At.bd, Value.oneCell', Int.reduceEq, Int.reduceNeg, Int.reduceLE, Int.reduceLT, Vc.lenOf, Yl, Xg, Z7, Vc.atK, Z8, Vc.unK, Vc.wfK, Ya, Z6, Z9, Zp, Yd, Z5, Zq, Ys, Vc.sg, Y1, Y6, Xd, Xa, Z3, Res.own, At.sub, Vc.S1.sub, SV.sub, Res.sub, Xj, Xo, Yo, Yq, Ym, Vc.frS, Kd.sz, Nat.reduceSub, ↓reduceIte, reduceCtorEq, Nat.reduceEqDiff, Nat.reduceAdd, Nat.reduceMul, Nat.reduceLeDiff, Nat.reduceLT, Nat.reduceBEq, Nat.reduceBNe, implies_true, Xr, W9.rs, W9.res]) | (with_reducible first | refine T.seq ?_ | refine T.block ?_ | assumption | refine And.intro ?_ ?_) | (intro h; first | (exfalso; omega) | exact (tf h ‹_›).elim | exact (tf ‹_› h).elim | skip))
  all_goals simp_all [bareI]
end Go.Proofs.YtccjjcdjgibilaaDoor
