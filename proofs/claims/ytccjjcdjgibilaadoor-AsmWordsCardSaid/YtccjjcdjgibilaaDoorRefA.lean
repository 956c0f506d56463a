/-
  A part of the proofs of this seat's laws: what the reference's Fields, Has, Wrong and Bare compute. It has no conditions of its own.
-/
import Derived.Test.YtccjjcdjgibilaaDoorInstr
namespace Go.Proofs.YtccjjcdjgibilaaDoor
open Go.RowKit Vc
set_option linter.unusedVariables false
set_option linter.unusedSimpArgs false
attribute [local irreducible] T Z2 Wd Ent RdC RwC Up Ye Xt
def S8 : List (List UInt8) := [[46], [100, 115], [100, 105], [100, 115, 105], [100, 115, 105], [100, 115], [100, 115], [100, 115], [100, 115], [100, 115], [100, 115], [100, 115], [100, 115], [100, 115], [100], [100], [100], [100], [100], [105], [105], [105], [105], [105], [105], [105], [105], [46], [115], [100], [115], [100], [105]]
def V5 (op : Int) : List UInt8 := if op < 0 ∨ 33 ≤ op then [] else S8.getD op.toNat []
theorem Sv (n : Int) : RdC Tryd.prog 53 [.v (.a (.int .i64 n))] (.one (.a (.str (V5 n)))) := by
  refine Ww.fn.rd (by simp) (by repeat' (first | exact rfl | exact trivial | refine And.intro ?_ ?_ | (simp [SV.bd, Vc.S1.bd, At.bd, Zq, Yv, Ins.cells, Ln.cells]; done))) (by repeat' (first | exact rfl | exact trivial | refine And.intro ?_ ?_ | (simp [SV.bd, Vc.S1.bd, At.bd, Zq, Yv, Ins.cells, Ln.cells]; done))) fun w => ?_
  have hlen : S8.length = 33 := rfl
  refine T.regs ?_
  simp only [Yf, Zz, Z1, Vc.exK, Zm, Zj, Zg, Zh, Zx, Xn, Y1, Z0, Zl, Zi, Zy, Zk, Zn, Xk, Z7, Xj, Vc.ev, Vc.st, Vc.stq, Vc.gst, Xh, St.rd, St.get, St.put, St.find, Zd, St.new, Vc.gdc, Zs, Yr, Yo, Yq, Xg, Zv, Zt, Yj, Yi, Vc.S1.cells, Vc.upd, Vc.del, Zf, Vc.noV, Kd.enc, Kd.dec, Ins.cells, Ln.cells, Z5, Yc, Yn, Ya, Y0, Vc.rvs, Y6, Zc, Y4, Yx, Y3, Y5, Y9, Xa, Yk, Xe, Z8, Zw, Zb, Zu, Vc.kdL, Xm, Yz, Xf, Zq, SV.bd, Vc.S1.bd, At.bd, Value.oneCell', Int.reduceEq, Int.reduceNeg, Int.reduceLE, Int.reduceLT, Vc.lenOf, Yl, Xc, Z4, Vc.atK, Z6, Vc.unK, Vc.wfK, Yh, Yd, Yg, Zp, Yb, Z9, Zr, Ys, Vc.sg, Yw, Y2, Y7, Y8, Z3, Res.own, At.sub, Vc.S1.sub, SV.sub, Res.sub, Xi, Xo, Yt, Yp, Ym, Vc.frS, Kd.sz, Nat.reduceSub, ↓reduceIte, reduceCtorEq, Nat.reduceEqDiff, Nat.reduceAdd, Nat.reduceMul, Nat.reduceLeDiff, Nat.reduceLT, Nat.reduceBEq, Nat.reduceBNe, implies_true, Xp, Ww.r0]
  refine T.regs ?_
  simp only [Yf, Zz, Z1, Vc.exK, Zm, Zj, Zg, Zh, Zx, Xn, Y1, Z0, Zl, Zi, Zy, Zk, Zn, Xk, Z7, Xj, Vc.ev, Vc.st, Vc.stq, Vc.gst, Xh, St.rd, St.get, St.put, St.find, Zd, St.new, Vc.gdc, Zs, Yr, Yo, Yq, Xg, Zv, Zt, Yj, Yi, Vc.S1.cells, Vc.upd, Vc.del, Zf, Vc.noV, Kd.enc, Kd.dec, Ins.cells, Ln.cells, Z5, Yc, Yn, Ya, Y0, Vc.rvs, Y6, Zc, Y4, Yx, Y3, Y5, Y9, Xa, Yk, Xe, Z8, Zw, Zb, Zu, Vc.kdL, Xm, Yz, Xf, Zq, SV.bd, Vc.S1.bd, At.bd, Value.oneCell', Int.reduceEq, Int.reduceNeg, Int.reduceLE, Int.reduceLT, Vc.lenOf, Yl, Xc, Z4, Vc.atK, Z6, Vc.unK, Vc.wfK, Yh, Yd, Yg, Zp, Yb, Z9, Zr, Ys, Vc.sg, Yw, Y2, Y7, Y8, Z3, Res.own, At.sub, Vc.S1.sub, SV.sub, Res.sub, Xi, Xo, Yt, Yp, Ym, Vc.frS, Kd.sz, Nat.reduceSub, ↓reduceIte, reduceCtorEq, Nat.reduceEqDiff, Nat.reduceAdd, Nat.reduceMul, Nat.reduceLeDiff, Nat.reduceLT, Nat.reduceBEq, Nat.reduceBNe, implies_true, Xp, Ww.r1]
  refine T.weak (Ent.litRow (m := 0) .str S8 rfl rfl rfl rfl (by decide)) ?_
  simp only [Yf, Zz, Z1, Vc.exK, Zm, Zj, Zg, Zh, Zx, Xn, Y1, Z0, Zl, Zi, Zy, Zk, Zn, Xk, Z7, Xj, Vc.ev, Vc.st, Vc.stq, Vc.gst, Xh, St.rd, St.get, St.put, St.find, Zd, St.new, Vc.gdc, Zs, Yr, Yo, Yq, Xg, Zv, Zt, Yj, Yi, Vc.S1.cells, Vc.upd, Vc.del, Zf, Vc.noV, Kd.enc, Kd.dec, Ins.cells, Ln.cells, Z5, Yc, Yn, Ya, Y0, Vc.rvs, Y6, Zc, Y4, Yx, Y3, Y5, Y9, Xa, Yk, Xe, Z8, Zw, Zb, Zu, Vc.kdL, Xm, Yz, Xf, Zq, SV.bd, Vc.S1.bd, At.bd, Value.oneCell', Int.reduceEq, Int.reduceNeg, Int.reduceLE, Int.reduceLT, Vc.lenOf, Yl, Xc, Z4, Vc.atK, Z6, Vc.unK, Vc.wfK, Yh, Yd, Yg, Zp, Yb, Z9, Zr, Ys, Vc.sg, Yw, Y2, Y7, Y8, Z3, Res.own, At.sub, Vc.S1.sub, SV.sub, Res.sub, Xi, Xo, Yt, Yp, Ym, Vc.frS, Kd.sz, Nat.reduceSub, ↓reduceIte, reduceCtorEq, Nat.reduceEqDiff, Nat.reduceAdd, Nat.reduceMul, Nat.reduceLeDiff, Nat.reduceLT, Nat.reduceBEq, Nat.reduceBNe, implies_true, Xp]
  repeat' (first | ((first | (with_reducible first | refine T.regs ?_ | refine T.cond ?_ | refine T.reg ?_ | refine T.ret ?_ | refine T.exit ?_ | refine T.skip ?_) | ((with_reducible first | refine T.dregs ?_ ?_ | refine T.dreg ?_ ?_ | refine T.dregts ?_ ?_ | refine T.dregt ?_ ?_ | refine T.danys ?_ ?_ | refine T.dany ?_ ?_); exact mix)); simp only [Yf, Zz, Z1, Vc.exK, Zm, Zj, Zg, Zh, Zx, Xn, Y1, Z0, Zl, Zi, Zy, Zk, Zn, Xk, Z7, Xj, Vc.ev, Vc.st, Vc.stq, Vc.gst, Xh, St.rd, St.get, St.put, St.find, Zd, St.new, Vc.gdc, Zs, Yr, Yo, Yq, Xg, Zv, Zt, Yj, Yi, Vc.S1.cells, Vc.upd, Vc.del, Zf, Vc.noV, Kd.enc, Kd.dec, Ins.cells, Ln.cells, Z5, Yc, Yn, Ya, Y0, Vc.rvs, Y6, Zc, Y4, Yx, Y3, Y5, Y9, Xa, Yk, Xe, Z8, Zw, Zb, Zu, Vc.kdL, Xm, Yz, Xf, Zq, SV.bd, Vc.S1.bd, At.bd, Value.oneCell', Int.reduceEq, Int.reduceNeg, Int.reduceLE, Int.reduceLT, Vc.lenOf, Yl, Xc, Z4, Vc.atK, Z6, Vc.unK, Vc.wfK, Yh, Yd, Yg, Zp, Yb, Z9, Zr, Ys, Vc.sg, Yw, Y2, Y7, Y8, Z3, Res.own, At.sub, Vc.S1.sub, SV.sub, Res.sub, Xi, Xo, Yt, Yp, Ym, Vc.frS, Kd.sz, Nat.reduceSub, ↓reduceIte, reduceCtorEq, Nat.reduceEqDiff, Nat.reduceAdd, Nat.reduceMul, Nat.reduceLeDiff, Nat.reduceLT, Nat.reduceBEq, Nat.reduceBNe, implies_true, Xp, Ww.rs, Ww.res, hlen]) | (with_reducible first | refine T.seq ?_ | refine T.block ?_ | assumption | refine And.intro ?_ ?_) | (intro h; first | (exfalso; omega) | exact (tf h ‹_›).elim | exact (tf ‹_› h).elim | skip))
  all_goals first | omega | skip
  · rw [V5, if_pos (by omega)]
  · rw [V5, if_neg (by omega)]; rfl
def O1 (op f : Int) : Bool := (V5 op).any fun c => decide (((c.toNat : Nat) : Int) = f)
theorem K8 (op : Int) : (V5 op).length ≤ 3 := by
  unfold V5
  split
  · simp
  · have : ∀ k : Nat, (S8.getD k []).length ≤ 3 := by
      intro k
      by_cases hk : k < 33
      · revert k; decide
      · have : S8.getD k [] = [] := by
          have : S8.length ≤ k := by simp [S8]; omega
          simp [List.getD, this]
        rw [this]; simp
    exact this _
theorem Mi (op f : Int) : RdC Tryd.prog 36 [.v (.a (.int .i64 op)), .v (.a (.int .u8 f))] (.one (.a (.bool (O1 op f)))) := by
  refine Wr.fn.rd (by simp) (by repeat' (first | exact rfl | exact trivial | refine And.intro ?_ ?_ | (simp [SV.bd, Vc.S1.bd, At.bd, Zq, Yv, Ins.cells, Ln.cells]; done))) (by repeat' (first | exact rfl | exact trivial | refine And.intro ?_ ?_ | (simp [SV.bd, Vc.S1.bd, At.bd, Zq, Yv, Ins.cells, Ln.cells]; done))) fun w => ?_
  have hl := K8 op
  unfold O1
  generalize hs : V5 op = s at hl ⊢
  repeat' (first | ((first | (with_reducible first | refine T.regs ?_ | refine T.cond ?_ | refine T.reg ?_ | refine T.ret ?_ | refine T.exit ?_ | refine T.skip ?_) | ((with_reducible first | refine T.dregs ?_ ?_ | refine T.dreg ?_ ?_ | refine T.dregts ?_ ?_ | refine T.dregt ?_ ?_ | refine T.danys ?_ ?_ | refine T.dany ?_ ?_); exact mix) | ((with_reducible first | apply Z2.rd (Sv _) | apply Ye.rd (Sv _)); (focus ((repeat' (first | exact rfl | exact trivial | refine And.intro ?_ ?_ | (simp [SV.bd, Vc.S1.bd, At.bd, Zq, Yv, Ins.cells, Ln.cells]; done))); done)))); simp only [Yf, Zz, Z1, Vc.exK, Zm, Zj, Zg, Zh, Zx, Xn, Y1, Z0, Zl, Zi, Zy, Zk, Zn, Xk, Z7, Xj, Vc.ev, Vc.st, Vc.stq, Vc.gst, Xh, St.rd, St.get, St.put, St.find, Zd, St.new, Vc.gdc, Zs, Yr, Yo, Yq, Xg, Zv, Zt, Yj, Yi, Vc.S1.cells, Vc.upd, Vc.del, Zf, Vc.noV, Kd.enc, Kd.dec, Ins.cells, Ln.cells, Z5, Yc, Yn, Ya, Y0, Vc.rvs, Y6, Zc, Y4, Yx, Y3, Y5, Y9, Xa, Yk, Xe, Z8, Zw, Zb, Zu, Vc.kdL, Xm, Yz, Xf, Zq, SV.bd, Vc.S1.bd, At.bd, Value.oneCell', Int.reduceEq, Int.reduceNeg, Int.reduceLE, Int.reduceLT, Vc.lenOf, Yl, Xc, Z4, Vc.atK, Z6, Vc.unK, Vc.wfK, Yh, Yd, Yg, Zp, Yb, Z9, Zr, Ys, Vc.sg, Yw, Y2, Y7, Y8, Z3, Res.own, At.sub, Vc.S1.sub, SV.sub, Res.sub, Xi, Xo, Yt, Yp, Ym, Vc.frS, Kd.sz, Nat.reduceSub, ↓reduceIte, reduceCtorEq, Nat.reduceEqDiff, Nat.reduceAdd, Nat.reduceMul, Nat.reduceLeDiff, Nat.reduceLT, Nat.reduceBEq, Nat.reduceBNe, implies_true, Xp, Wr.rs, Wr.res, hs, List.length_map]) | (with_reducible first | refine T.seq ?_ | refine T.block ?_ | assumption | refine And.intro ?_ ?_) | (intro h; first | (exfalso; omega) | exact (tf h ‹_›).elim | exact (tf ‹_› h).elim | skip))
  refine T.loop (ι := { k : Nat // k ≤ s.length ∧ (s.take k).any (fun c => decide (((c.toNat : Nat) : Int) = f)) = false })
    (fun x => ⟨[(11, .one (.a (.int .i64 (x.1 : Int)))), (10, .one (.a (.int .i64 s.length))), (9, .one (.a (.ref 0))), (4, .one (.a (.bool false))), (1, .one (.a (.int .u8 f)))],
      [(0, .ro (.int .u8) (s.map fun b => ((b.toNat : Nat) : Int)))], 1⟩)
    (fun x => s.length - x.1) ⟨0, by simp, by simp⟩ (Ent.mk (id) (by simp [Za, Ze, Vc.bnd, St.get, St.find, Zd, SV.ren, Vc.S1.ren, At.ren, Res.ren, SV.bd, Vc.S1.bd, At.bd, Res.bd, Vc.upd, Vc.del, Kd.enc, Value.oneCell']) (by simp [Za, Ze, Vc.bnd, St.get, St.find, Zd, SV.ren, Vc.S1.ren, At.ren, Res.ren, SV.bd, Vc.S1.bd, At.bd, Res.bd, Vc.upd, Vc.del, Kd.enc, Value.oneCell']) (by simp [Za, Ze, Vc.bnd, St.get, St.find, Zd, SV.ren, Vc.S1.ren, At.ren, Res.ren, SV.bd, Vc.S1.bd, At.bd, Res.bd, Vc.upd, Vc.del, Kd.enc, Value.oneCell']) (by simp [Za, Ze, Vc.bnd, St.get, St.find, Zd, SV.ren, Vc.S1.ren, At.ren, Res.ren, SV.bd, Vc.S1.bd, At.bd, Res.bd, Vc.upd, Vc.del, Kd.enc, Value.oneCell'])) ?_
  rintro ⟨k, hk, hrun⟩
  simp only
  have hw : IntKind.i64.wrap ((k : Int) + 1) = ((k + 1 : Nat) : Int) := We (by omega)
  by_cases hlt : k < s.length
  · have hget : (s.map fun b => ((b.toNat : Nat) : Int)).getD k (Kd.int .u8).dflt = ((s[k].toNat : Nat) : Int) := by
      simp [List.getD, hlt]
    have htake : s.take (k + 1) = s.take k ++ [s[k]] := by rw [List.take_add_one]; simp [hlt]
    repeat' (first | ((first | (with_reducible first | refine T.regs ?_ | refine T.cond ?_ | refine T.reg ?_ | refine T.ret ?_ | refine T.exit ?_ | refine T.skip ?_) | ((with_reducible first | refine T.dregs ?_ ?_ | refine T.dreg ?_ ?_ | refine T.dregts ?_ ?_ | refine T.dregt ?_ ?_ | refine T.danys ?_ ?_ | refine T.dany ?_ ?_); exact mix)); simp only [Yf, Zz, Z1, Vc.exK, Zm, Zj, Zg, Zh, Zx, Xn, Y1, Z0, Zl, Zi, Zy, Zk, Zn, Xk, Z7, Xj, Vc.ev, Vc.st, Vc.stq, Vc.gst, Xh, St.rd, St.get, St.put, St.find, Zd, St.new, Vc.gdc, Zs, Yr, Yo, Yq, Xg, Zv, Zt, Yj, Yi, Vc.S1.cells, Vc.upd, Vc.del, Zf, Vc.noV, Kd.enc, Kd.dec, Ins.cells, Ln.cells, Z5, Yc, Yn, Ya, Y0, Vc.rvs, Y6, Zc, Y4, Yx, Y3, Y5, Y9, Xa, Yk, Xe, Z8, Zw, Zb, Zu, Vc.kdL, Xm, Yz, Xf, Zq, SV.bd, Vc.S1.bd, At.bd, Value.oneCell', Int.reduceEq, Int.reduceNeg, Int.reduceLE, Int.reduceLT, Vc.lenOf, Yl, Xc, Z4, Vc.atK, Z6, Vc.unK, Vc.wfK, Yh, Yd, Yg, Zp, Yb, Z9, Zr, Ys, Vc.sg, Yw, Y2, Y7, Y8, Z3, Res.own, At.sub, Vc.S1.sub, SV.sub, Res.sub, Xi, Xo, Yt, Yp, Ym, Vc.frS, Kd.sz, Nat.reduceSub, ↓reduceIte, reduceCtorEq, Nat.reduceEqDiff, Nat.reduceAdd, Nat.reduceMul, Nat.reduceLeDiff, Nat.reduceLT, Nat.reduceBEq, Nat.reduceBNe, implies_true, Xp, Wr.rs, Wr.res, hw, hget, Int.toNat_natCast, Int.ofNat_lt, List.length_map]) | (with_reducible first | refine T.seq ?_ | refine T.block ?_ | assumption | refine And.intro ?_ ?_) | (intro h; first | (exfalso; omega) | exact (tf h ‹_›).elim | exact (tf ‹_› h).elim | skip))
    all_goals first | omega | skip
    · have : (s.any fun c => decide (((c.toNat : Nat) : Int) = f)) = true := List.any_eq_true.2 ⟨s[k], List.getElem_mem hlt, by simpa using ‹((s[k].toNat : Nat) : Int) = f›⟩
      rw [this]
    · exact ⟨⟨k + 1, hlt, by rw [htake, List.any_append, hrun]; simpa using ‹¬((s[k].toNat : Nat) : Int) = f›⟩, (Ent.mk (id) (by simp [Za, Ze, Vc.bnd, St.get, St.find, Zd, SV.ren, Vc.S1.ren, At.ren, Res.ren, SV.bd, Vc.S1.bd, At.bd, Res.bd, Vc.upd, Vc.del, Kd.enc, Value.oneCell']) (by simp [Za, Ze, Vc.bnd, St.get, St.find, Zd, SV.ren, Vc.S1.ren, At.ren, Res.ren, SV.bd, Vc.S1.bd, At.bd, Res.bd, Vc.upd, Vc.del, Kd.enc, Value.oneCell']) (by simp [Za, Ze, Vc.bnd, St.get, St.find, Zd, SV.ren, Vc.S1.ren, At.ren, Res.ren, SV.bd, Vc.S1.bd, At.bd, Res.bd, Vc.upd, Vc.del, Kd.enc, Value.oneCell']) (by simp [Za, Ze, Vc.bnd, St.get, St.find, Zd, SV.ren, Vc.S1.ren, At.ren, Res.ren, SV.bd, Vc.S1.bd, At.bd, Res.bd, Vc.upd, Vc.del, Kd.enc, Value.oneCell'])), by simp only; omega⟩
  · have hk2 : k = s.length := by omega
    rw [hk2, List.take_length] at hrun
    repeat' (first | ((first | (with_reducible first | refine T.regs ?_ | refine T.cond ?_ | refine T.reg ?_ | refine T.ret ?_ | refine T.exit ?_ | refine T.skip ?_) | ((with_reducible first | refine T.dregs ?_ ?_ | refine T.dreg ?_ ?_ | refine T.dregts ?_ ?_ | refine T.dregt ?_ ?_ | refine T.danys ?_ ?_ | refine T.dany ?_ ?_); exact mix)); simp only [Yf, Zz, Z1, Vc.exK, Zm, Zj, Zg, Zh, Zx, Xn, Y1, Z0, Zl, Zi, Zy, Zk, Zn, Xk, Z7, Xj, Vc.ev, Vc.st, Vc.stq, Vc.gst, Xh, St.rd, St.get, St.put, St.find, Zd, St.new, Vc.gdc, Zs, Yr, Yo, Yq, Xg, Zv, Zt, Yj, Yi, Vc.S1.cells, Vc.upd, Vc.del, Zf, Vc.noV, Kd.enc, Kd.dec, Ins.cells, Ln.cells, Z5, Yc, Yn, Ya, Y0, Vc.rvs, Y6, Zc, Y4, Yx, Y3, Y5, Y9, Xa, Yk, Xe, Z8, Zw, Zb, Zu, Vc.kdL, Xm, Yz, Xf, Zq, SV.bd, Vc.S1.bd, At.bd, Value.oneCell', Int.reduceEq, Int.reduceNeg, Int.reduceLE, Int.reduceLT, Vc.lenOf, Yl, Xc, Z4, Vc.atK, Z6, Vc.unK, Vc.wfK, Yh, Yd, Yg, Zp, Yb, Z9, Zr, Ys, Vc.sg, Yw, Y2, Y7, Y8, Z3, Res.own, At.sub, Vc.S1.sub, SV.sub, Res.sub, Xi, Xo, Yt, Yp, Ym, Vc.frS, Kd.sz, Nat.reduceSub, ↓reduceIte, reduceCtorEq, Nat.reduceEqDiff, Nat.reduceAdd, Nat.reduceMul, Nat.reduceLeDiff, Nat.reduceLT, Nat.reduceBEq, Nat.reduceBNe, implies_true, Xp, Wr.rs, Wr.res, hw, hrun, Int.toNat_natCast, Int.ofNat_lt]) | (with_reducible first | refine T.seq ?_ | refine T.block ?_ | assumption | refine And.intro ?_ ?_) | (intro h; first | (exfalso; omega) | exact (tf h ‹_›).elim | exact (tf ‹_› h).elim | skip))
    all_goals first | omega | skip
theorem Jo (P : Int → Prop) (h1 : ∀ k : Nat, k < 33 → P k) (h2 : ∀ n : Int, n < 0 ∨ 33 ≤ n → P n) (n : Int) : P n := by
  by_cases h : n < 0 ∨ 33 ≤ n
  · exact h2 n h
  · obtain ⟨k, rfl⟩ := Int.eq_ofNat_of_zero_le (show 0 ≤ n by omega)
    exact h1 k (by omega)
theorem hasF_d (n : Int) : O1 n 100 = Uo n := by
  refine Jo (fun n => O1 n 100 = Uo n) (by decide +kernel) (fun n h => ?_) n
  simp only [O1, V5, if_pos h, List.any_nil, Uo]
  symm; simp only [decide_eq_false_iff_not]; omega
theorem hasF_s (n : Int) : O1 n 115 = Un n := by
  refine Jo (fun n => O1 n 115 = Un n) (by decide +kernel) (fun n h => ?_) n
  simp only [O1, V5, if_pos h, List.any_nil, Un]
  symm; simp only [decide_eq_false_iff_not]; omega
theorem hasF_i (n : Int) : O1 n 105 = hasI n := by
  refine Jo (fun n => O1 n 105 = hasI n) (by decide +kernel) (fun n h => ?_) n
  simp only [O1, V5, if_pos h, List.any_nil, hasI]
  symm; simp only [decide_eq_false_iff_not]; omega
theorem Ms (n : Int) : decide (V5 n = []) = !Ve n := by
  refine Jo (fun n => decide (V5 n = []) = !Ve n) (by decide +kernel) (fun n h => ?_) n
  simp only [V5, if_pos h, Ve]
  simp; omega
theorem Hi (n : Int) : RdC Tryd.prog 36 [.v (.a (.int .i64 n)), .v (.a (.int .u8 100))] (.one (.a (.bool (Uo n)))) := hasF_d n ▸ Mi n 100
theorem Hf (n : Int) : RdC Tryd.prog 36 [.v (.a (.int .i64 n)), .v (.a (.int .u8 115))] (.one (.a (.bool (Un n)))) := hasF_s n ▸ Mi n 115
theorem Ov (n : Int) : RdC Tryd.prog 36 [.v (.a (.int .i64 n)), .v (.a (.int .u8 105))] (.one (.a (.bool (hasI n)))) := hasF_i n ▸ Mi n 105
set_option maxHeartbeats 1000000 in
theorem Uj (x : Ins) : RdC Tryd.prog 25 [.v (.agg x.cells)] (.one (.a (.int .i64 (X9 x)))) := by
  refine Vk.fn.rd (by simp) (by simp [Yv, S1.bd, At.bd, Ins.cells]) (by repeat' (first | exact rfl | exact trivial | refine And.intro ?_ ?_ | (simp [SV.bd, Vc.S1.bd, At.bd, Zq, Yv, Ins.cells, Ln.cells]; done))) fun w => ?_
  have hk := Ms x.op
  repeat' (first | ((first | (with_reducible first | refine T.regs ?_ | refine T.cond ?_ | refine T.reg ?_ | refine T.ret ?_ | refine T.exit ?_ | refine T.skip ?_) | ((with_reducible first | refine T.dregs ?_ ?_ | refine T.dreg ?_ ?_ | refine T.dregts ?_ ?_ | refine T.dregt ?_ ?_ | refine T.danys ?_ ?_ | refine T.dany ?_ ?_); exact mix) | ((with_reducible first | apply Z2.rd (Sv _) | apply Ye.rd (Sv _)); (focus ((repeat' (first | exact rfl | exact trivial | refine And.intro ?_ ?_ | (simp [SV.bd, Vc.S1.bd, At.bd, Zq, Yv, Ins.cells, Ln.cells]; done))); done))) | ((with_reducible first | apply Z2.rd (Hi _) | apply Ye.rd (Hi _)); (focus ((repeat' (first | exact rfl | exact trivial | refine And.intro ?_ ?_ | (simp [SV.bd, Vc.S1.bd, At.bd, Zq, Yv, Ins.cells, Ln.cells]; done))); done))) | ((with_reducible first | apply Z2.rd (Hf _) | apply Ye.rd (Hf _)); (focus ((repeat' (first | exact rfl | exact trivial | refine And.intro ?_ ?_ | (simp [SV.bd, Vc.S1.bd, At.bd, Zq, Yv, Ins.cells, Ln.cells]; done))); done))) | ((with_reducible first | apply Z2.rd (Ov _) | apply Ye.rd (Ov _)); (focus ((repeat' (first | exact rfl | exact trivial | refine And.intro ?_ ?_ | (simp [SV.bd, Vc.S1.bd, At.bd, Zq, Yv, Ins.cells, Ln.cells]; done))); done)))); simp only [Yf, Zz, Z1, Vc.exK, Zm, Zj, Zg, Zh, Zx, Xn, Y1, Z0, Zl, Zi, Zy, Zk, Zn, Xk, Z7, Xj, Vc.ev, Vc.st, Vc.stq, Vc.gst, Xh, St.rd, St.get, St.put, St.find, Zd, St.new, Vc.gdc, Zs, Yr, Yo, Yq, Xg, Zv, Zt, Yj, Yi, Vc.S1.cells, Vc.upd, Vc.del, Zf, Vc.noV, Kd.enc, Kd.dec, Ins.cells, Ln.cells, Z5, Yc, Yn, Ya, Y0, Vc.rvs, Y6, Zc, Y4, Yx, Y3, Y5, Y9, Xa, Yk, Xe, Z8, Zw, Zb, Zu, Vc.kdL, Xm, Yz, Xf, Zq, SV.bd, Vc.S1.bd, At.bd, Value.oneCell', Int.reduceEq, Int.reduceNeg, Int.reduceLE, Int.reduceLT, Vc.lenOf, Yl, Xc, Z4, Vc.atK, Z6, Vc.unK, Vc.wfK, Yh, Yd, Yg, Zp, Yb, Z9, Zr, Ys, Vc.sg, Yw, Y2, Y7, Y8, Z3, Res.own, At.sub, Vc.S1.sub, SV.sub, Res.sub, Xi, Xo, Yt, Yp, Ym, Vc.frS, Kd.sz, Nat.reduceSub, ↓reduceIte, reduceCtorEq, Nat.reduceEqDiff, Nat.reduceAdd, Nat.reduceMul, Nat.reduceLeDiff, Nat.reduceLT, Nat.reduceBEq, Nat.reduceBNe, implies_true, Xp, Vk.rs, Vk.res]) | (with_reducible first | refine T.seq ?_ | refine T.block ?_ | assumption | refine And.intro ?_ ?_) | (intro h; first | (exfalso; omega) | exact (tf h ‹_›).elim | exact (tf ‹_› h).elim | skip))
  · have : Ve x.op = false := by simpa [‹V5 x.op = []›] using hk
    simp [X9, this]
  all_goals
    have hk2 : Ve x.op = true := by simpa [‹¬V5 x.op = []›] using hk
    cases hd : Uo x.op <;> cases hs : Un x.op <;> cases hi : hasI x.op <;> simp [hd, hs, hi] at h <;> simp [X9, hk2, hd, hs, hi, reg, V6] <;> omega
def bareI (x : Ins) : Ins := ⟨x.op, if Uo x.op then x.d else 0, if Un x.op then x.s else 0, if hasI x.op then x.imm else 0⟩
theorem O5 (x : Ins) : RdC Tryd.prog 22 [.v (.agg x.cells)] (.one (.agg (bareI x).cells)) := by
  refine Vo.fn.rd (by simp) (by simp [Yv, S1.bd, At.bd, Ins.cells]) (by simp [SV.bd, Vc.S1.bd, At.bd, Ins.cells]) fun w => ?_
  repeat' (first | ((first | (with_reducible first | refine T.regs ?_ | refine T.cond ?_ | refine T.reg ?_ | refine T.ret ?_ | refine T.exit ?_ | refine T.skip ?_) | ((with_reducible first | refine T.dregs ?_ ?_ | refine T.dreg ?_ ?_ | refine T.dregts ?_ ?_ | refine T.dregt ?_ ?_ | refine T.danys ?_ ?_ | refine T.dany ?_ ?_); exact mix) | ((with_reducible first | apply Z2.rd (Hi _) | apply Ye.rd (Hi _)); (focus ((repeat' (first | exact rfl | exact trivial | refine And.intro ?_ ?_ | (simp [SV.bd, Vc.S1.bd, At.bd, Zq, Yv, Ins.cells, Ln.cells]; done))); done))) | ((with_reducible first | apply Z2.rd (Hf _) | apply Ye.rd (Hf _)); (focus ((repeat' (first | exact rfl | exact trivial | refine And.intro ?_ ?_ | (simp [SV.bd, Vc.S1.bd, At.bd, Zq, Yv, Ins.cells, Ln.cells]; done))); done))) | ((with_reducible first | apply Z2.rd (Ov _) | apply Ye.rd (Ov _)); (focus ((repeat' (first | exact rfl | exact trivial | refine And.intro ?_ ?_ | (simp [SV.bd, Vc.S1.bd, At.bd, Zq, Yv, Ins.cells, Ln.cells]; done))); done)))); simp only [Yf, Zz, Z1, Vc.exK, Zm, Zj, Zg, Zh, Zx, Xn, Y1, Z0, Zl, Zi, Zy, Zk, Zn, Xk, Z7, Xj, Vc.ev, Vc.st, Vc.stq, Vc.gst, Xh, St.rd, St.get, St.put, St.find, Zd, St.new, Vc.gdc, Zs, Yr, Yo, Yq, Xg, Zv, Zt, Yj, Yi, Vc.S1.cells, Vc.upd, Vc.del, Zf, Vc.noV, Kd.enc, Kd.dec, Ins.cells, Ln.cells, Z5, Yc, Yn, Ya, Y0, Vc.rvs, Y6, Zc, Y4, Yx, Y3, Y5, Y9, Xa, Yk, Xe, Z8, Zw, Zb, Zu, Vc.kdL, Xm, Yz, Xf, Zq, SV.bd, Vc.S1.bd, At.bd, Value.oneCell', Int.reduceEq, Int.reduceNeg, Int.reduceLE, Int.reduceLT, Vc.lenOf, Yl, Xc, Z4, Vc.atK, Z6, Vc.unK, Vc.wfK, Yh, Yd, Yg, Zp, Yb, Z9, Zr, Ys, Vc.sg, Yw, Y2, Y7, Y8, Z3, Res.own, At.sub, Vc.S1.sub, SV.sub, Res.sub, Xi, Xo, Yt, Yp, Ym, Vc.frS, Kd.sz, Nat.reduceSub, ↓reduceIte, reduceCtorEq, Nat.reduceEqDiff, Nat.reduceAdd, Nat.reduceMul, Nat.reduceLeDiff, Nat.reduceLT, Nat.reduceBEq, Nat.reduceBNe, implies_true, Xp, Vo.rs, Vo.res]) | (with_reducible first | refine T.seq ?_ | refine T.block ?_ | assumption | refine And.intro ?_ ?_) | (intro h; first | (exfalso; omega) | exact (tf h ‹_›).elim | exact (tf ‹_› h).elim | skip))
  all_goals simp_all [bareI]
end Go.Proofs.YtccjjcdjgibilaaDoor
