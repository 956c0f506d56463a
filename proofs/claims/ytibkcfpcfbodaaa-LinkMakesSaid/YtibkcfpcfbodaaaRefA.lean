/-
  A part of the proofs of this seat's laws: what the reference's Fields, Has, Wrong and Bare compute. It has no conditions of its own.
-/
import Derived.Test.YtibkcfpcfbodaaaDecode
namespace Go.Proofs.Ytibkcfpcfbodaaa
open Go.RowKit Vc
set_option linter.unusedVariables false
set_option linter.unusedSimpArgs false
attribute [local irreducible] T Yi X9 Ent RdC RwC Tw Yu Xv
def Rx : List (List UInt8) := [[46], [100, 115], [100, 105], [100, 115, 105], [100, 115, 105], [100, 115], [100, 115], [100, 115], [100, 115], [100, 115], [100, 115], [100, 115], [100, 115], [100, 115], [100], [100], [100], [100], [100], [105], [105], [105], [105], [105], [105], [105], [105], [46], [115], [100], [115], [100], [105]]
def Ug (op : Int) : List UInt8 := if op < 0 ∨ 33 ≤ op then [] else Rx.getD op.toNat []
theorem Rn (n : Int) : RdC Try.prog 46 [.v (.a (.int .i64 n))] (.one (.a (.str (Ug n)))) := by
  refine Ws.fn.rd (by simp) (by repeat' (first | exact rfl | exact trivial | refine And.intro ?_ ?_ | (simp [SV.bd, Vc.S1.bd, At.bd, Zq, Yy, Ins.cells, Ln.cells]; done))) (by repeat' (first | exact rfl | exact trivial | refine And.intro ?_ ?_ | (simp [SV.bd, Vc.S1.bd, At.bd, Zq, Yy, Ins.cells, Ln.cells]; done))) fun w => ?_
  have hlen : Rx.length = 33 := rfl
  refine T.regs ?_
  simp only [Z9, Zw, Zz, Vc.exK, Zn, Zm, Zi, Zh, Zv, Xo, Y2, Zy, Zk, Zj, Zx, Zo, Zl, Xm, Z4, Xk, Vc.ev, Vc.st, Vc.stq, Vc.gst, Xh, St.rd, St.get, St.put, St.find, Zf, St.new, Vc.gdc, Zp, Yo, Yr, Yq, Xg, Zt, Zr, Yj, Yg, Vc.S1.cells, Vc.upd, Vc.del, Zg, Vc.noV, Kd.enc, Kd.dec, Ins.cells, Ln.cells, Yb, Z6, Yn, Z7, Y4, Vc.rvs, Xa, Ze, Y6, Y0, Y5, Y7, Y9, Xb, Yk, Xf, Z5, Zu, Zc, Zs, Y1, Xe, Zq, SV.bd, Vc.S1.bd, At.bd, Value.oneCell', Int.reduceEq, Int.reduceNeg, Int.reduceLE, Int.reduceLT, Vc.lenOf, Yl, Xd, Z2, Vc.atK, Z3, Vc.unK, Vc.wfK, Yf, Yc, Ye, Z0, Z8, Yd, Z1, Ys, Vc.sg, Yz, Y3, Xc, Y8, Ya, Res.own, At.sub, Vc.S1.sub, SV.sub, Res.sub, Xi, Xn, Yt, Yp, Ym, Vc.frS, Kd.sz, Nat.reduceSub, ↓reduceIte, reduceCtorEq, Nat.reduceEqDiff, Nat.reduceAdd, Nat.reduceMul, Nat.reduceLeDiff, Nat.reduceLT, Nat.reduceBEq, Nat.reduceBNe, implies_true, Xp, Ws.r0]
  refine T.regs ?_
  simp only [Z9, Zw, Zz, Vc.exK, Zn, Zm, Zi, Zh, Zv, Xo, Y2, Zy, Zk, Zj, Zx, Zo, Zl, Xm, Z4, Xk, Vc.ev, Vc.st, Vc.stq, Vc.gst, Xh, St.rd, St.get, St.put, St.find, Zf, St.new, Vc.gdc, Zp, Yo, Yr, Yq, Xg, Zt, Zr, Yj, Yg, Vc.S1.cells, Vc.upd, Vc.del, Zg, Vc.noV, Kd.enc, Kd.dec, Ins.cells, Ln.cells, Yb, Z6, Yn, Z7, Y4, Vc.rvs, Xa, Ze, Y6, Y0, Y5, Y7, Y9, Xb, Yk, Xf, Z5, Zu, Zc, Zs, Y1, Xe, Zq, SV.bd, Vc.S1.bd, At.bd, Value.oneCell', Int.reduceEq, Int.reduceNeg, Int.reduceLE, Int.reduceLT, Vc.lenOf, Yl, Xd, Z2, Vc.atK, Z3, Vc.unK, Vc.wfK, Yf, Yc, Ye, Z0, Z8, Yd, Z1, Ys, Vc.sg, Yz, Y3, Xc, Y8, Ya, Res.own, At.sub, Vc.S1.sub, SV.sub, Res.sub, Xi, Xn, Yt, Yp, Ym, Vc.frS, Kd.sz, Nat.reduceSub, ↓reduceIte, reduceCtorEq, Nat.reduceEqDiff, Nat.reduceAdd, Nat.reduceMul, Nat.reduceLeDiff, Nat.reduceLT, Nat.reduceBEq, Nat.reduceBNe, implies_true, Xp, Ws.r1]
  refine T.weak (Ent.litRow (m := 0) .str Rx rfl rfl rfl rfl (by decide)) ?_
  simp only [Z9, Zw, Zz, Vc.exK, Zn, Zm, Zi, Zh, Zv, Xo, Y2, Zy, Zk, Zj, Zx, Zo, Zl, Xm, Z4, Xk, Vc.ev, Vc.st, Vc.stq, Vc.gst, Xh, St.rd, St.get, St.put, St.find, Zf, St.new, Vc.gdc, Zp, Yo, Yr, Yq, Xg, Zt, Zr, Yj, Yg, Vc.S1.cells, Vc.upd, Vc.del, Zg, Vc.noV, Kd.enc, Kd.dec, Ins.cells, Ln.cells, Yb, Z6, Yn, Z7, Y4, Vc.rvs, Xa, Ze, Y6, Y0, Y5, Y7, Y9, Xb, Yk, Xf, Z5, Zu, Zc, Zs, Y1, Xe, Zq, SV.bd, Vc.S1.bd, At.bd, Value.oneCell', Int.reduceEq, Int.reduceNeg, Int.reduceLE, Int.reduceLT, Vc.lenOf, Yl, Xd, Z2, Vc.atK, Z3, Vc.unK, Vc.wfK, Yf, Yc, Ye, Z0, Z8, Yd, Z1, Ys, Vc.sg, Yz, Y3, Xc, Y8, Ya, Res.own, At.sub, Vc.S1.sub, SV.sub, Res.sub, Xi, Xn, Yt, Yp, Ym, Vc.frS, Kd.sz, Nat.reduceSub, ↓reduceIte, reduceCtorEq, Nat.reduceEqDiff, Nat.reduceAdd, Nat.reduceMul, Nat.reduceLeDiff, Nat.reduceLT, Nat.reduceBEq, Nat.reduceBNe, implies_true, Xp]
  repeat' (first | ((first | (with_reducible first | refine T.regs ?_ | refine T.cond ?_ | refine T.reg ?_ | refine T.ret ?_ | refine T.exit ?_ | refine T.skip ?_) | ((with_reducible first | refine T.dregs ?_ ?_ | refine T.dreg ?_ ?_ | refine T.dregts ?_ ?_ | refine T.dregt ?_ ?_ | refine T.danys ?_ ?_ | refine T.dany ?_ ?_); exact mix)); simp only [Z9, Zw, Zz, Vc.exK, Zn, Zm, Zi, Zh, Zv, Xo, Y2, Zy, Zk, Zj, Zx, Zo, Zl, Xm, Z4, Xk, Vc.ev, Vc.st, Vc.stq, Vc.gst, Xh, St.rd, St.get, St.put, St.find, Zf, St.new, Vc.gdc, Zp, Yo, Yr, Yq, Xg, Zt, Zr, Yj, Yg, Vc.S1.cells, Vc.upd, Vc.del, Zg, Vc.noV, Kd.enc, Kd.dec, Ins.cells, Ln.cells, Yb, Z6, Yn, Z7, Y4, Vc.rvs, Xa, Ze, Y6, Y0, Y5, Y7, Y9, Xb, Yk, Xf, Z5, Zu, Zc, Zs, Y1, Xe, Zq, SV.bd, Vc.S1.bd, At.bd, Value.oneCell', Int.reduceEq, Int.reduceNeg, Int.reduceLE, Int.reduceLT, Vc.lenOf, Yl, Xd, Z2, Vc.atK, Z3, Vc.unK, Vc.wfK, Yf, Yc, Ye, Z0, Z8, Yd, Z1, Ys, Vc.sg, Yz, Y3, Xc, Y8, Ya, Res.own, At.sub, Vc.S1.sub, SV.sub, Res.sub, Xi, Xn, Yt, Yp, Ym, Vc.frS, Kd.sz, Nat.reduceSub, ↓reduceIte, reduceCtorEq, Nat.reduceEqDiff, Nat.reduceAdd, Nat.reduceMul, Nat.reduceLeDiff, Nat.reduceLT, Nat.reduceBEq, Nat.reduceBNe, implies_true, Xp, Ws.rs, Ws.res, hlen]) | (with_reducible first | refine T.seq ?_ | refine T.block ?_ | assumption | refine And.intro ?_ ?_) | (intro h; first | (exfalso; omega) | exact (tf h ‹_›).elim | exact (tf ‹_› h).elim | skip))
  all_goals first | omega | skip
  · rw [Ug, if_pos (by omega)]
  · rw [Ug, if_neg (by omega)]; rfl
def O5 (op f : Int) : Bool := (Ug op).any fun c => decide (((c.toNat : Nat) : Int) = f)
theorem K5 (op : Int) : (Ug op).length ≤ 3 := by
  unfold Ug
  split
  · simp
  · have : ∀ k : Nat, (Rx.getD k []).length ≤ 3 := by
      intro k
      by_cases hk : k < 33
      · revert k; decide
      · have : Rx.getD k [] = [] := by
          have : Rx.length ≤ k := by simp [Rx]; omega
          simp [List.getD, this]
        rw [this]; simp
    exact this _
theorem Lf (op f : Int) : RdC Try.prog 36 [.v (.a (.int .i64 op)), .v (.a (.int .u8 f))] (.one (.a (.bool (O5 op f)))) := by
  refine Wo.fn.rd (by simp) (by repeat' (first | exact rfl | exact trivial | refine And.intro ?_ ?_ | (simp [SV.bd, Vc.S1.bd, At.bd, Zq, Yy, Ins.cells, Ln.cells]; done))) (by repeat' (first | exact rfl | exact trivial | refine And.intro ?_ ?_ | (simp [SV.bd, Vc.S1.bd, At.bd, Zq, Yy, Ins.cells, Ln.cells]; done))) fun w => ?_
  have hl := K5 op
  unfold O5
  generalize hs : Ug op = s at hl ⊢
  repeat' (first | ((first | (with_reducible first | refine T.regs ?_ | refine T.cond ?_ | refine T.reg ?_ | refine T.ret ?_ | refine T.exit ?_ | refine T.skip ?_) | ((with_reducible first | refine T.dregs ?_ ?_ | refine T.dreg ?_ ?_ | refine T.dregts ?_ ?_ | refine T.dregt ?_ ?_ | refine T.danys ?_ ?_ | refine T.dany ?_ ?_); exact mix) | ((with_reducible first | apply Yi.rd (Rn _) | apply Yu.rd (Rn _)); (focus ((repeat' (first | exact rfl | exact trivial | refine And.intro ?_ ?_ | (simp [SV.bd, Vc.S1.bd, At.bd, Zq, Yy, Ins.cells, Ln.cells]; done))); done)))); simp only [Z9, Zw, Zz, Vc.exK, Zn, Zm, Zi, Zh, Zv, Xo, Y2, Zy, Zk, Zj, Zx, Zo, Zl, Xm, Z4, Xk, Vc.ev, Vc.st, Vc.stq, Vc.gst, Xh, St.rd, St.get, St.put, St.find, Zf, St.new, Vc.gdc, Zp, Yo, Yr, Yq, Xg, Zt, Zr, Yj, Yg, Vc.S1.cells, Vc.upd, Vc.del, Zg, Vc.noV, Kd.enc, Kd.dec, Ins.cells, Ln.cells, Yb, Z6, Yn, Z7, Y4, Vc.rvs, Xa, Ze, Y6, Y0, Y5, Y7, Y9, Xb, Yk, Xf, Z5, Zu, Zc, Zs, Y1, Xe, Zq, SV.bd, Vc.S1.bd, At.bd, Value.oneCell', Int.reduceEq, Int.reduceNeg, Int.reduceLE, Int.reduceLT, Vc.lenOf, Yl, Xd, Z2, Vc.atK, Z3, Vc.unK, Vc.wfK, Yf, Yc, Ye, Z0, Z8, Yd, Z1, Ys, Vc.sg, Yz, Y3, Xc, Y8, Ya, Res.own, At.sub, Vc.S1.sub, SV.sub, Res.sub, Xi, Xn, Yt, Yp, Ym, Vc.frS, Kd.sz, Nat.reduceSub, ↓reduceIte, reduceCtorEq, Nat.reduceEqDiff, Nat.reduceAdd, Nat.reduceMul, Nat.reduceLeDiff, Nat.reduceLT, Nat.reduceBEq, Nat.reduceBNe, implies_true, Xp, Wo.rs, Wo.res, hs, List.length_map]) | (with_reducible first | refine T.seq ?_ | refine T.block ?_ | assumption | refine And.intro ?_ ?_) | (intro h; first | (exfalso; omega) | exact (tf h ‹_›).elim | exact (tf ‹_› h).elim | skip))
  refine T.loop (ι := { k : Nat // k ≤ s.length ∧ (s.take k).any (fun c => decide (((c.toNat : Nat) : Int) = f)) = false })
    (fun x => ⟨[(11, .one (.a (.int .i64 (x.1 : Int)))), (10, .one (.a (.int .i64 s.length))), (9, .one (.a (.ref 0))), (4, .one (.a (.bool false))), (1, .one (.a (.int .u8 f)))],
      [(0, .ro (.int .u8) (s.map fun b => ((b.toNat : Nat) : Int)))], 1⟩)
    (fun x => s.length - x.1) ⟨0, by simp, by simp⟩ (Ent.mk (id) (by simp [Za, Zb, Vc.bnd, St.get, St.find, Zf, SV.ren, Vc.S1.ren, At.ren, Res.ren, SV.bd, Vc.S1.bd, At.bd, Res.bd, Vc.upd, Vc.del, Kd.enc, Value.oneCell']) (by simp [Za, Zb, Vc.bnd, St.get, St.find, Zf, SV.ren, Vc.S1.ren, At.ren, Res.ren, SV.bd, Vc.S1.bd, At.bd, Res.bd, Vc.upd, Vc.del, Kd.enc, Value.oneCell']) (by simp [Za, Zb, Vc.bnd, St.get, St.find, Zf, SV.ren, Vc.S1.ren, At.ren, Res.ren, SV.bd, Vc.S1.bd, At.bd, Res.bd, Vc.upd, Vc.del, Kd.enc, Value.oneCell']) (by simp [Za, Zb, Vc.bnd, St.get, St.find, Zf, SV.ren, Vc.S1.ren, At.ren, Res.ren, SV.bd, Vc.S1.bd, At.bd, Res.bd, Vc.upd, Vc.del, Kd.enc, Value.oneCell'])) ?_
  rintro ⟨k, hk, hrun⟩
  simp only
  have hw : IntKind.i64.wrap ((k : Int) + 1) = ((k + 1 : Nat) : Int) := Wf (by omega)
  by_cases hlt : k < s.length
  · have hget : (s.map fun b => ((b.toNat : Nat) : Int)).getD k (Kd.int .u8).dflt = ((s[k].toNat : Nat) : Int) := by
      simp [List.getD, hlt]
    have htake : s.take (k + 1) = s.take k ++ [s[k]] := by rw [List.take_add_one]; simp [hlt]
    repeat' (first | ((first | (with_reducible first | refine T.regs ?_ | refine T.cond ?_ | refine T.reg ?_ | refine T.ret ?_ | refine T.exit ?_ | refine T.skip ?_) | ((with_reducible first | refine T.dregs ?_ ?_ | refine T.dreg ?_ ?_ | refine T.dregts ?_ ?_ | refine T.dregt ?_ ?_ | refine T.danys ?_ ?_ | refine T.dany ?_ ?_); exact mix)); simp only [Z9, Zw, Zz, Vc.exK, Zn, Zm, Zi, Zh, Zv, Xo, Y2, Zy, Zk, Zj, Zx, Zo, Zl, Xm, Z4, Xk, Vc.ev, Vc.st, Vc.stq, Vc.gst, Xh, St.rd, St.get, St.put, St.find, Zf, St.new, Vc.gdc, Zp, Yo, Yr, Yq, Xg, Zt, Zr, Yj, Yg, Vc.S1.cells, Vc.upd, Vc.del, Zg, Vc.noV, Kd.enc, Kd.dec, Ins.cells, Ln.cells, Yb, Z6, Yn, Z7, Y4, Vc.rvs, Xa, Ze, Y6, Y0, Y5, Y7, Y9, Xb, Yk, Xf, Z5, Zu, Zc, Zs, Y1, Xe, Zq, SV.bd, Vc.S1.bd, At.bd, Value.oneCell', Int.reduceEq, Int.reduceNeg, Int.reduceLE, Int.reduceLT, Vc.lenOf, Yl, Xd, Z2, Vc.atK, Z3, Vc.unK, Vc.wfK, Yf, Yc, Ye, Z0, Z8, Yd, Z1, Ys, Vc.sg, Yz, Y3, Xc, Y8, Ya, Res.own, At.sub, Vc.S1.sub, SV.sub, Res.sub, Xi, Xn, Yt, Yp, Ym, Vc.frS, Kd.sz, Nat.reduceSub, ↓reduceIte, reduceCtorEq, Nat.reduceEqDiff, Nat.reduceAdd, Nat.reduceMul, Nat.reduceLeDiff, Nat.reduceLT, Nat.reduceBEq, Nat.reduceBNe, implies_true, Xp, Wo.rs, Wo.res, hw, hget, Int.toNat_natCast, Int.ofNat_lt, List.length_map]) | (with_reducible first | refine T.seq ?_ | refine T.block ?_ | assumption | refine And.intro ?_ ?_) | (intro h; first | (exfalso; omega) | exact (tf h ‹_›).elim | exact (tf ‹_› h).elim | skip))
    all_goals first | omega | skip
    · have : (s.any fun c => decide (((c.toNat : Nat) : Int) = f)) = true := List.any_eq_true.2 ⟨s[k], List.getElem_mem hlt, by simpa using ‹((s[k].toNat : Nat) : Int) = f›⟩
      rw [this]
    · exact ⟨⟨k + 1, hlt, by rw [htake, List.any_append, hrun]; simpa using ‹¬((s[k].toNat : Nat) : Int) = f›⟩, (Ent.mk (id) (by simp [Za, Zb, Vc.bnd, St.get, St.find, Zf, SV.ren, Vc.S1.ren, At.ren, Res.ren, SV.bd, Vc.S1.bd, At.bd, Res.bd, Vc.upd, Vc.del, Kd.enc, Value.oneCell']) (by simp [Za, Zb, Vc.bnd, St.get, St.find, Zf, SV.ren, Vc.S1.ren, At.ren, Res.ren, SV.bd, Vc.S1.bd, At.bd, Res.bd, Vc.upd, Vc.del, Kd.enc, Value.oneCell']) (by simp [Za, Zb, Vc.bnd, St.get, St.find, Zf, SV.ren, Vc.S1.ren, At.ren, Res.ren, SV.bd, Vc.S1.bd, At.bd, Res.bd, Vc.upd, Vc.del, Kd.enc, Value.oneCell']) (by simp [Za, Zb, Vc.bnd, St.get, St.find, Zf, SV.ren, Vc.S1.ren, At.ren, Res.ren, SV.bd, Vc.S1.bd, At.bd, Res.bd, Vc.upd, Vc.del, Kd.enc, Value.oneCell'])), by simp only; omega⟩
  · have hk2 : k = s.length := by omega
    rw [hk2, List.take_length] at hrun
    repeat' (first | ((first | (with_reducible first | refine T.regs ?_ | refine T.cond ?_ | refine T.reg ?_ | refine T.ret ?_ | refine T.exit ?_ | refine T.skip ?_) | ((with_reducible first | refine T.dregs ?_ ?_ | refine T.dreg ?_ ?_ | refine T.dregts ?_ ?_ | refine T.dregt ?_ ?_ | refine T.danys ?_ ?_ | refine T.dany ?_ ?_); exact mix)); simp only [Z9, Zw, Zz, Vc.exK, Zn, Zm, Zi, Zh, Zv, Xo, Y2, Zy, Zk, Zj, Zx, Zo, Zl, Xm, Z4, Xk, Vc.ev, Vc.st, Vc.stq, Vc.gst, Xh, St.rd, St.get, St.put, St.find, Zf, St.new, Vc.gdc, Zp, Yo, Yr, Yq, Xg, Zt, Zr, Yj, Yg, Vc.S1.cells, Vc.upd, Vc.del, Zg, Vc.noV, Kd.enc, Kd.dec, Ins.cells, Ln.cells, Yb, Z6, Yn, Z7, Y4, Vc.rvs, Xa, Ze, Y6, Y0, Y5, Y7, Y9, Xb, Yk, Xf, Z5, Zu, Zc, Zs, Y1, Xe, Zq, SV.bd, Vc.S1.bd, At.bd, Value.oneCell', Int.reduceEq, Int.reduceNeg, Int.reduceLE, Int.reduceLT, Vc.lenOf, Yl, Xd, Z2, Vc.atK, Z3, Vc.unK, Vc.wfK, Yf, Yc, Ye, Z0, Z8, Yd, Z1, Ys, Vc.sg, Yz, Y3, Xc, Y8, Ya, Res.own, At.sub, Vc.S1.sub, SV.sub, Res.sub, Xi, Xn, Yt, Yp, Ym, Vc.frS, Kd.sz, Nat.reduceSub, ↓reduceIte, reduceCtorEq, Nat.reduceEqDiff, Nat.reduceAdd, Nat.reduceMul, Nat.reduceLeDiff, Nat.reduceLT, Nat.reduceBEq, Nat.reduceBNe, implies_true, Xp, Wo.rs, Wo.res, hw, hrun, Int.toNat_natCast, Int.ofNat_lt]) | (with_reducible first | refine T.seq ?_ | refine T.block ?_ | assumption | refine And.intro ?_ ?_) | (intro h; first | (exfalso; omega) | exact (tf h ‹_›).elim | exact (tf ‹_› h).elim | skip))
    all_goals first | omega | skip
theorem Ju (P : Int → Prop) (h1 : ∀ k : Nat, k < 33 → P k) (h2 : ∀ n : Int, n < 0 ∨ 33 ≤ n → P n) (n : Int) : P n := by
  by_cases h : n < 0 ∨ 33 ≤ n
  · exact h2 n h
  · obtain ⟨k, rfl⟩ := Int.eq_ofNat_of_zero_le (show 0 ≤ n by omega)
    exact h1 k (by omega)
theorem hasF_d (n : Int) : O5 n 100 = Sa n := by
  refine Ju (fun n => O5 n 100 = Sa n) (by decide +kernel) (fun n h => ?_) n
  simp only [O5, Ug, if_pos h, List.any_nil, Sa]
  symm; simp only [decide_eq_false_iff_not]; omega
theorem hasF_s (n : Int) : O5 n 115 = T9 n := by
  refine Ju (fun n => O5 n 115 = T9 n) (by decide +kernel) (fun n h => ?_) n
  simp only [O5, Ug, if_pos h, List.any_nil, T9]
  symm; simp only [decide_eq_false_iff_not]; omega
theorem hasF_i (n : Int) : O5 n 105 = hasI n := by
  refine Ju (fun n => O5 n 105 = hasI n) (by decide +kernel) (fun n h => ?_) n
  simp only [O5, Ug, if_pos h, List.any_nil, hasI]
  symm; simp only [decide_eq_false_iff_not]; omega
theorem Ld (n : Int) : decide (Ug n = []) = !V2 n := by
  refine Ju (fun n => decide (Ug n = []) = !V2 n) (by decide +kernel) (fun n h => ?_) n
  simp only [Ug, if_pos h, V2]
  simp; omega
theorem HasD (n : Int) : RdC Try.prog 36 [.v (.a (.int .i64 n)), .v (.a (.int .u8 100))] (.one (.a (.bool (Sa n)))) := hasF_d n ▸ Lf n 100
theorem HasS (n : Int) : RdC Try.prog 36 [.v (.a (.int .i64 n)), .v (.a (.int .u8 115))] (.one (.a (.bool (T9 n)))) := hasF_s n ▸ Lf n 115
theorem Nx (n : Int) : RdC Try.prog 36 [.v (.a (.int .i64 n)), .v (.a (.int .u8 105))] (.one (.a (.bool (hasI n)))) := hasF_i n ▸ Lf n 105
set_option maxHeartbeats 1000000 in
theorem U1 (x : Ins) : RdC Try.prog 43 [.v (.agg x.cells)] (.one (.a (.int .i64 (We x)))) := by
  refine Vt.fn.rd (by simp) (by simp [Yy, S1.bd, At.bd, Ins.cells]) (by repeat' (first | exact rfl | exact trivial | refine And.intro ?_ ?_ | (simp [SV.bd, Vc.S1.bd, At.bd, Zq, Yy, Ins.cells, Ln.cells]; done))) fun w => ?_
  have hk := Ld x.op
  repeat' (first | ((first | (with_reducible first | refine T.regs ?_ | refine T.cond ?_ | refine T.reg ?_ | refine T.ret ?_ | refine T.exit ?_ | refine T.skip ?_) | ((with_reducible first | refine T.dregs ?_ ?_ | refine T.dreg ?_ ?_ | refine T.dregts ?_ ?_ | refine T.dregt ?_ ?_ | refine T.danys ?_ ?_ | refine T.dany ?_ ?_); exact mix) | ((with_reducible first | apply Yi.rd (Rn _) | apply Yu.rd (Rn _)); (focus ((repeat' (first | exact rfl | exact trivial | refine And.intro ?_ ?_ | (simp [SV.bd, Vc.S1.bd, At.bd, Zq, Yy, Ins.cells, Ln.cells]; done))); done))) | ((with_reducible first | apply Yi.rd (HasD _) | apply Yu.rd (HasD _)); (focus ((repeat' (first | exact rfl | exact trivial | refine And.intro ?_ ?_ | (simp [SV.bd, Vc.S1.bd, At.bd, Zq, Yy, Ins.cells, Ln.cells]; done))); done))) | ((with_reducible first | apply Yi.rd (HasS _) | apply Yu.rd (HasS _)); (focus ((repeat' (first | exact rfl | exact trivial | refine And.intro ?_ ?_ | (simp [SV.bd, Vc.S1.bd, At.bd, Zq, Yy, Ins.cells, Ln.cells]; done))); done))) | ((with_reducible first | apply Yi.rd (Nx _) | apply Yu.rd (Nx _)); (focus ((repeat' (first | exact rfl | exact trivial | refine And.intro ?_ ?_ | (simp [SV.bd, Vc.S1.bd, At.bd, Zq, Yy, Ins.cells, Ln.cells]; done))); done)))); simp only [Z9, Zw, Zz, Vc.exK, Zn, Zm, Zi, Zh, Zv, Xo, Y2, Zy, Zk, Zj, Zx, Zo, Zl, Xm, Z4, Xk, Vc.ev, Vc.st, Vc.stq, Vc.gst, Xh, St.rd, St.get, St.put, St.find, Zf, St.new, Vc.gdc, Zp, Yo, Yr, Yq, Xg, Zt, Zr, Yj, Yg, Vc.S1.cells, Vc.upd, Vc.del, Zg, Vc.noV, Kd.enc, Kd.dec, Ins.cells, Ln.cells, Yb, Z6, Yn, Z7, Y4, Vc.rvs, Xa, Ze, Y6, Y0, Y5, Y7, Y9, Xb, Yk, Xf, Z5, Zu, Zc, Zs, Y1, Xe, Zq, SV.bd, Vc.S1.bd, At.bd, Value.oneCell', Int.reduceEq, Int.reduceNeg, Int.reduceLE, Int.reduceLT, Vc.lenOf, Yl, Xd, Z2, Vc.atK, Z3, Vc.unK, Vc.wfK, Yf, Yc, Ye, Z0, Z8, Yd, Z1, Ys, Vc.sg, Yz, Y3, Xc, Y8, Ya, Res.own, At.sub, Vc.S1.sub, SV.sub, Res.sub, Xi, Xn, Yt, Yp, Ym, Vc.frS, Kd.sz, Nat.reduceSub, ↓reduceIte, reduceCtorEq, Nat.reduceEqDiff, Nat.reduceAdd, Nat.reduceMul, Nat.reduceLeDiff, Nat.reduceLT, Nat.reduceBEq, Nat.reduceBNe, implies_true, Xp, Vt.rs, Vt.res]) | (with_reducible first | refine T.seq ?_ | refine T.block ?_ | assumption | refine And.intro ?_ ?_) | (intro h; first | (exfalso; omega) | exact (tf h ‹_›).elim | exact (tf ‹_› h).elim | skip))
  · have : V2 x.op = false := by simpa [‹Ug x.op = []›] using hk
    simp [We, this]
  all_goals
    have hk2 : V2 x.op = true := by simpa [‹¬Ug x.op = []›] using hk
    cases hd : Sa x.op <;> cases hs : T9 x.op <;> cases hi : hasI x.op <;> simp [hd, hs, hi] at h <;> simp [We, hk2, hd, hs, hi, reg, Ue] <;> omega
def Vb (x : Ins) : Ins := ⟨x.op, if Sa x.op then x.d else 0, if T9 x.op then x.s else 0, if hasI x.op then x.imm else 0⟩
theorem Lr (x : Ins) : RdC Try.prog 44 [.v (.agg x.cells)] (.one (.agg (Vb x).cells)) := by
  refine Vv.fn.rd (by simp) (by simp [Yy, S1.bd, At.bd, Ins.cells]) (by simp [SV.bd, Vc.S1.bd, At.bd, Ins.cells]) fun w => ?_
  repeat' (first | ((first | (with_reducible first | refine T.regs ?_ | refine T.cond ?_ | refine T.reg ?_ | refine T.ret ?_ | refine T.exit ?_ | refine T.skip ?_) | ((with_reducible first | refine T.dregs ?_ ?_ | refine T.dreg ?_ ?_ | refine T.dregts ?_ ?_ | refine T.dregt ?_ ?_ | refine T.danys ?_ ?_ | refine T.dany ?_ ?_); exact mix) | ((with_reducible first | apply Yi.rd (HasD _) | apply Yu.rd (HasD _)); (focus ((repeat' (first | exact rfl | exact trivial | refine And.intro ?_ ?_ | (simp [SV.bd, Vc.S1.bd, At.bd, Zq, Yy, Ins.cells, Ln.cells]; done))); done))) | ((with_reducible first | apply Yi.rd (HasS _) | apply Yu.rd (HasS _)); (focus ((repeat' (first | exact rfl | exact trivial | refine And.intro ?_ ?_ | (simp [SV.bd, Vc.S1.bd, At.bd, Zq, Yy, Ins.cells, Ln.cells]; done))); done))) | ((with_reducible first | apply Yi.rd (Nx _) | apply Yu.rd (Nx _)); (focus ((repeat' (first | exact rfl | exact trivial | refine And.intro ?_ ?_ | (simp [SV.bd, Vc.S1.bd, At.bd, Zq, Yy, Ins.cells, Ln.cells]; done))); done)))); simp only [Z9, Zw, Zz, Vc.exK, Zn, Zm, Zi, Zh, Zv, Xo, Y2, Zy, Zk, Zj, Zx, Zo, Zl, Xm, Z4, Xk, Vc.ev, Vc.st, Vc.stq, Vc.gst, Xh, St.rd, St.get, St.put, St.find, Zf, St.new, Vc.gdc, Zp, Yo, Yr, Yq, Xg, Zt, Zr, Yj, Yg, Vc.S1.cells, Vc.upd, Vc.del, Zg, Vc.noV, Kd.enc, Kd.dec, Ins.cells, Ln.cells, Yb, Z6, Yn, Z7, Y4, Vc.rvs, Xa, Ze, Y6, Y0, Y5, Y7, Y9, Xb, Yk, Xf, Z5, Zu, Zc, Zs, Y1, Xe, Zq, SV.bd, Vc.S1.bd, At.bd, Value.oneCell', Int.reduceEq, Int.reduceNeg, Int.reduceLE, Int.reduceLT, Vc.lenOf, Yl, Xd, Z2, Vc.atK, Z3, Vc.unK, Vc.wfK, Yf, Yc, Ye, Z0, Z8, Yd, Z1, Ys, Vc.sg, Yz, Y3, Xc, Y8, Ya, Res.own, At.sub, Vc.S1.sub, SV.sub, Res.sub, Xi, Xn, Yt, Yp, Ym, Vc.frS, Kd.sz, Nat.reduceSub, ↓reduceIte, reduceCtorEq, Nat.reduceEqDiff, Nat.reduceAdd, Nat.reduceMul, Nat.reduceLeDiff, Nat.reduceLT, Nat.reduceBEq, Nat.reduceBNe, implies_true, Xp, Vv.rs, Vv.res]) | (with_reducible first | refine T.seq ?_ | refine T.block ?_ | assumption | refine And.intro ?_ ?_) | (intro h; first | (exfalso; omega) | exact (tf h ‹_›).elim | exact (tf ‹_› h).elim | skip))
  all_goals simp_all [Vb]
end Go.Proofs.Ytibkcfpcfbodaaa
