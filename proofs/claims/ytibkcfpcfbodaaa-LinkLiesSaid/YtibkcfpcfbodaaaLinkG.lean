/-
  A part of the proofs of this seat's laws: a step on the way. It has no conditions of its own.
-/
import Derived.Test.YtibkcfpcfbodaaaLinkF
import Derived.Test.YtibkcfpcfbodaaaAsmE
import Derived.Test.YtibkcfpcfbodaaaRefS
namespace Go.Proofs.Ytibkcfpcfbodaaa
open Go.RowKit Vc
set_option linter.unusedVariables false
set_option linter.unusedSimpArgs false
attribute [local irreducible] T Z9 Wm Ent RdC RwC Sb Yc Wg
def Mr : X3 := [([], [⟨[98], ⟨0, 0, 0, 0⟩, []⟩, ⟨[], ⟨27, 0, 0, 0⟩, []⟩]), ([], [⟨[97], ⟨0, 0, 0, 0⟩, []⟩, ⟨[], ⟨26, 0, 0, 0⟩, [98]⟩])]
theorem K2 : ∃ a b c d, Wt Mr [97] = (([a, 2, b], [1, 0], [c, d]), 0, 0) := ⟨_, _, _, _, by rfl⟩
set_option maxHeartbeats 4000000 in
theorem W5 : RdC Try.prog 11 [] (.one (.a (.bool true))) := by
  refine Vo.fn.rd (by simp) (by repeat' (first | exact rfl | exact trivial | refine And.intro ?_ ?_ | (simp [SV.bd, Vc.S1.bd, At.bd, Zo, Yx, Ins.cells, Ln.cells]; done))) (by simp [SV.bd, S1.bd, At.bd]) fun w => ?_
  have hL := Og Mr [97] ⟨by decide, by decide⟩ (by decide)
  obtain ⟨a, b, c, d, e⟩ := K2
  obtain ⟨e1, e2⟩ := Lw (r := Wt Mr [97]) (by rw [e])
  rw [e1, e2, e] at hL
  unfold Mr at hL
  repeat' (first | ((first | (with_reducible first | refine T.regs ?_ | refine T.cond ?_ | refine T.reg ?_ | refine T.ret ?_ | refine T.exit ?_ | refine T.skip ?_) | ((with_reducible first | refine T.dregs ?_ ?_ | refine T.dreg ?_ ?_ | refine T.dregts ?_ ?_ | refine T.dregt ?_ ?_ | refine T.danys ?_ ?_ | refine T.dany ?_ ?_); exact mix) | ((with_reducible refine Z9.gc (hL) ?_ ?_); (focus ((simp [So, Qg, Vc.mtR, Vc.roA, Vc.roM, Qd, Qb, Rs, Qh, Rb, Vc.fnM, Yb, St.find, Ze, Vc.del, Ya, Res.own, Vc.sg, Yk, Yg, Yi, Zz, Yh, Z0, At.sub, Vc.S1.sub, Res.sub, Kd.enc, Ins.cells, Ln.cells, Value.oneCell', W3, List.nodup_cons]))))); simp only [Z8, Zx, Zy, Vc.exK, Zl, Zn, Zg, Zh, Zu, Xo, Y5, Zw, Zm, Zi, Zv, Zk, Zj, Xn, Z3, Xm, Vc.ev, Vc.st, Vc.stq, Vc.gst, Xj, St.rd, St.get, St.put, St.find, Ze, St.new, Vc.gdc, Zp, Yw, Yr, Yv, Xk, Zs, Zq, Yl, Yf, Vc.S1.cells, Vc.upd, Vc.del, Zf, Vc.noV, Kd.enc, Kd.dec, Ins.cells, Ln.cells, Yb, Z7, Yo, Z5, Y7, Vc.rvs, Xb, Zd, Xa, Y3, Y6, Y9, Xc, Xd, Ym, Xi, Z4, Zt, Zc, Zr, Y4, Xh, Zo, SV.bd, Vc.S1.bd, At.bd, Value.oneCell', Int.reduceEq, Int.reduceNeg, Int.reduceLE, Int.reduceLT, Vc.lenOf, Yq, Xf, Z1, Vc.atK, Z2, Vc.unK, Vc.wfK, Yk, Yg, Yi, Zz, Z6, Yh, Z0, Yu, Vc.sg, Y2, Y8, Xg, Xe, Ya, Res.own, At.sub, Vc.S1.sub, SV.sub, Res.sub, Xl, Xp, Ys, Yt, Yp, Vc.frS, Kd.sz, Nat.reduceSub, ↓reduceIte, reduceCtorEq, Nat.reduceEqDiff, Nat.reduceAdd, Nat.reduceMul, Nat.reduceLeDiff, Nat.reduceLT, Nat.reduceBEq, Nat.reduceBNe, implies_true, Xq, Vo.rs, Vo.res]) | (with_reducible first | refine T.seq ?_ | refine T.block ?_ | assumption | refine And.intro ?_ ?_) | (intro h; first | (exfalso; omega) | exact (tf h ‹_›).elim | exact (tf ‹_› h).elim | skip))
  all_goals first | omega | rfl | skip
end Go.Proofs.Ytibkcfpcfbodaaa
