/-
  A part of the proofs of this seat's laws: a step on the way. It has no conditions of its own.
-/
import Derived.Test.YtibkcfpcfbodaaaLinkF
import Derived.Test.YtibkcfpcfbodaaaAsmE
import Derived.Test.YtibkcfpcfbodaaaRefS
namespace Go.Proofs.Ytibkcfpcfbodaaa
open Go.RowKit Vc
set_option linter.unusedVariables false
set_option linter.unusedSimpArgs false
attribute [local irreducible] T Yi X9 Ent RdC RwC Tw Yu Xv
def M4 : X5 := [([], [⟨[98], ⟨0, 0, 0, 0⟩, []⟩, ⟨[], ⟨27, 0, 0, 0⟩, []⟩]), ([], [⟨[97], ⟨0, 0, 0, 0⟩, []⟩, ⟨[], ⟨26, 0, 0, 0⟩, [98]⟩])]
theorem K0 : ∃ a b c d, Wm M4 [97] = (([a, 2, b], [1, 0], [c, d]), 0, 0) := ⟨_, _, _, _, by rfl⟩
set_option maxHeartbeats 4000000 in
theorem Uq : RdC Try.prog 11 [] (.one (.a (.bool true))) := by
  refine Vs.fn.rd (by simp) (by repeat' (first | exact rfl | exact trivial | refine And.intro ?_ ?_ | (simp [SV.bd, Vc.S1.bd, At.bd, Zq, Yy, Ins.cells, Ln.cells]; done))) (by simp [SV.bd, S1.bd, At.bd]) fun w => ?_
  have hL := Oi M4 [97] ⟨by decide, by decide⟩ (by decide)
  obtain ⟨a, b, c, d, e⟩ := K0
  obtain ⟨e1, e2⟩ := Mc (r := Wm M4 [97]) (by rw [e])
  rw [e1, e2, e] at hL
  unfold M4 at hL
  repeat' (first | ((first | (with_reducible first | refine T.regs ?_ | refine T.cond ?_ | refine T.reg ?_ | refine T.ret ?_ | refine T.exit ?_ | refine T.skip ?_) | ((with_reducible first | refine T.dregs ?_ ?_ | refine T.dreg ?_ ?_ | refine T.dregts ?_ ?_ | refine T.dregt ?_ ?_ | refine T.danys ?_ ?_ | refine T.dany ?_ ?_); exact mix) | ((with_reducible refine Yi.gc (hL) ?_ ?_); (focus ((simp [W5, V9, Vc.mtR, Vc.roA, Vc.roM, Ub, Uc, V6, Ua, Vx, Vc.fnM, Yb, St.find, Zf, Vc.del, Ya, Res.own, Vc.sg, Yf, Yc, Ye, Z0, Yd, Z1, At.sub, Vc.S1.sub, Res.sub, Kd.enc, Ins.cells, Ln.cells, Value.oneCell', Wi, List.nodup_cons]))))); simp only [Z9, Zw, Zz, Vc.exK, Zn, Zm, Zi, Zh, Zv, Xo, Y2, Zy, Zk, Zj, Zx, Zo, Zl, Xm, Z4, Xk, Vc.ev, Vc.st, Vc.stq, Vc.gst, Xh, St.rd, St.get, St.put, St.find, Zf, St.new, Vc.gdc, Zp, Yo, Yr, Yq, Xg, Zt, Zr, Yj, Yg, Vc.S1.cells, Vc.upd, Vc.del, Zg, Vc.noV, Kd.enc, Kd.dec, Ins.cells, Ln.cells, Yb, Z6, Yn, Z7, Y4, Vc.rvs, Xa, Ze, Y6, Y0, Y5, Y7, Y9, Xb, Yk, Xf, Z5, Zu, Zc, Zs, Y1, Xe, Zq, SV.bd, Vc.S1.bd, At.bd, Value.oneCell', Int.reduceEq, Int.reduceNeg, Int.reduceLE, Int.reduceLT, Vc.lenOf, Yl, Xd, Z2, Vc.atK, Z3, Vc.unK, Vc.wfK, Yf, Yc, Ye, Z0, Z8, Yd, Z1, Ys, Vc.sg, Yz, Y3, Xc, Y8, Ya, Res.own, At.sub, Vc.S1.sub, SV.sub, Res.sub, Xi, Xn, Yt, Yp, Ym, Vc.frS, Kd.sz, Nat.reduceSub, ↓reduceIte, reduceCtorEq, Nat.reduceEqDiff, Nat.reduceAdd, Nat.reduceMul, Nat.reduceLeDiff, Nat.reduceLT, Nat.reduceBEq, Nat.reduceBNe, implies_true, Xp, Vs.rs, Vs.res]) | (with_reducible first | refine T.seq ?_ | refine T.block ?_ | assumption | refine And.intro ?_ ?_) | (intro h; first | (exfalso; omega) | exact (tf h ‹_›).elim | exact (tf ‹_› h).elim | skip))
  all_goals first | omega | rfl | skip
end Go.Proofs.Ytibkcfpcfbodaaa
