/-
  A part of the proofs of this seat's laws: a step on the way. It has no conditions of its own.
-/
import Derived.Test.YtibkcfpcfbodaaaLinkF
import Derived.Test.YtibkcfpcfbodaaaAsmE
import Derived.Test.YtibkcfpcfbodaaaRefS
namespace Go.Proofs.Ytibkcfpcfbodaaa
open Go.RowKit Vc
set_option linter.unusedVariables false
set_option linter.unusedSimpArgs false
attribute [local irreducible] T Yi X9 Ent RdC RwC Tw Yu Xv
def M1 : X5 := [([], [⟨[98], ⟨0, 0, 0, 0⟩, []⟩, ⟨[], ⟨27, 0, 0, 0⟩, []⟩]), ([], [⟨[97], ⟨0, 0, 0, 0⟩, []⟩, ⟨[], ⟨26, 0, 0, 0⟩, [98]⟩])]
theorem K2 : ∃ a b c d, Wm M1 [97] = (([a, 2, b], [1, 0], [c, d]), 0, 0) := ⟨_, _, _, _, by rfl⟩
set_option maxHeartbeats 4000000 in
theorem Uq : RdC Try.prog 11 [] (.one (.a (.bool true))) := by
  refine Vt.fn.rd (by simp) (by repeat' (first | exact rfl | exact trivial | refine And.intro ?_ ?_ | (simp [SV.bd, S1.bd, At.bd, Zq, Yy, Ins.cells, Ln.cells]; done))) (by simp [SV.bd, S1.bd, At.bd]) fun w => ?_
  have hL := Oh M1 [97] ⟨by decide, by decide⟩ (by decide)
  obtain ⟨a, b, c, d, e⟩ := K2
  obtain ⟨e1, e2⟩ := Mn (r := Wm M1 [97]) (by rw [e])
  rw [e1, e2, e] at hL
  unfold M1 at hL
  repeat' (first | ((first | (with_reducible first | refine T.regs ?_ | refine T.cond ?_ | refine T.reg ?_ | refine T.ret ?_ | refine T.exit ?_ | refine T.skip ?_) | ((with_reducible first | refine T.dregs ?_ ?_ | refine T.dreg ?_ ?_ | refine T.dregts ?_ ?_ | refine T.dregt ?_ ?_ | refine T.danys ?_ ?_ | refine T.dany ?_ ?_); exact mix) | ((with_reducible refine Yi.gc (hL) ?_ ?_); (focus ((simp [W5, Ua, Vc.mtR, Vc.roA, Vc.roM, V9, Uc, V6, Ub, V0, Vc.fnM, Yb, St.find, Zf, Vc.del, Ya, Res.own, Vc.sg, Yf, Yc, Ye, Z0, Yd, Z1, At.sub, S1.sub, Res.sub, Kd.enc, Ins.cells, Ln.cells, Value.oneCell', Wi, List.nodup_cons]))))); simp only [Z9, Zz, Zy, Vc.exK, Zj, Zo, Zh, Zi, Zv, Xo, Y2, Zw, Zl, Zk, Zx, Zm, Zn, Xl, Z4, Xk, Vc.ev, Vc.st, Vc.stq, Vc.gst, Xh, St.rd, St.get, St.put, St.find, Zf, St.new, Vc.gdc, Zp, Yr, Yt, Yq, Xg, Zt, Zr, Yj, Yg, S1.cells, Vc.upd, Vc.del, Zg, Vc.noV, Kd.enc, Kd.dec, Ins.cells, Ln.cells, Yb, Z7, Ym, Z8, Y3, Vc.rvs, Y9, Ze, Y7, Y0, Y5, Y6, Y8, Xa, Yk, Xe, Z5, Zu, Zc, Zs, Y1, Xf, Zq, SV.bd, S1.bd, At.bd, Value.oneCell', Int.reduceEq, Int.reduceNeg, Int.reduceLE, Int.reduceLT, Vc.lenOf, Yn, Xc, Z2, Vc.atK, Z3, Vc.unK, Vc.wfK, Yf, Yc, Ye, Z0, Z6, Yd, Z1, Yp, Vc.sg, Yz, Y4, Xd, Xb, Ya, Res.own, At.sub, S1.sub, SV.sub, Res.sub, Xm, Xn, Ys, Yo, Yl, Vc.frS, Kd.sz, Nat.reduceSub, ↓reduceIte, reduceCtorEq, Nat.reduceEqDiff, Nat.reduceAdd, Nat.reduceMul, Nat.reduceLeDiff, Nat.reduceLT, Nat.reduceBEq, Nat.reduceBNe, implies_true, Xp, Vt.rs, Vt.res]) | (with_reducible first | refine T.seq ?_ | refine T.block ?_ | assumption | refine And.intro ?_ ?_) | (intro h; first | (exfalso; omega) | exact (tf h ‹_›).elim | exact (tf ‹_› h).elim | skip))
  all_goals first | omega | rfl | skip
end Go.Proofs.Ytibkcfpcfbodaaa
