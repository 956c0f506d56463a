/-
  A part of the proofs of this seat's laws: a step on the way. It has no conditions of its own.
-/
import Derived.Test.YtibkcfpcfbodaaaLinkSame
import Derived.Test.YtibkcfpcfbodaaaLinkU
namespace Go.Proofs.Ytibkcfpcfbodaaa
open Go.RowKit Vc
set_option linter.unusedVariables false
set_option linter.unusedSimpArgs false
attribute [local irreducible] T Z9 Wm Ent RdC RwC Sb Yc Wg
theorem Jq {l : X3} {g : Own} : ∀ (us : List Int) (at_ : Int) (acc : List Int), (lk2 l g us at_ acc).length ≤ acc.length + 65536 * us.length
  | [], _, acc => by simp [lk2]
  | u :: us, at_, acc => by
    simp only [lk2]
    refine Nat.le_trans (Jq us _ _) ?_
    have := Kf (W7 (T8 g (Y1 (linesOf l u) at_).1) (linesOf l u)).1
    simp only [List.length_append, List.length_cons]
    omega
theorem Q1 : ∀ (l : List Ln) (k : Nat) (at_ : Int) (seen : List (List UInt8)) (acc : List Spot), (W0 l k at_ seen acc).1.length ≤ acc.length + l.length
  | [], _, _, _, acc => by simp [W0]
  | x :: l, k, at_, seen, acc => by
    simp only [W0]
    split
    · simp
    · split
      · split
        · simp
        · have := Q1 l (k + 1) at_ (x.label :: seen) (acc ++ [⟨x.label, at_⟩])
          simp only [List.length_append, List.length_cons, List.length_nil] at this ⊢
          omega
      · split
        · simp
        · have := Q1 l (k + 1) (at_ + Wu x) seen acc
          simp only [List.length_cons]; omega
theorem Jh {l : X3} {own : Own} (hu : ∀ u ∈ l, u.2.length ≤ 40000) : ∀ (f i : Nat) (us : List Int) (at_ : Int) (g : Own) (sps : List Spot), (lk1 l own f i us at_ g sps).1.2.2.length ≤ sps.length + 40000 * f
  | 0, _, _, _, _, _ => by simp [lk1]
  | f + 1, i, us, at_, g, sps => by
    rw [Tj]
    split
    · simp only; omega
    · split
      · simp
      · split
        · simp
        · refine Nat.le_trans (Jh hu f _ _ _ _ _) ?_
          have h1 := Q1 (linesOf l (us.getD i 0)) 0 at_ [] []
          have h2 : (T4 (Y1 (linesOf l (us.getD i 0)) at_).1).length ≤ (Y1 (linesOf l (us.getD i 0)) at_).1.length := List.length_filter_le ..
          have h3 : (linesOf l (us.getD i 0)).length ≤ 40000 := by
            unfold linesOf
            generalize (us.getD i 0).toNat = q
            by_cases hl : q < l.length
            · exact hu _ (by rw [List.getD_eq_getElem?_getD, List.getElem?_eq_getElem hl]; exact List.getElem_mem hl)
            · rw [List.getD_eq_getElem?_getD, List.getElem?_eq_none (by omega)]; simp [Ud]
          unfold Y1 at h2
          simp only [List.length_nil, Nat.zero_add] at h1
          rw [List.length_append]
          unfold Y1
          omega
theorem N7 {l : X3} {entry : List UInt8} (h : (Wt l entry).2.1 = 0) : l.length ≤ 400 ∧ (Wt l entry).1.1.length ≤ 9223372036854775807 ∧ (Wt l entry).1.2.1.length ≤ 9223372036854775807 ∧ (Wt l entry).1.2.2.length ≤ 9223372036854775807 := by
  obtain ⟨hc, first, hf, hz, e⟩ := T2 h
  obtain ⟨hl, hu, ho⟩ := W8 hc
  obtain ⟨_, hr, hn, _⟩ := P5 h
  have hul := T0 _ _ ⟨hn, hr⟩
  rw [e] at hul ⊢
  simp only at hul ⊢
  refine ⟨hl, ?_, by omega, ?_⟩
  · refine Nat.le_trans (Jq _ _ _) ?_
    simp only [List.length_nil]; omega
  · refine Nat.le_trans (Jh (fun u h => (hu u h).1) _ _ _ _ _ _) ?_
    simp
set_option maxHeartbeats 16000000 in
theorem LinkMore_gc (l : X3) (entry nm : List UInt8) (ls : List Ln) (hf : I7 l) (hen : entry.length ≤ 9223372036854775807) (hls : ls.length ≤ 9223372036854775807) :
    GC Try.prog 5 [.a (.ref 0), .a (.str entry), .agg [.str nm, .ref 1]] [(1, .ro .line ls), (0, .rou l)] 2 [] (.one (.a (.bool true))) [] 2 := by
  refine X8.fn.gc (by simp) (by simp [Pt, Pb, Qt, U4, Uj, Vc.S1.okN, At.okN, SV.okN, Res.okN, Res.outOk, Ze, Res.own, Value.oneCell']) fun w X fr => ?_
  have hL := Og l entry hf hen
  by_cases he : (Wt l entry).2.1 = 0
  · obtain ⟨e1, e2⟩ := Lw he
    obtain ⟨hl, m1, m2, m3⟩ := N7 he
    have hL2 := Og (l ++ [(nm, ls)]) entry ⟨by simp; omega, fun u hu => by
      rcases List.mem_append.1 hu with h | h
      · exact hf.2 u h
      · simp only [List.mem_singleton] at h; subst h; exact hls⟩ hen
    by_cases he2 : (Wt (l ++ [(nm, ls)]) entry).2.1 = 0
    · obtain ⟨e3, e4⟩ := Lw he2
      have hlaw := Ip he he2
      rw [e1, e2] at hL
      rw [e3, e4, hlaw] at hL2
      generalize (Wt l entry).1.1 = ws at *
      generalize (Wt l entry).1.2.1 = us at *
      generalize (Wt l entry).1.2.2 = sps at *
      have hS := Lf ws us sps m1 m2 m3
      repeat' (first | ((first | (with_reducible first | refine T.regs ?_ | refine T.cond ?_ | refine T.reg ?_ | refine T.ret ?_ | refine T.exit ?_ | refine T.skip ?_) | ((with_reducible first | refine T.dregs ?_ ?_ | refine T.dreg ?_ ?_ | refine T.dregts ?_ ?_ | refine T.dregt ?_ ?_ | refine T.danys ?_ ?_ | refine T.dany ?_ ?_); exact mix) | ((with_reducible first | apply Z9.rd (W5) | apply Yc.rd (W5)); (focus ((repeat' (first | exact rfl | exact trivial | refine And.intro ?_ ?_ | (simp [SV.bd, Vc.S1.bd, At.bd, Zo, Yx, Ins.cells, Ln.cells]; done))); done))) | ((with_reducible refine Z9.gc (hL) ?_ ?_); (focus ((simp [So, Qg, Vc.mtR, Vc.roA, Vc.roM, Qd, Qb, Rs, Qh, Rb, Vc.fnM, Yb, St.find, Ze, Vc.del, Ya, Res.own, Vc.sg, Yk, Yg, Yi, Zz, Yh, Z0, At.sub, Vc.S1.sub, Res.sub, Kd.enc, Ins.cells, Ln.cells, Value.oneCell', W3, List.nodup_cons]); done))) | ((with_reducible refine Z9.gc (hL2) ?_ ?_); (focus ((simp [So, Qg, Vc.mtR, Vc.roA, Vc.roM, Qd, Qb, Rs, Qh, Rb, Vc.fnM, Yb, St.find, Ze, Vc.del, Ya, Res.own, Vc.sg, Yk, Yg, Yi, Zz, Yh, Z0, At.sub, Vc.S1.sub, Res.sub, Kd.enc, Ins.cells, Ln.cells, Value.oneCell', W3, List.nodup_cons]); done))) | ((with_reducible refine Z9.gc (hS) ?_ ?_); (focus ((simp [So, Qg, Vc.mtR, Vc.roA, Vc.roM, Qd, Qb, Rs, Qh, Rb, Vc.fnM, Yb, St.find, Ze, Vc.del, Ya, Res.own, Vc.sg, Yk, Yg, Yi, Zz, Yh, Z0, At.sub, Vc.S1.sub, Res.sub, Kd.enc, Ins.cells, Ln.cells, Value.oneCell', W3, List.nodup_cons]))))); simp only [Z8, Zx, Zy, Vc.exK, Zl, Zn, Zg, Zh, Zu, Xo, Y5, Zw, Zm, Zi, Zv, Zk, Zj, Xn, Z3, Xm, Vc.ev, Vc.st, Vc.stq, Vc.gst, Xj, St.rd, St.get, St.put, St.find, Ze, St.new, Vc.gdc, Zp, Yw, Yr, Yv, Xk, Zs, Zq, Yl, Yf, Vc.S1.cells, Vc.upd, Vc.del, Zf, Vc.noV, Kd.enc, Kd.dec, Ins.cells, Ln.cells, Yb, Z7, Yo, Z5, Y7, Vc.rvs, Xb, Zd, Xa, Y3, Y6, Y9, Xc, Xd, Ym, Xi, Z4, Zt, Zc, Zr, Y4, Xh, Zo, SV.bd, Vc.S1.bd, At.bd, Value.oneCell', Int.reduceEq, Int.reduceNeg, Int.reduceLE, Int.reduceLT, Vc.lenOf, Yq, Xf, Z1, Vc.atK, Z2, Vc.unK, Vc.wfK, Yk, Yg, Yi, Zz, Z6, Yh, Z0, Yu, Vc.sg, Y2, Y8, Xg, Xe, Ya, Res.own, At.sub, Vc.S1.sub, SV.sub, Res.sub, Xl, Xp, Ys, Yt, Yp, Vc.frS, Kd.sz, Nat.reduceSub, ↓reduceIte, reduceCtorEq, Nat.reduceEqDiff, Nat.reduceAdd, Nat.reduceMul, Nat.reduceLeDiff, Nat.reduceLT, Nat.reduceBEq, Nat.reduceBNe, implies_true, Xq, X8.rs, X8.res]) | (with_reducible first | refine T.seq ?_ | refine T.block ?_ | assumption | refine And.intro ?_ ?_) | (intro h; first | (exfalso; omega) | exact (tf h ‹_›).elim | exact (tf ‹_› h).elim | skip))
      all_goals first | omega | skip
    · obtain ⟨e3, e4⟩ := Md he2
      rw [e1, e2] at hL
      rw [e3, e4] at hL2
      generalize (Wt l entry).1.1 = ws at *
      generalize (Wt l entry).1.2.1 = us at *
      generalize (Wt l entry).1.2.2 = sps at *
      repeat' (first | ((first | (with_reducible first | refine T.regs ?_ | refine T.cond ?_ | refine T.reg ?_ | refine T.ret ?_ | refine T.exit ?_ | refine T.skip ?_) | ((with_reducible first | refine T.dregs ?_ ?_ | refine T.dreg ?_ ?_ | refine T.dregts ?_ ?_ | refine T.dregt ?_ ?_ | refine T.danys ?_ ?_ | refine T.dany ?_ ?_); exact mix) | ((with_reducible first | apply Z9.rd (W5) | apply Yc.rd (W5)); (focus ((repeat' (first | exact rfl | exact trivial | refine And.intro ?_ ?_ | (simp [SV.bd, Vc.S1.bd, At.bd, Zo, Yx, Ins.cells, Ln.cells]; done))); done))) | ((with_reducible refine Z9.gc (hL) ?_ ?_); (focus ((simp [So, Qg, Vc.mtR, Vc.roA, Vc.roM, Qd, Qb, Rs, Qh, Rb, Vc.fnM, Yb, St.find, Ze, Vc.del, Ya, Res.own, Vc.sg, Yk, Yg, Yi, Zz, Yh, Z0, At.sub, Vc.S1.sub, Res.sub, Kd.enc, Ins.cells, Ln.cells, Value.oneCell', W3, List.nodup_cons]); done))) | ((with_reducible refine Z9.gc (hL2) ?_ ?_); (focus ((simp [So, Qg, Vc.mtR, Vc.roA, Vc.roM, Qd, Qb, Rs, Qh, Rb, Vc.fnM, Yb, St.find, Ze, Vc.del, Ya, Res.own, Vc.sg, Yk, Yg, Yi, Zz, Yh, Z0, At.sub, Vc.S1.sub, Res.sub, Kd.enc, Ins.cells, Ln.cells, Value.oneCell', W3, List.nodup_cons]); done)))); simp only [Z8, Zx, Zy, Vc.exK, Zl, Zn, Zg, Zh, Zu, Xo, Y5, Zw, Zm, Zi, Zv, Zk, Zj, Xn, Z3, Xm, Vc.ev, Vc.st, Vc.stq, Vc.gst, Xj, St.rd, St.get, St.put, St.find, Ze, St.new, Vc.gdc, Zp, Yw, Yr, Yv, Xk, Zs, Zq, Yl, Yf, Vc.S1.cells, Vc.upd, Vc.del, Zf, Vc.noV, Kd.enc, Kd.dec, Ins.cells, Ln.cells, Yb, Z7, Yo, Z5, Y7, Vc.rvs, Xb, Zd, Xa, Y3, Y6, Y9, Xc, Xd, Ym, Xi, Z4, Zt, Zc, Zr, Y4, Xh, Zo, SV.bd, Vc.S1.bd, At.bd, Value.oneCell', Int.reduceEq, Int.reduceNeg, Int.reduceLE, Int.reduceLT, Vc.lenOf, Yq, Xf, Z1, Vc.atK, Z2, Vc.unK, Vc.wfK, Yk, Yg, Yi, Zz, Z6, Yh, Z0, Yu, Vc.sg, Y2, Y8, Xg, Xe, Ya, Res.own, At.sub, Vc.S1.sub, SV.sub, Res.sub, Xl, Xp, Ys, Yt, Yp, Vc.frS, Kd.sz, Nat.reduceSub, ↓reduceIte, reduceCtorEq, Nat.reduceEqDiff, Nat.reduceAdd, Nat.reduceMul, Nat.reduceLeDiff, Nat.reduceLT, Nat.reduceBEq, Nat.reduceBNe, implies_true, Xq, X8.rs, X8.res, he2]) | (with_reducible first | refine T.seq ?_ | refine T.block ?_ | assumption | refine And.intro ?_ ?_) | (intro h; first | (exfalso; omega) | exact (tf h ‹_›).elim | exact (tf ‹_› h).elim | skip))
      all_goals first | omega | skip
  · obtain ⟨e1, e2⟩ := Md he
    rw [e1, e2] at hL
    repeat' (first | ((first | (with_reducible first | refine T.regs ?_ | refine T.cond ?_ | refine T.reg ?_ | refine T.ret ?_ | refine T.exit ?_ | refine T.skip ?_) | ((with_reducible first | refine T.dregs ?_ ?_ | refine T.dreg ?_ ?_ | refine T.dregts ?_ ?_ | refine T.dregt ?_ ?_ | refine T.danys ?_ ?_ | refine T.dany ?_ ?_); exact mix) | ((with_reducible first | apply Z9.rd (W5) | apply Yc.rd (W5)); (focus ((repeat' (first | exact rfl | exact trivial | refine And.intro ?_ ?_ | (simp [SV.bd, Vc.S1.bd, At.bd, Zo, Yx, Ins.cells, Ln.cells]; done))); done))) | ((with_reducible refine Z9.gc (hL) ?_ ?_); (focus ((simp [So, Qg, Vc.mtR, Vc.roA, Vc.roM, Qd, Qb, Rs, Qh, Rb, Vc.fnM, Yb, St.find, Ze, Vc.del, Ya, Res.own, Vc.sg, Yk, Yg, Yi, Zz, Yh, Z0, At.sub, Vc.S1.sub, Res.sub, Kd.enc, Ins.cells, Ln.cells, Value.oneCell', W3, List.nodup_cons]))))); simp only [Z8, Zx, Zy, Vc.exK, Zl, Zn, Zg, Zh, Zu, Xo, Y5, Zw, Zm, Zi, Zv, Zk, Zj, Xn, Z3, Xm, Vc.ev, Vc.st, Vc.stq, Vc.gst, Xj, St.rd, St.get, St.put, St.find, Ze, St.new, Vc.gdc, Zp, Yw, Yr, Yv, Xk, Zs, Zq, Yl, Yf, Vc.S1.cells, Vc.upd, Vc.del, Zf, Vc.noV, Kd.enc, Kd.dec, Ins.cells, Ln.cells, Yb, Z7, Yo, Z5, Y7, Vc.rvs, Xb, Zd, Xa, Y3, Y6, Y9, Xc, Xd, Ym, Xi, Z4, Zt, Zc, Zr, Y4, Xh, Zo, SV.bd, Vc.S1.bd, At.bd, Value.oneCell', Int.reduceEq, Int.reduceNeg, Int.reduceLE, Int.reduceLT, Vc.lenOf, Yq, Xf, Z1, Vc.atK, Z2, Vc.unK, Vc.wfK, Yk, Yg, Yi, Zz, Z6, Yh, Z0, Yu, Vc.sg, Y2, Y8, Xg, Xe, Ya, Res.own, At.sub, Vc.S1.sub, SV.sub, Res.sub, Xl, Xp, Ys, Yt, Yp, Vc.frS, Kd.sz, Nat.reduceSub, ↓reduceIte, reduceCtorEq, Nat.reduceEqDiff, Nat.reduceAdd, Nat.reduceMul, Nat.reduceLeDiff, Nat.reduceLT, Nat.reduceBEq, Nat.reduceBNe, implies_true, Xq, X8.rs, X8.res, he]) | (with_reducible first | refine T.seq ?_ | refine T.block ?_ | assumption | refine And.intro ?_ ?_) | (intro h; first | (exfalso; omega) | exact (tf h ‹_›).elim | exact (tf ‹_› h).elim | skip))
    all_goals first | omega | skip
end Go.Proofs.Ytibkcfpcfbodaaa
