/-
  A part of the proofs of this seat's laws: a step on the way. It has no conditions of its own.
-/
import Derived.Test.YtibkcfpcfbodaaaLinkSame
import Derived.Test.YtibkcfpcfbodaaaLinkU
namespace Go.Proofs.Ytibkcfpcfbodaaa
open Go.RowKit Vc
set_option linter.unusedVariables false
set_option linter.unusedSimpArgs false
attribute [local irreducible] T Yi X9 Ent RdC RwC Tw Yu Xv
theorem Jt {l : X5} {g : Own} : ∀ (us : List Int) (at_ : Int) (acc : List Int), (lk2 l g us at_ acc).length ≤ acc.length + 65536 * us.length
  | [], _, acc => by simp [lk2]
  | u :: us, at_, acc => by
    simp only [lk2]
    refine Nat.le_trans (Jt us _ _) ?_
    have := Ki (W4 (Sc g (Xr (linesOf l u) at_).1) (linesOf l u)).1
    simp only [List.length_append, List.length_cons]
    omega
theorem Q8 : ∀ (l : List Ln) (k : Nat) (at_ : Int) (seen : List (List UInt8)) (acc : List Spot), (Wy l k at_ seen acc).1.length ≤ acc.length + l.length
  | [], _, _, _, acc => by simp [Wy]
  | x :: l, k, at_, seen, acc => by
    simp only [Wy]
    split
    · simp
    · split
      · split
        · simp
        · have := Q8 l (k + 1) at_ (x.label :: seen) (acc ++ [⟨x.label, at_⟩])
          simp only [List.length_append, List.length_cons, List.length_nil] at this ⊢
          omega
      · split
        · simp
        · have := Q8 l (k + 1) (at_ + W9 x) seen acc
          simp only [List.length_cons]; omega
theorem Jh {l : X5} {own : Own} (hu : ∀ u ∈ l, u.2.length ≤ 40000) : ∀ (f i : Nat) (us : List Int) (at_ : Int) (g : Own) (sps : List Spot), (lk1 l own f i us at_ g sps).1.2.2.length ≤ sps.length + 40000 * f
  | 0, _, _, _, _, _ => by simp [lk1]
  | f + 1, i, us, at_, g, sps => by
    rw [To]
    split
    · simp only; omega
    · split
      · simp
      · split
        · simp
        · refine Nat.le_trans (Jh hu f _ _ _ _ _) ?_
          have h1 := Q8 (linesOf l (us.getD i 0)) 0 at_ [] []
          have h2 : (Sy (Xr (linesOf l (us.getD i 0)) at_).1).length ≤ (Xr (linesOf l (us.getD i 0)) at_).1.length := List.length_filter_le ..
          have h3 : (linesOf l (us.getD i 0)).length ≤ 40000 := by
            unfold linesOf
            generalize (us.getD i 0).toNat = q
            by_cases hl : q < l.length
            · exact hu _ (by rw [List.getD_eq_getElem?_getD, List.getElem?_eq_getElem hl]; exact List.getElem_mem hl)
            · rw [List.getD_eq_getElem?_getD, List.getElem?_eq_none (by omega)]; simp [Vr]
          unfold Xr at h2
          simp only [List.length_nil, Nat.zero_add] at h1
          rw [List.length_append]
          unfold Xr
          omega
theorem Me {l : X5} {entry : List UInt8} (h : (Wm l entry).2.1 = 0) : l.length ≤ 400 ∧ (Wm l entry).1.1.length ≤ 9223372036854775807 ∧ (Wm l entry).1.2.1.length ≤ 9223372036854775807 ∧ (Wm l entry).1.2.2.length ≤ 9223372036854775807 := by
  obtain ⟨hc, first, hf, hz, e⟩ := R9 h
  obtain ⟨hl, hu, ho⟩ := Vf hc
  obtain ⟨_, hr, hn, _⟩ := Lh h
  have hul := Ux _ _ ⟨hn, hr⟩
  rw [e] at hul ⊢
  simp only at hul ⊢
  refine ⟨hl, ?_, by omega, ?_⟩
  · refine Nat.le_trans (Jt _ _ _) ?_
    simp only [List.length_nil]; omega
  · refine Nat.le_trans (Jh (fun u h => (hu u h).1) _ _ _ _ _ _) ?_
    simp
set_option maxHeartbeats 16000000 in
theorem LinkMore_gc (l : X5) (entry nm : List UInt8) (ls : List Ln) (hf : N0 l) (hen : entry.length ≤ 9223372036854775807) (hls : ls.length ≤ 9223372036854775807) :
    GC Try.prog 5 [.a (.ref 0), .a (.str entry), .agg [.str nm, .ref 1]] [(1, .ro .line ls), (0, .rou l)] 2 [] (.one (.a (.bool true))) [] 2 := by
  refine Wb.fn.gc (by simp) (by simp [R4, Ro, Rk, V5, Vh, Vc.S1.okN, At.okN, SV.okN, Res.okN, Res.outOk, Zf, Res.own, Value.oneCell']) fun w X fr => ?_
  have hL := Oi l entry hf hen
  by_cases he : (Wm l entry).2.1 = 0
  · obtain ⟨e1, e2⟩ := Mc he
    obtain ⟨hl, m1, m2, m3⟩ := Me he
    have hL2 := Oi (l ++ [(nm, ls)]) entry ⟨by simp; omega, fun u hu => by
      rcases List.mem_append.1 hu with h | h
      · exact hf.2 u h
      · simp only [List.mem_singleton] at h; subst h; exact hls⟩ hen
    by_cases he2 : (Wm (l ++ [(nm, ls)]) entry).2.1 = 0
    · obtain ⟨e3, e4⟩ := Mc he2
      have hlaw := I7 he he2
      rw [e1, e2] at hL
      rw [e3, e4, hlaw] at hL2
      generalize (Wm l entry).1.1 = ws at *
      generalize (Wm l entry).1.2.1 = us at *
      generalize (Wm l entry).1.2.2 = sps at *
      have hS := Qc ws us sps m1 m2 m3
      repeat' (first | ((first | (with_reducible first | refine T.regs ?_ | refine T.cond ?_ | refine T.reg ?_ | refine T.ret ?_ | refine T.exit ?_ | refine T.skip ?_) | ((with_reducible first | refine T.dregs ?_ ?_ | refine T.dreg ?_ ?_ | refine T.dregts ?_ ?_ | refine T.dregt ?_ ?_ | refine T.danys ?_ ?_ | refine T.dany ?_ ?_); exact mix) | ((with_reducible first | apply Yi.rd (Uq) | apply Yu.rd (Uq)); (focus ((repeat' (first | exact rfl | exact trivial | refine And.intro ?_ ?_ | (simp [SV.bd, Vc.S1.bd, At.bd, Zq, Yy, Ins.cells, Ln.cells]; done))); done))) | ((with_reducible refine Yi.gc (hL) ?_ ?_); (focus ((simp [W5, V9, Vc.mtR, Vc.roA, Vc.roM, Ub, Uc, V6, Ua, Vx, Vc.fnM, Yb, St.find, Zf, Vc.del, Ya, Res.own, Vc.sg, Yf, Yc, Ye, Z0, Yd, Z1, At.sub, Vc.S1.sub, Res.sub, Kd.enc, Ins.cells, Ln.cells, Value.oneCell', Wi, List.nodup_cons]); done))) | ((with_reducible refine Yi.gc (hL2) ?_ ?_); (focus ((simp [W5, V9, Vc.mtR, Vc.roA, Vc.roM, Ub, Uc, V6, Ua, Vx, Vc.fnM, Yb, St.find, Zf, Vc.del, Ya, Res.own, Vc.sg, Yf, Yc, Ye, Z0, Yd, Z1, At.sub, Vc.S1.sub, Res.sub, Kd.enc, Ins.cells, Ln.cells, Value.oneCell', Wi, List.nodup_cons]); done))) | ((with_reducible refine Yi.gc (hS) ?_ ?_); (focus ((simp [W5, V9, Vc.mtR, Vc.roA, Vc.roM, Ub, Uc, V6, Ua, Vx, Vc.fnM, Yb, St.find, Zf, Vc.del, Ya, Res.own, Vc.sg, Yf, Yc, Ye, Z0, Yd, Z1, At.sub, Vc.S1.sub, Res.sub, Kd.enc, Ins.cells, Ln.cells, Value.oneCell', Wi, List.nodup_cons]))))); simp only [Z9, Zw, Zz, Vc.exK, Zn, Zm, Zi, Zh, Zv, Xo, Y2, Zy, Zk, Zj, Zx, Zo, Zl, Xm, Z4, Xk, Vc.ev, Vc.st, Vc.stq, Vc.gst, Xh, St.rd, St.get, St.put, St.find, Zf, St.new, Vc.gdc, Zp, Yo, Yr, Yq, Xg, Zt, Zr, Yj, Yg, Vc.S1.cells, Vc.upd, Vc.del, Zg, Vc.noV, Kd.enc, Kd.dec, Ins.cells, Ln.cells, Yb, Z6, Yn, Z7, Y4, Vc.rvs, Xa, Ze, Y6, Y0, Y5, Y7, Y9, Xb, Yk, Xf, Z5, Zu, Zc, Zs, Y1, Xe, Zq, SV.bd, Vc.S1.bd, At.bd, Value.oneCell', Int.reduceEq, Int.reduceNeg, Int.reduceLE, Int.reduceLT, Vc.lenOf, Yl, Xd, Z2, Vc.atK, Z3, Vc.unK, Vc.wfK, Yf, Yc, Ye, Z0, Z8, Yd, Z1, Ys, Vc.sg, Yz, Y3, Xc, Y8, Ya, Res.own, At.sub, Vc.S1.sub, SV.sub, Res.sub, Xi, Xn, Yt, Yp, Ym, Vc.frS, Kd.sz, Nat.reduceSub, ↓reduceIte, reduceCtorEq, Nat.reduceEqDiff, Nat.reduceAdd, Nat.reduceMul, Nat.reduceLeDiff, Nat.reduceLT, Nat.reduceBEq, Nat.reduceBNe, implies_true, Xp, Wb.rs, Wb.res]) | (with_reducible first | refine T.seq ?_ | refine T.block ?_ | assumption | refine And.intro ?_ ?_) | (intro h; first | (exfalso; omega) | exact (tf h ‹_›).elim | exact (tf ‹_› h).elim | skip))
      all_goals first | omega | skip
    · obtain ⟨e3, e4⟩ := Pn he2
      rw [e1, e2] at hL
      rw [e3, e4] at hL2
      generalize (Wm l entry).1.1 = ws at *
      generalize (Wm l entry).1.2.1 = us at *
      generalize (Wm l entry).1.2.2 = sps at *
      repeat' (first | ((first | (with_reducible first | refine T.regs ?_ | refine T.cond ?_ | refine T.reg ?_ | refine T.ret ?_ | refine T.exit ?_ | refine T.skip ?_) | ((with_reducible first | refine T.dregs ?_ ?_ | refine T.dreg ?_ ?_ | refine T.dregts ?_ ?_ | refine T.dregt ?_ ?_ | refine T.danys ?_ ?_ | refine T.dany ?_ ?_); exact mix) | ((with_reducible first | apply Yi.rd (Uq) | apply Yu.rd (Uq)); (focus ((repeat' (first | exact rfl | exact trivial | refine And.intro ?_ ?_ | (simp [SV.bd, Vc.S1.bd, At.bd, Zq, Yy, Ins.cells, Ln.cells]; done))); done))) | ((with_reducible refine Yi.gc (hL) ?_ ?_); (focus ((simp [W5, V9, Vc.mtR, Vc.roA, Vc.roM, Ub, Uc, V6, Ua, Vx, Vc.fnM, Yb, St.find, Zf, Vc.del, Ya, Res.own, Vc.sg, Yf, Yc, Ye, Z0, Yd, Z1, At.sub, Vc.S1.sub, Res.sub, Kd.enc, Ins.cells, Ln.cells, Value.oneCell', Wi, List.nodup_cons]); done))) | ((with_reducible refine Yi.gc (hL2) ?_ ?_); (focus ((simp [W5, V9, Vc.mtR, Vc.roA, Vc.roM, Ub, Uc, V6, Ua, Vx, Vc.fnM, Yb, St.find, Zf, Vc.del, Ya, Res.own, Vc.sg, Yf, Yc, Ye, Z0, Yd, Z1, At.sub, Vc.S1.sub, Res.sub, Kd.enc, Ins.cells, Ln.cells, Value.oneCell', Wi, List.nodup_cons]); done)))); simp only [Z9, Zw, Zz, Vc.exK, Zn, Zm, Zi, Zh, Zv, Xo, Y2, Zy, Zk, Zj, Zx, Zo, Zl, Xm, Z4, Xk, Vc.ev, Vc.st, Vc.stq, Vc.gst, Xh, St.rd, St.get, St.put, St.find, Zf, St.new, Vc.gdc, Zp, Yo, Yr, Yq, Xg, Zt, Zr, Yj, Yg, Vc.S1.cells, Vc.upd, Vc.del, Zg, Vc.noV, Kd.enc, Kd.dec, Ins.cells, Ln.cells, Yb, Z6, Yn, Z7, Y4, Vc.rvs, Xa, Ze, Y6, Y0, Y5, Y7, Y9, Xb, Yk, Xf, Z5, Zu, Zc, Zs, Y1, Xe, Zq, SV.bd, Vc.S1.bd, At.bd, Value.oneCell', Int.reduceEq, Int.reduceNeg, Int.reduceLE, Int.reduceLT, Vc.lenOf, Yl, Xd, Z2, Vc.atK, Z3, Vc.unK, Vc.wfK, Yf, Yc, Ye, Z0, Z8, Yd, Z1, Ys, Vc.sg, Yz, Y3, Xc, Y8, Ya, Res.own, At.sub, Vc.S1.sub, SV.sub, Res.sub, Xi, Xn, Yt, Yp, Ym, Vc.frS, Kd.sz, Nat.reduceSub, ↓reduceIte, reduceCtorEq, Nat.reduceEqDiff, Nat.reduceAdd, Nat.reduceMul, Nat.reduceLeDiff, Nat.reduceLT, Nat.reduceBEq, Nat.reduceBNe, implies_true, Xp, Wb.rs, Wb.res, he2]) | (with_reducible first | refine T.seq ?_ | refine T.block ?_ | assumption | refine And.intro ?_ ?_) | (intro h; first | (exfalso; omega) | exact (tf h ‹_›).elim | exact (tf ‹_› h).elim | skip))
      all_goals first | omega | skip
  · obtain ⟨e1, e2⟩ := Pn he
    rw [e1, e2] at hL
    repeat' (first | ((first | (with_reducible first | refine T.regs ?_ | refine T.cond ?_ | refine T.reg ?_ | refine T.ret ?_ | refine T.exit ?_ | refine T.skip ?_) | ((with_reducible first | refine T.dregs ?_ ?_ | refine T.dreg ?_ ?_ | refine T.dregts ?_ ?_ | refine T.dregt ?_ ?_ | refine T.danys ?_ ?_ | refine T.dany ?_ ?_); exact mix) | ((with_reducible first | apply Yi.rd (Uq) | apply Yu.rd (Uq)); (focus ((repeat' (first | exact rfl | exact trivial | refine And.intro ?_ ?_ | (simp [SV.bd, Vc.S1.bd, At.bd, Zq, Yy, Ins.cells, Ln.cells]; done))); done))) | ((with_reducible refine Yi.gc (hL) ?_ ?_); (focus ((simp [W5, V9, Vc.mtR, Vc.roA, Vc.roM, Ub, Uc, V6, Ua, Vx, Vc.fnM, Yb, St.find, Zf, Vc.del, Ya, Res.own, Vc.sg, Yf, Yc, Ye, Z0, Yd, Z1, At.sub, Vc.S1.sub, Res.sub, Kd.enc, Ins.cells, Ln.cells, Value.oneCell', Wi, List.nodup_cons]))))); simp only [Z9, Zw, Zz, Vc.exK, Zn, Zm, Zi, Zh, Zv, Xo, Y2, Zy, Zk, Zj, Zx, Zo, Zl, Xm, Z4, Xk, Vc.ev, Vc.st, Vc.stq, Vc.gst, Xh, St.rd, St.get, St.put, St.find, Zf, St.new, Vc.gdc, Zp, Yo, Yr, Yq, Xg, Zt, Zr, Yj, Yg, Vc.S1.cells, Vc.upd, Vc.del, Zg, Vc.noV, Kd.enc, Kd.dec, Ins.cells, Ln.cells, Yb, Z6, Yn, Z7, Y4, Vc.rvs, Xa, Ze, Y6, Y0, Y5, Y7, Y9, Xb, Yk, Xf, Z5, Zu, Zc, Zs, Y1, Xe, Zq, SV.bd, Vc.S1.bd, At.bd, Value.oneCell', Int.reduceEq, Int.reduceNeg, Int.reduceLE, Int.reduceLT, Vc.lenOf, Yl, Xd, Z2, Vc.atK, Z3, Vc.unK, Vc.wfK, Yf, Yc, Ye, Z0, Z8, Yd, Z1, Ys, Vc.sg, Yz, Y3, Xc, Y8, Ya, Res.own, At.sub, Vc.S1.sub, SV.sub, Res.sub, Xi, Xn, Yt, Yp, Ym, Vc.frS, Kd.sz, Nat.reduceSub, ↓reduceIte, reduceCtorEq, Nat.reduceEqDiff, Nat.reduceAdd, Nat.reduceMul, Nat.reduceLeDiff, Nat.reduceLT, Nat.reduceBEq, Nat.reduceBNe, implies_true, Xp, Wb.rs, Wb.res, he]) | (with_reducible first | refine T.seq ?_ | refine T.block ?_ | assumption | refine And.intro ?_ ?_) | (intro h; first | (exfalso; omega) | exact (tf h ‹_›).elim | exact (tf ‹_› h).elim | skip))
    all_goals first | omega | skip
end Go.Proofs.Ytibkcfpcfbodaaa
