/-
  A part of the proofs of this seat's laws: a step on the way. It has no conditions of its own.
-/
import Derived.Test.YtccjjcdjgibilaaDoorAsmA
import Derived.Test.YtccjjcdjgibilaaDoorIrB
namespace Go.Proofs.YtccjjcdjgibilaaDoor
open Go.RowKit Vc
set_option linter.unusedVariables false
set_option linter.unusedSimpArgs false
attribute [local irreducible] T Z2 Wd Ent RdC RwC Up Ye Xt
def Va : List Ln → Nat → Int → List (List UInt8) → List Spot → List Spot × Int × Int × Int
  | [], _, at_, _, acc => (acc, at_, 0, 0)
  | x :: l, k, at_, seen, acc => if Vm x ≠ 0 then ([], 0, Vm x, k) else
      if x.label ≠ [] then (if x.label ∈ seen then ([], 0, 7, k) else Va l (k + 1) at_ (x.label :: seen) (acc ++ [⟨x.label, at_⟩]))
      else if 65536 < at_ + Vx x then ([], 0, 4, k) else Va l (k + 1) (at_ + Vx x) seen acc
def Wo (l : List Ln) (at_ : Int) : List Spot × Int × Int × Int := Va l 0 at_ [] []
def Ql (seen : List (List UInt8)) : List UInt8 → Option (Kd.ty .bool) := fun s => if s ∈ seen then some true else none
theorem Uw : Ql [] = fun _ => none := by funext s; simp [Ql]
theorem Ow (s : List UInt8) (seen : List (List UInt8)) : (fun t => if t = s then some true else Ql seen t) = Ql (s :: seen) := by
  funext t; simp only [Ql, List.mem_cons]
  by_cases h : t = s <;> simp [h]
theorem Sl {s : List UInt8} (h : W3 s = true) : s.length ≤ 32 := by
  simp only [W3, Bool.and_eq_true, decide_eq_true_eq] at h; omega
theorem Tw {x : Ln} (h : Vm x = 0) (hl : x.label ≠ []) : W3 x.label = true ∧ x.ref = [] ∧ x.ins = V2 := by
  unfold Vm at h
  rw [if_pos hl] at h
  split at h
  · omega
  · rename_i hn
    split at h
    · omega
    · rename_i h2
      simp only [not_or, ne_eq, Decidable.not_not] at h2
      exact ⟨by simpa using hn, h2⟩
theorem Th {x : Ln} (h : Vm x = 0) (hl : x.label = []) : X9 x.ins = 0 ∧ (x.ref ≠ [] → W3 x.ref = true ∧ Vt x.ins.op = true ∧ x.ins.imm = 0) := by
  unfold Vm at h
  rw [if_neg (by simpa using hl)] at h
  split at h
  · rename_i h1; exact absurd h h1
  · rename_i h1
    refine ⟨by simpa using h1, fun hr => ?_⟩
    rw [if_neg hr] at h
    split at h
    · omega
    · rename_i hn
      split at h
      · omega
      · rename_i h2
        simp only [not_or, ne_eq, Decidable.not_not, Bool.not_eq_false] at h2
        exact ⟨by simpa using hn, h2⟩
theorem Qw {x : Ins} (h : X9 x = 0) : Ve x.op = true := by
  unfold X9 at h
  split at h
  · omega
  · rename_i hk; simpa using hk
theorem Ru {x : Ln} (h : x.label = []) : Vx x = longI x.ins.op := by
  unfold Vx longI; rw [if_neg (by simpa using h)]
theorem Ts (x : Ln) : 0 ≤ Vx x ∧ Vx x ≤ 2 := by
  unfold Vx; repeat' split
  all_goals omega
theorem dfltB : Kd.dflt .bool = false := rfl
set_option maxHeartbeats 2000000 in
theorem Iw (l : List Ln) (at_ : Int) (hlen : l.length ≤ 40000) (h0 : 0 ≤ at_) (h1 : at_ ≤ 65536) :
    RwC Tryd.prog 38 [.ro .line l, .v (.a (.int .i64 at_))] 76 .spot (Wo l at_).1 [.a (.int .i64 (Wo l at_).2.1), .agg [.int .i64 (Wo l at_).2.2.1, .int .i64 (Wo l at_).2.2.2]] := by
  refine Wx.fn.rw (by simp) (by repeat' (first | exact rfl | exact trivial | refine And.intro ?_ ?_ | (simp [SV.bd, Vc.S1.bd, At.bd, Zq, Yv, Ins.cells, Ln.cells]; done))) (by simp [S1.bd, At.bd]) fun w => ?_
  repeat' (first | ((first | (with_reducible first | refine T.regs ?_ | refine T.cond ?_ | refine T.reg ?_ | refine T.ret ?_ | refine T.exit ?_ | refine T.skip ?_) | ((with_reducible first | refine T.dregs ?_ ?_ | refine T.dreg ?_ ?_ | refine T.dregts ?_ ?_ | refine T.dregt ?_ ?_ | refine T.danys ?_ ?_ | refine T.dany ?_ ?_); exact mix)); simp only [Yf, Zz, Z1, Vc.exK, Zm, Zj, Zg, Zh, Zx, Xn, Y1, Z0, Zl, Zi, Zy, Zk, Zn, Xk, Z7, Xj, Vc.ev, Vc.st, Vc.stq, Vc.gst, Xh, St.rd, St.get, St.put, St.find, Zd, St.new, Vc.gdc, Zs, Yr, Yo, Yq, Xg, Zv, Zt, Yj, Yi, Vc.S1.cells, Vc.upd, Vc.del, Zf, Vc.noV, Kd.enc, Kd.dec, Ins.cells, Ln.cells, Z5, Yc, Yn, Ya, Y0, Vc.rvs, Y6, Zc, Y4, Yx, Y3, Y5, Y9, Xa, Yk, Xe, Z8, Zw, Zb, Zu, Vc.kdL, Xm, Yz, Xf, Zq, SV.bd, Vc.S1.bd, At.bd, Value.oneCell', Int.reduceEq, Int.reduceNeg, Int.reduceLE, Int.reduceLT, Vc.lenOf, Yl, Xc, Z4, Vc.atK, Z6, Vc.unK, Vc.wfK, Yh, Yd, Yg, Zp, Yb, Z9, Zr, Ys, Vc.sg, Yw, Y2, Y7, Y8, Z3, Res.own, At.sub, Vc.S1.sub, SV.sub, Res.sub, Xi, Xo, Yt, Yp, Ym, Vc.frS, Kd.sz, Nat.reduceSub, ↓reduceIte, reduceCtorEq, Nat.reduceEqDiff, Nat.reduceAdd, Nat.reduceMul, Nat.reduceLeDiff, Nat.reduceLT, Nat.reduceBEq, Nat.reduceBNe, implies_true, Xp, Wx.rs, Wx.res]) | (with_reducible first | refine T.seq ?_ | refine T.block ?_ | assumption | refine And.intro ?_ ?_) | (intro h; first | (exfalso; omega) | exact (tf h ‹_›).elim | exact (tf ‹_› h).elim | skip))
  refine T.weak (Ent.nilRow (t := 7) 76 .spot rfl) ?_
  simp only [Yf, Zz, Z1, Vc.exK, Zm, Zj, Zg, Zh, Zx, Xn, Y1, Z0, Zl, Zi, Zy, Zk, Zn, Xk, Z7, Xj, Vc.ev, Vc.st, Vc.stq, Vc.gst, Xh, St.rd, St.get, St.put, St.find, Zd, St.new, Vc.gdc, Zs, Yr, Yo, Yq, Xg, Zv, Zt, Yj, Yi, Vc.S1.cells, Vc.upd, Vc.del, Zf, Vc.noV, Kd.enc, Kd.dec, Ins.cells, Ln.cells, Z5, Yc, Yn, Ya, Y0, Vc.rvs, Y6, Zc, Y4, Yx, Y3, Y5, Y9, Xa, Yk, Xe, Z8, Zw, Zb, Zu, Vc.kdL, Xm, Yz, Xf, Zq, SV.bd, Vc.S1.bd, At.bd, Value.oneCell', Int.reduceEq, Int.reduceNeg, Int.reduceLE, Int.reduceLT, Vc.lenOf, Yl, Xc, Z4, Vc.atK, Z6, Vc.unK, Vc.wfK, Yh, Yd, Yg, Zp, Yb, Z9, Zr, Ys, Vc.sg, Yw, Y2, Y7, Y8, Z3, Res.own, At.sub, Vc.S1.sub, SV.sub, Res.sub, Xi, Xo, Yt, Yp, Ym, Vc.frS, Kd.sz, Nat.reduceSub, ↓reduceIte, reduceCtorEq, Nat.reduceEqDiff, Nat.reduceAdd, Nat.reduceMul, Nat.reduceLeDiff, Nat.reduceLT, Nat.reduceBEq, Nat.reduceBNe, implies_true, Xp]
  refine T.loop (ι := { p : Nat × Int × List (List UInt8) × List Spot // p.1 ≤ l.length ∧ Va (l.drop p.1) p.1 p.2.1 p.2.2.1 p.2.2.2 = Wo l at_ ∧ 0 ≤ p.2.1 ∧ p.2.1 ≤ 65536 ∧ p.2.2.1.length ≤ p.1 ∧ p.2.2.2.length ≤ p.1 })
    (fun x => ⟨[(17, .one (.a (.int .i64 (x.1.1 : Int)))), (16, .one (.a (.int .i64 l.length))), (15, .one (.a (.ref 0))), (8, .one (.a (.ref 2))), (7, .one (.a (.ref 3))), (6, .one (.a (.loc 1 0))), (1, .one (.a (.int .i64 x.1.2.1)))],
      [(3, .row 76 .spot x.1.2.2.2), (2, .smap Tryd.prog 9 4 .bool (Ql x.1.2.2.1) x.1.2.2.1.length), (1, .cells 31 [.int .i64 0, .int .i64 0]), (0, .ro .line l)], 4⟩)
    (fun x => l.length - x.1.1) ⟨(0, at_, [], []), by simp, by simp [Wo], h0, h1, by simp, by simp⟩ (Ent.mk (id) (by simp [Za, Ze, Vc.bnd, St.get, St.find, Zd, SV.ren, Vc.S1.ren, At.ren, Res.ren, SV.bd, Vc.S1.bd, At.bd, Res.bd, Vc.upd, Vc.del, Kd.enc, Value.oneCell', Uw]) (by simp [Za, Ze, Vc.bnd, St.get, St.find, Zd, SV.ren, Vc.S1.ren, At.ren, Res.ren, SV.bd, Vc.S1.bd, At.bd, Res.bd, Vc.upd, Vc.del, Kd.enc, Value.oneCell', Uw]) (by simp [Za, Ze, Vc.bnd, St.get, St.find, Zd, SV.ren, Vc.S1.ren, At.ren, Res.ren, SV.bd, Vc.S1.bd, At.bd, Res.bd, Vc.upd, Vc.del, Kd.enc, Value.oneCell', Uw]) (by simp [Za, Ze, Vc.bnd, St.get, St.find, Zd, SV.ren, Vc.S1.ren, At.ren, Res.ren, SV.bd, Vc.S1.bd, At.bd, Res.bd, Vc.upd, Vc.del, Kd.enc, Value.oneCell', Uw])) ?_
  rintro ⟨⟨k, a, seen, acc⟩, hk, hrun, ha0, ha1, hs, hacc⟩
  simp only at hk hrun ha0 ha1 hs hacc
  by_cases hlt : k < l.length
  · have hdrop : l.drop k = l.getD k ln0 :: l.drop (k + 1) := by
      rw [List.drop_eq_getElem_cons hlt]; simp [List.getD, hlt]
    generalize hx : l.getD k ln0 = x at hdrop
    have hx' : l.getD k (Kd.dflt .line) = x := hx
    rw [hdrop] at hrun
    simp only [Va] at hrun
    have hw : IntKind.i64.wrap ((k : Int) + 1) = ((k + 1 : Nat) : Int) := We (by omega)
    have ht : ((k : Int)).toNat = k := by omega
    by_cases hwr : Vm x = 0
    · rw [if_neg (by simpa using hwr)] at hrun
      by_cases hlb : x.label = []
      · rw [if_neg (by simpa using hlb)] at hrun
        have hkn := Qw (Th hwr hlb).1
        have hlg := Ru hlb
        have hle := Ts x
        rw [hlg] at hrun hle
        have hwa : IntKind.i64.wrap (a + longI x.ins.op) = a + longI x.ins.op := Vv (by omega) (by omega)
        have hlbd : decide (x.label = []) = true := decide_eq_true hlb
        repeat' (first | ((first | (with_reducible first | refine T.regs ?_ | refine T.cond ?_ | refine T.reg ?_ | refine T.ret ?_ | refine T.exit ?_ | refine T.skip ?_) | ((with_reducible first | refine T.dregs ?_ ?_ | refine T.dreg ?_ ?_ | refine T.dregts ?_ ?_ | refine T.dregt ?_ ?_ | refine T.danys ?_ ?_ | refine T.dany ?_ ?_); exact mix) | ((with_reducible first | apply Z2.rd (Vs _) | apply Ye.rd (Vs _)); (focus ((repeat' (first | exact rfl | exact trivial | refine And.intro ?_ ?_ | (simp [SV.bd, Vc.S1.bd, At.bd, Zq, Yv, Ins.cells, Ln.cells]; done))); done))) | ((with_reducible first | apply Z2.rd (Oz _ hkn) | apply Ye.rd (Oz _ hkn)); (focus ((repeat' (first | exact rfl | exact trivial | refine And.intro ?_ ?_ | (simp [SV.bd, Vc.S1.bd, At.bd, Zq, Yv, Ins.cells, Ln.cells]; done))); done)))); simp only [Yf, Zz, Z1, Vc.exK, Zm, Zj, Zg, Zh, Zx, Xn, Y1, Z0, Zl, Zi, Zy, Zk, Zn, Xk, Z7, Xj, Vc.ev, Vc.st, Vc.stq, Vc.gst, Xh, St.rd, St.get, St.put, St.find, Zd, St.new, Vc.gdc, Zs, Yr, Yo, Yq, Xg, Zv, Zt, Yj, Yi, Vc.S1.cells, Vc.upd, Vc.del, Zf, Vc.noV, Kd.enc, Kd.dec, Ins.cells, Ln.cells, Z5, Yc, Yn, Ya, Y0, Vc.rvs, Y6, Zc, Y4, Yx, Y3, Y5, Y9, Xa, Yk, Xe, Z8, Zw, Zb, Zu, Vc.kdL, Xm, Yz, Xf, Zq, SV.bd, Vc.S1.bd, At.bd, Value.oneCell', Int.reduceEq, Int.reduceNeg, Int.reduceLE, Int.reduceLT, Vc.lenOf, Yl, Xc, Z4, Vc.atK, Z6, Vc.unK, Vc.wfK, Yh, Yd, Yg, Zp, Yb, Z9, Zr, Ys, Vc.sg, Yw, Y2, Y7, Y8, Z3, Res.own, At.sub, Vc.S1.sub, SV.sub, Res.sub, Xi, Xo, Yt, Yp, Ym, Vc.frS, Kd.sz, Nat.reduceSub, ↓reduceIte, reduceCtorEq, Nat.reduceEqDiff, Nat.reduceAdd, Nat.reduceMul, Nat.reduceLeDiff, Nat.reduceLT, Nat.reduceBEq, Nat.reduceBNe, implies_true, Xp, Wx.rs, Wx.res, hx', hw, ht, hwr, hlbd, hwa, Int.ofNat_lt]) | (with_reducible first | refine T.seq ?_ | refine T.block ?_ | assumption | refine And.intro ?_ ?_) | (intro h; first | (exfalso; omega) | exact (tf h ‹_›).elim | exact (tf ‹_› h).elim | skip))
        all_goals first | omega | (rw [if_pos (by assumption)] at hrun; rw [← hrun]; done) | skip
        · rw [if_neg (by assumption)] at hrun
          exact ⟨⟨(k + 1, a + longI x.ins.op, seen, acc), hlt, hrun, by simp only; omega, by simp only; omega, by simp only; omega, by simp only; omega⟩, (Ent.mk (id) (by simp [Za, Ze, Vc.bnd, St.get, St.find, Zd, SV.ren, Vc.S1.ren, At.ren, Res.ren, SV.bd, Vc.S1.bd, At.bd, Res.bd, Vc.upd, Vc.del, Kd.enc, Value.oneCell', hw]) (by simp [Za, Ze, Vc.bnd, St.get, St.find, Zd, SV.ren, Vc.S1.ren, At.ren, Res.ren, SV.bd, Vc.S1.bd, At.bd, Res.bd, Vc.upd, Vc.del, Kd.enc, Value.oneCell', hw]) (by simp [Za, Ze, Vc.bnd, St.get, St.find, Zd, SV.ren, Vc.S1.ren, At.ren, Res.ren, SV.bd, Vc.S1.bd, At.bd, Res.bd, Vc.upd, Vc.del, Kd.enc, Value.oneCell', hw]) (by simp [Za, Ze, Vc.bnd, St.get, St.find, Zd, SV.ren, Vc.S1.ren, At.ren, Res.ren, SV.bd, Vc.S1.bd, At.bd, Res.bd, Vc.upd, Vc.del, Kd.enc, Value.oneCell', hw])), by simp only; omega⟩
      · rw [if_pos hlb] at hrun
        have hnm := Sl (Tw hwr hlb).1
        have hseen : (Ql seen x.label) = if x.label ∈ seen then some true else none := rfl
        by_cases hin : x.label ∈ seen
        · rw [if_pos hin] at hrun
          rw [if_pos hin] at hseen
          repeat' (first | ((first | (with_reducible first | refine T.regs ?_ | refine T.cond ?_ | refine T.reg ?_ | refine T.ret ?_ | refine T.exit ?_ | refine T.skip ?_) | ((with_reducible first | refine T.dregs ?_ ?_ | refine T.dreg ?_ ?_ | refine T.dregts ?_ ?_ | refine T.dregt ?_ ?_ | refine T.danys ?_ ?_ | refine T.dany ?_ ?_); exact mix) | ((with_reducible first | apply Z2.rd (Vs _) | apply Ye.rd (Vs _)); (focus ((repeat' (first | exact rfl | exact trivial | refine And.intro ?_ ?_ | (simp [SV.bd, Vc.S1.bd, At.bd, Zq, Yv, Ins.cells, Ln.cells]; done))); done)))); simp only [Yf, Zz, Z1, Vc.exK, Zm, Zj, Zg, Zh, Zx, Xn, Y1, Z0, Zl, Zi, Zy, Zk, Zn, Xk, Z7, Xj, Vc.ev, Vc.st, Vc.stq, Vc.gst, Xh, St.rd, St.get, St.put, St.find, Zd, St.new, Vc.gdc, Zs, Yr, Yo, Yq, Xg, Zv, Zt, Yj, Yi, Vc.S1.cells, Vc.upd, Vc.del, Zf, Vc.noV, Kd.enc, Kd.dec, Ins.cells, Ln.cells, Z5, Yc, Yn, Ya, Y0, Vc.rvs, Y6, Zc, Y4, Yx, Y3, Y5, Y9, Xa, Yk, Xe, Z8, Zw, Zb, Zu, Vc.kdL, Xm, Yz, Xf, Zq, SV.bd, Vc.S1.bd, At.bd, Value.oneCell', Int.reduceEq, Int.reduceNeg, Int.reduceLE, Int.reduceLT, Vc.lenOf, Yl, Xc, Z4, Vc.atK, Z6, Vc.unK, Vc.wfK, Yh, Yd, Yg, Zp, Yb, Z9, Zr, Ys, Vc.sg, Yw, Y2, Y7, Y8, Z3, Res.own, At.sub, Vc.S1.sub, SV.sub, Res.sub, Xi, Xo, Yt, Yp, Ym, Vc.frS, Kd.sz, Nat.reduceSub, ↓reduceIte, reduceCtorEq, Nat.reduceEqDiff, Nat.reduceAdd, Nat.reduceMul, Nat.reduceLeDiff, Nat.reduceLT, Nat.reduceBEq, Nat.reduceBNe, implies_true, Xp, Wx.rs, Wx.res, hx', hw, ht, hwr, hlb, hseen, Int.ofNat_lt]) | (with_reducible first | refine T.seq ?_ | refine T.block ?_ | assumption | refine And.intro ?_ ?_) | (intro h; first | (exfalso; omega) | exact (tf h ‹_›).elim | exact (tf ‹_› h).elim | skip))
          all_goals first | omega | (rw [← hrun]; done) | skip
        · rw [if_neg hin] at hrun
          rw [if_neg hin] at hseen
          repeat' (first | ((first | (with_reducible first | refine T.regs ?_ | refine T.cond ?_ | refine T.reg ?_ | refine T.ret ?_ | refine T.exit ?_ | refine T.skip ?_) | ((with_reducible first | refine T.dregs ?_ ?_ | refine T.dreg ?_ ?_ | refine T.dregts ?_ ?_ | refine T.dregt ?_ ?_ | refine T.danys ?_ ?_ | refine T.dany ?_ ?_); exact mix) | ((with_reducible first | apply Z2.rd (Vs _) | apply Ye.rd (Vs _)); (focus ((repeat' (first | exact rfl | exact trivial | refine And.intro ?_ ?_ | (simp [SV.bd, Vc.S1.bd, At.bd, Zq, Yv, Ins.cells, Ln.cells]; done))); done)))); simp only [Yf, Zz, Z1, Vc.exK, Zm, Zj, Zg, Zh, Zx, Xn, Y1, Z0, Zl, Zi, Zy, Zk, Zn, Xk, Z7, Xj, Vc.ev, Vc.st, Vc.stq, Vc.gst, Xh, St.rd, St.get, St.put, St.find, Zd, St.new, Vc.gdc, Zs, Yr, Yo, Yq, Xg, Zv, Zt, Yj, Yi, Vc.S1.cells, Vc.upd, Vc.del, Zf, Vc.noV, Kd.enc, Kd.dec, Ins.cells, Ln.cells, Z5, Yc, Yn, Ya, Y0, Vc.rvs, Y6, Zc, Y4, Yx, Y3, Y5, Y9, Xa, Yk, Xe, Z8, Zw, Zb, Zu, Vc.kdL, Xm, Yz, Xf, Zq, SV.bd, Vc.S1.bd, At.bd, Value.oneCell', Int.reduceEq, Int.reduceNeg, Int.reduceLE, Int.reduceLT, Vc.lenOf, Yl, Xc, Z4, Vc.atK, Z6, Vc.unK, Vc.wfK, Yh, Yd, Yg, Zp, Yb, Z9, Zr, Ys, Vc.sg, Yw, Y2, Y7, Y8, Z3, Res.own, At.sub, Vc.S1.sub, SV.sub, Res.sub, Xi, Xo, Yt, Yp, Ym, Vc.frS, Kd.sz, Nat.reduceSub, ↓reduceIte, reduceCtorEq, Nat.reduceEqDiff, Nat.reduceAdd, Nat.reduceMul, Nat.reduceLeDiff, Nat.reduceLT, Nat.reduceBEq, Nat.reduceBNe, implies_true, Xp, Wx.rs, Wx.res, hx', hw, ht, hwr, hlb, hseen, Ow, dfltB, Int.ofNat_lt]) | (with_reducible first | refine T.seq ?_ | refine T.block ?_ | assumption | refine And.intro ?_ ?_) | (intro h; first | (exfalso; omega) | exact (tf h ‹_›).elim | exact (tf ‹_› h).elim | skip))
          all_goals first | omega | skip
          exact ⟨⟨(k + 1, a, x.label :: seen, acc ++ [⟨x.label, a⟩]), hlt, hrun, ha0, ha1, by simp only [List.length_cons]; omega, by simp only [List.length_append, List.length_cons, List.length_nil]; omega⟩, (Ent.mk (fun n => if n = 3 then 6 else n) (by simp [Za, Ze, Vc.bnd, St.get, St.find, Zd, SV.ren, Vc.S1.ren, At.ren, Res.ren, SV.bd, Vc.S1.bd, At.bd, Res.bd, Vc.upd, Vc.del, Kd.enc, Value.oneCell', hw]) (by simp [Za, Ze, Vc.bnd, St.get, St.find, Zd, SV.ren, Vc.S1.ren, At.ren, Res.ren, SV.bd, Vc.S1.bd, At.bd, Res.bd, Vc.upd, Vc.del, Kd.enc, Value.oneCell', hw]) (by simp [Za, Ze, Vc.bnd, St.get, St.find, Zd, SV.ren, Vc.S1.ren, At.ren, Res.ren, SV.bd, Vc.S1.bd, At.bd, Res.bd, Vc.upd, Vc.del, Kd.enc, Value.oneCell', hw]) (by simp [Za, Ze, Vc.bnd, St.get, St.find, Zd, SV.ren, Vc.S1.ren, At.ren, Res.ren, SV.bd, Vc.S1.bd, At.bd, Res.bd, Vc.upd, Vc.del, Kd.enc, Value.oneCell', hw])), by simp only; omega⟩
    · rw [if_pos (by simpa using hwr)] at hrun
      repeat' (first | ((first | (with_reducible first | refine T.regs ?_ | refine T.cond ?_ | refine T.reg ?_ | refine T.ret ?_ | refine T.exit ?_ | refine T.skip ?_) | ((with_reducible first | refine T.dregs ?_ ?_ | refine T.dreg ?_ ?_ | refine T.dregts ?_ ?_ | refine T.dregt ?_ ?_ | refine T.danys ?_ ?_ | refine T.dany ?_ ?_); exact mix) | ((with_reducible first | apply Z2.rd (Vs _) | apply Ye.rd (Vs _)); (focus ((repeat' (first | exact rfl | exact trivial | refine And.intro ?_ ?_ | (simp [SV.bd, Vc.S1.bd, At.bd, Zq, Yv, Ins.cells, Ln.cells]; done))); done)))); simp only [Yf, Zz, Z1, Vc.exK, Zm, Zj, Zg, Zh, Zx, Xn, Y1, Z0, Zl, Zi, Zy, Zk, Zn, Xk, Z7, Xj, Vc.ev, Vc.st, Vc.stq, Vc.gst, Xh, St.rd, St.get, St.put, St.find, Zd, St.new, Vc.gdc, Zs, Yr, Yo, Yq, Xg, Zv, Zt, Yj, Yi, Vc.S1.cells, Vc.upd, Vc.del, Zf, Vc.noV, Kd.enc, Kd.dec, Ins.cells, Ln.cells, Z5, Yc, Yn, Ya, Y0, Vc.rvs, Y6, Zc, Y4, Yx, Y3, Y5, Y9, Xa, Yk, Xe, Z8, Zw, Zb, Zu, Vc.kdL, Xm, Yz, Xf, Zq, SV.bd, Vc.S1.bd, At.bd, Value.oneCell', Int.reduceEq, Int.reduceNeg, Int.reduceLE, Int.reduceLT, Vc.lenOf, Yl, Xc, Z4, Vc.atK, Z6, Vc.unK, Vc.wfK, Yh, Yd, Yg, Zp, Yb, Z9, Zr, Ys, Vc.sg, Yw, Y2, Y7, Y8, Z3, Res.own, At.sub, Vc.S1.sub, SV.sub, Res.sub, Xi, Xo, Yt, Yp, Ym, Vc.frS, Kd.sz, Nat.reduceSub, ↓reduceIte, reduceCtorEq, Nat.reduceEqDiff, Nat.reduceAdd, Nat.reduceMul, Nat.reduceLeDiff, Nat.reduceLT, Nat.reduceBEq, Nat.reduceBNe, implies_true, Xp, Wx.rs, Wx.res, hx', hw, ht, hwr, Int.ofNat_lt]) | (with_reducible first | refine T.seq ?_ | refine T.block ?_ | assumption | refine And.intro ?_ ?_) | (intro h; first | (exfalso; omega) | exact (tf h ‹_›).elim | exact (tf ‹_› h).elim | skip))
      all_goals first | omega | (rw [← hrun]; done) | skip
  · have hk2 : k = l.length := by omega
    subst hk2
    rw [List.drop_length] at hrun
    simp only [Va] at hrun
    repeat' (first | ((first | (with_reducible first | refine T.regs ?_ | refine T.cond ?_ | refine T.reg ?_ | refine T.ret ?_ | refine T.exit ?_ | refine T.skip ?_) | ((with_reducible first | refine T.dregs ?_ ?_ | refine T.dreg ?_ ?_ | refine T.dregts ?_ ?_ | refine T.dregt ?_ ?_ | refine T.danys ?_ ?_ | refine T.dany ?_ ?_); exact mix)); simp only [Yf, Zz, Z1, Vc.exK, Zm, Zj, Zg, Zh, Zx, Xn, Y1, Z0, Zl, Zi, Zy, Zk, Zn, Xk, Z7, Xj, Vc.ev, Vc.st, Vc.stq, Vc.gst, Xh, St.rd, St.get, St.put, St.find, Zd, St.new, Vc.gdc, Zs, Yr, Yo, Yq, Xg, Zv, Zt, Yj, Yi, Vc.S1.cells, Vc.upd, Vc.del, Zf, Vc.noV, Kd.enc, Kd.dec, Ins.cells, Ln.cells, Z5, Yc, Yn, Ya, Y0, Vc.rvs, Y6, Zc, Y4, Yx, Y3, Y5, Y9, Xa, Yk, Xe, Z8, Zw, Zb, Zu, Vc.kdL, Xm, Yz, Xf, Zq, SV.bd, Vc.S1.bd, At.bd, Value.oneCell', Int.reduceEq, Int.reduceNeg, Int.reduceLE, Int.reduceLT, Vc.lenOf, Yl, Xc, Z4, Vc.atK, Z6, Vc.unK, Vc.wfK, Yh, Yd, Yg, Zp, Yb, Z9, Zr, Ys, Vc.sg, Yw, Y2, Y7, Y8, Z3, Res.own, At.sub, Vc.S1.sub, SV.sub, Res.sub, Xi, Xo, Yt, Yp, Ym, Vc.frS, Kd.sz, Nat.reduceSub, ↓reduceIte, reduceCtorEq, Nat.reduceEqDiff, Nat.reduceAdd, Nat.reduceMul, Nat.reduceLeDiff, Nat.reduceLT, Nat.reduceBEq, Nat.reduceBNe, implies_true, Xp, Wx.rs, Wx.res, Int.ofNat_lt]) | (with_reducible first | refine T.seq ?_ | refine T.block ?_ | assumption | refine And.intro ?_ ?_) | (intro h; first | (exfalso; omega) | exact (tf h ‹_›).elim | exact (tf ‹_› h).elim | skip))
    all_goals first | omega | (rw [← hrun]; done) | skip
end Go.Proofs.YtccjjcdjgibilaaDoor
