/-
  A part of the proofs of this seat's laws: a step on the way. It has no conditions of its own.
-/
import Derived.Test.YtibkcfpcfbodaaaAsmA
namespace Go.Proofs.Ytibkcfpcfbodaaa
open Go.RowKit Vc
set_option linter.unusedVariables false
set_option linter.unusedSimpArgs false
attribute [local irreducible] T Yi X9 Ent RdC RwC Tw Yu Xv
def Wy : List Ln → Nat → Int → List (List UInt8) → List Spot → List Spot × Int × Int × Int
  | [], _, at_, _, acc => (acc, at_, 0, 0)
  | x :: l, k, at_, seen, acc => if Vh x ≠ 0 then ([], 0, Vh x, k) else
      if x.label ≠ [] then (if x.label ∈ seen then ([], 0, 7, k) else Wy l (k + 1) at_ (x.label :: seen) (acc ++ [⟨x.label, at_⟩]))
      else if 65536 < at_ + W9 x then ([], 0, 4, k) else Wy l (k + 1) (at_ + W9 x) seen acc
def Xr (l : List Ln) (at_ : Int) : List Spot × Int × Int × Int := Wy l 0 at_ [] []
def Pd (seen : List (List UInt8)) : List UInt8 → Option (Kd.ty .bool) := fun s => if s ∈ seen then some true else none
theorem Tj : Pd [] = fun _ => none := by funext s; simp [Pd]
theorem Np (s : List UInt8) (seen : List (List UInt8)) : (fun t => if t = s then some true else Pd seen t) = Pd (s :: seen) := by
  funext t; simp only [Pd, List.mem_cons]
  by_cases h : t = s <;> simp [h]
theorem T8 {s : List UInt8} (h : Ur s = true) : s.length ≤ 32 := by
  simp only [Ur, Bool.and_eq_true, decide_eq_true_eq] at h; omega
theorem Sk {x : Ln} (h : Vh x = 0) (hl : x.label ≠ []) : Ur x.label = true ∧ x.ref = [] ∧ x.ins = Qi := by
  unfold Vh at h
  rw [if_pos hl] at h
  split at h
  · omega
  · rename_i hn
    split at h
    · omega
    · rename_i h2
      simp only [not_or, ne_eq, Decidable.not_not] at h2
      exact ⟨by simpa using hn, h2⟩
theorem Sr {x : Ln} (h : Vh x = 0) (hl : x.label = []) : We x.ins = 0 ∧ (x.ref ≠ [] → Ur x.ref = true ∧ R2 x.ins.op = true ∧ x.ins.imm = 0) := by
  unfold Vh at h
  rw [if_neg (by simpa using hl)] at h
  split at h
  · rename_i h1; exact absurd h h1
  · rename_i h1
    refine ⟨by simpa using h1, fun hr => ?_⟩
    rw [if_neg hr] at h
    split at h
    · omega
    · rename_i hn
      split at h
      · omega
      · rename_i h2
        simp only [not_or, ne_eq, Decidable.not_not, Bool.not_eq_false] at h2
        exact ⟨by simpa using hn, h2⟩
theorem Ms {x : Ins} (h : We x = 0) : V1 x.op = true := by
  unfold We at h
  split at h
  · omega
  · rename_i hk; simpa using hk
theorem J6 {x : Ln} (h : x.label = []) : W9 x = O6 x.ins.op := by
  unfold W9 O6; rw [if_neg (by simpa using h)]
theorem Sv (x : Ln) : 0 ≤ W9 x ∧ W9 x ≤ 2 := by
  unfold W9; repeat' split
  all_goals omega
theorem dfltB : Kd.dflt .bool = false := rfl
def ln0 : Ln := ⟨[], Qi, []⟩
set_option maxHeartbeats 2000000 in
theorem Rj (l : List Ln) (at_ : Int) (hlen : l.length ≤ 40000) (h0 : 0 ≤ at_) (h1 : at_ ≤ 65536) :
    RwC Try.prog 20 [.ro .line l, .v (.a (.int .i64 at_))] 54 .spot (Xr l at_).1 [.a (.int .i64 (Xr l at_).2.1), .agg [.int .i64 (Xr l at_).2.2.1, .int .i64 (Xr l at_).2.2.2]] := by
  refine Wv.fn.rw (by simp) (by repeat' (first | exact rfl | exact trivial | refine And.intro ?_ ?_ | (simp [SV.bd, S1.bd, At.bd, Zq, Yy, Ins.cells, Ln.cells]; done))) (by simp [S1.bd, At.bd]) fun w => ?_
  repeat' (first | ((first | (with_reducible first | refine T.regs ?_ | refine T.cond ?_ | refine T.reg ?_ | refine T.ret ?_ | refine T.exit ?_ | refine T.skip ?_) | ((with_reducible first | refine T.dregs ?_ ?_ | refine T.dreg ?_ ?_ | refine T.dregts ?_ ?_ | refine T.dregt ?_ ?_ | refine T.danys ?_ ?_ | refine T.dany ?_ ?_); exact mix)); simp only [Z9, Zz, Zy, Vc.exK, Zj, Zo, Zh, Zi, Zv, Xo, Y2, Zw, Zl, Zk, Zx, Zm, Zn, Xl, Z4, Xk, Vc.ev, Vc.st, Vc.stq, Vc.gst, Xh, St.rd, St.get, St.put, St.find, Zf, St.new, Vc.gdc, Zp, Yr, Yt, Yq, Xg, Zt, Zr, Yj, Yg, S1.cells, Vc.upd, Vc.del, Zg, Vc.noV, Kd.enc, Kd.dec, Ins.cells, Ln.cells, Yb, Z7, Ym, Z8, Y3, Vc.rvs, Y9, Ze, Y7, Y0, Y5, Y6, Y8, Xa, Yk, Xe, Z5, Zu, Zc, Zs, Y1, Xf, Zq, SV.bd, S1.bd, At.bd, Value.oneCell', Int.reduceEq, Int.reduceNeg, Int.reduceLE, Int.reduceLT, Vc.lenOf, Yn, Xc, Z2, Vc.atK, Z3, Vc.unK, Vc.wfK, Yf, Yc, Ye, Z0, Z6, Yd, Z1, Yp, Vc.sg, Yz, Y4, Xd, Xb, Ya, Res.own, At.sub, S1.sub, SV.sub, Res.sub, Xm, Xn, Ys, Yo, Yl, Vc.frS, Kd.sz, Nat.reduceSub, ↓reduceIte, reduceCtorEq, Nat.reduceEqDiff, Nat.reduceAdd, Nat.reduceMul, Nat.reduceLeDiff, Nat.reduceLT, Nat.reduceBEq, Nat.reduceBNe, implies_true, Xp, Wv.rs, Wv.res]) | (with_reducible first | refine T.seq ?_ | refine T.block ?_ | assumption | refine And.intro ?_ ?_) | (intro h; first | (exfalso; omega) | exact (tf h ‹_›).elim | exact (tf ‹_› h).elim | skip))
  refine T.weak (Ent.nilRow (t := 7) 54 .spot rfl) ?_
  simp only [Z9, Zz, Zy, Vc.exK, Zj, Zo, Zh, Zi, Zv, Xo, Y2, Zw, Zl, Zk, Zx, Zm, Zn, Xl, Z4, Xk, Vc.ev, Vc.st, Vc.stq, Vc.gst, Xh, St.rd, St.get, St.put, St.find, Zf, St.new, Vc.gdc, Zp, Yr, Yt, Yq, Xg, Zt, Zr, Yj, Yg, S1.cells, Vc.upd, Vc.del, Zg, Vc.noV, Kd.enc, Kd.dec, Ins.cells, Ln.cells, Yb, Z7, Ym, Z8, Y3, Vc.rvs, Y9, Ze, Y7, Y0, Y5, Y6, Y8, Xa, Yk, Xe, Z5, Zu, Zc, Zs, Y1, Xf, Zq, SV.bd, S1.bd, At.bd, Value.oneCell', Int.reduceEq, Int.reduceNeg, Int.reduceLE, Int.reduceLT, Vc.lenOf, Yn, Xc, Z2, Vc.atK, Z3, Vc.unK, Vc.wfK, Yf, Yc, Ye, Z0, Z6, Yd, Z1, Yp, Vc.sg, Yz, Y4, Xd, Xb, Ya, Res.own, At.sub, S1.sub, SV.sub, Res.sub, Xm, Xn, Ys, Yo, Yl, Vc.frS, Kd.sz, Nat.reduceSub, ↓reduceIte, reduceCtorEq, Nat.reduceEqDiff, Nat.reduceAdd, Nat.reduceMul, Nat.reduceLeDiff, Nat.reduceLT, Nat.reduceBEq, Nat.reduceBNe, implies_true, Xp]
  refine T.loop (ι := { p : Nat × Int × List (List UInt8) × List Spot // p.1 ≤ l.length ∧ Wy (l.drop p.1) p.1 p.2.1 p.2.2.1 p.2.2.2 = Xr l at_ ∧ 0 ≤ p.2.1 ∧ p.2.1 ≤ 65536 ∧ p.2.2.1.length ≤ p.1 ∧ p.2.2.2.length ≤ p.1 })
    (fun x => ⟨[(17, .one (.a (.int .i64 (x.1.1 : Int)))), (16, .one (.a (.int .i64 l.length))), (15, .one (.a (.ref 0))), (8, .one (.a (.ref 2))), (7, .one (.a (.ref 3))), (6, .one (.a (.loc 1 0))), (1, .one (.a (.int .i64 x.1.2.1)))],
      [(3, .row 54 .spot x.1.2.2.2), (2, .smap Try.prog 9 4 .bool (Pd x.1.2.2.1) x.1.2.2.1.length), (1, .cells 29 [.int .i64 0, .int .i64 0]), (0, .ro .line l)], 4⟩)
    (fun x => l.length - x.1.1) ⟨(0, at_, [], []), by simp, by simp [Xr], h0, h1, by simp, by simp⟩ (Ent.mk (id) (by simp [Za, Zb, Vc.bnd, St.get, St.find, Zf, SV.ren, S1.ren, At.ren, Res.ren, SV.bd, S1.bd, At.bd, Res.bd, Vc.upd, Vc.del, Kd.enc, Value.oneCell', Tj]) (by simp [Za, Zb, Vc.bnd, St.get, St.find, Zf, SV.ren, S1.ren, At.ren, Res.ren, SV.bd, S1.bd, At.bd, Res.bd, Vc.upd, Vc.del, Kd.enc, Value.oneCell', Tj]) (by simp [Za, Zb, Vc.bnd, St.get, St.find, Zf, SV.ren, S1.ren, At.ren, Res.ren, SV.bd, S1.bd, At.bd, Res.bd, Vc.upd, Vc.del, Kd.enc, Value.oneCell', Tj]) (by simp [Za, Zb, Vc.bnd, St.get, St.find, Zf, SV.ren, S1.ren, At.ren, Res.ren, SV.bd, S1.bd, At.bd, Res.bd, Vc.upd, Vc.del, Kd.enc, Value.oneCell', Tj])) ?_
  rintro ⟨⟨k, a, seen, acc⟩, hk, hrun, ha0, ha1, hs, hacc⟩
  simp only at hk hrun ha0 ha1 hs hacc
  by_cases hlt : k < l.length
  · have hdrop : l.drop k = l.getD k ln0 :: l.drop (k + 1) := by
      rw [List.drop_eq_getElem_cons hlt]; simp [List.getD, hlt]
    generalize hx : l.getD k ln0 = x at hdrop
    have hx' : l.getD k (Kd.dflt .line) = x := hx
    rw [hdrop] at hrun
    simp only [Wy] at hrun
    have hw : IntKind.i64.wrap ((k : Int) + 1) = ((k + 1 : Nat) : Int) := Wf (by omega)
    have ht : ((k : Int)).toNat = k := by omega
    by_cases hwr : Vh x = 0
    · rw [if_neg (by simpa using hwr)] at hrun
      by_cases hlb : x.label = []
      · rw [if_neg (by simpa using hlb)] at hrun
        have hkn := Ms (Sr hwr hlb).1
        have hlg := J6 hlb
        have hle := Sv x
        rw [hlg] at hrun hle
        have hwa : IntKind.i64.wrap (a + O6 x.ins.op) = a + O6 x.ins.op := Td (by omega) (by omega)
        have hlbd : decide (x.label = []) = true := decide_eq_true hlb
        repeat' (first | ((first | (with_reducible first | refine T.regs ?_ | refine T.cond ?_ | refine T.reg ?_ | refine T.ret ?_ | refine T.exit ?_ | refine T.skip ?_) | ((with_reducible first | refine T.dregs ?_ ?_ | refine T.dreg ?_ ?_ | refine T.dregts ?_ ?_ | refine T.dregt ?_ ?_ | refine T.danys ?_ ?_ | refine T.dany ?_ ?_); exact mix) | ((with_reducible first | apply Yi.rd (Vz _) | apply Yu.rd (Vz _)); (focus ((repeat' (first | exact rfl | exact trivial | refine And.intro ?_ ?_ | (simp [SV.bd, S1.bd, At.bd, Zq, Yy, Ins.cells, Ln.cells]; done))); done))) | ((with_reducible first | apply Yi.rd (Ko _ hkn) | apply Yu.rd (Ko _ hkn)); (focus ((repeat' (first | exact rfl | exact trivial | refine And.intro ?_ ?_ | (simp [SV.bd, S1.bd, At.bd, Zq, Yy, Ins.cells, Ln.cells]; done))); done)))); simp only [Z9, Zz, Zy, Vc.exK, Zj, Zo, Zh, Zi, Zv, Xo, Y2, Zw, Zl, Zk, Zx, Zm, Zn, Xl, Z4, Xk, Vc.ev, Vc.st, Vc.stq, Vc.gst, Xh, St.rd, St.get, St.put, St.find, Zf, St.new, Vc.gdc, Zp, Yr, Yt, Yq, Xg, Zt, Zr, Yj, Yg, S1.cells, Vc.upd, Vc.del, Zg, Vc.noV, Kd.enc, Kd.dec, Ins.cells, Ln.cells, Yb, Z7, Ym, Z8, Y3, Vc.rvs, Y9, Ze, Y7, Y0, Y5, Y6, Y8, Xa, Yk, Xe, Z5, Zu, Zc, Zs, Y1, Xf, Zq, SV.bd, S1.bd, At.bd, Value.oneCell', Int.reduceEq, Int.reduceNeg, Int.reduceLE, Int.reduceLT, Vc.lenOf, Yn, Xc, Z2, Vc.atK, Z3, Vc.unK, Vc.wfK, Yf, Yc, Ye, Z0, Z6, Yd, Z1, Yp, Vc.sg, Yz, Y4, Xd, Xb, Ya, Res.own, At.sub, S1.sub, SV.sub, Res.sub, Xm, Xn, Ys, Yo, Yl, Vc.frS, Kd.sz, Nat.reduceSub, ↓reduceIte, reduceCtorEq, Nat.reduceEqDiff, Nat.reduceAdd, Nat.reduceMul, Nat.reduceLeDiff, Nat.reduceLT, Nat.reduceBEq, Nat.reduceBNe, implies_true, Xp, Wv.rs, Wv.res, hx', hw, ht, hwr, hlbd, hwa, Int.ofNat_lt]) | (with_reducible first | refine T.seq ?_ | refine T.block ?_ | assumption | refine And.intro ?_ ?_) | (intro h; first | (exfalso; omega) | exact (tf h ‹_›).elim | exact (tf ‹_› h).elim | skip))
        all_goals first | omega | (rw [if_pos (by assumption)] at hrun; rw [← hrun]; done) | skip
        · rw [if_neg (by assumption)] at hrun
          exact ⟨⟨(k + 1, a + O6 x.ins.op, seen, acc), hlt, hrun, by simp only; omega, by simp only; omega, by simp only; omega, by simp only; omega⟩, (Ent.mk (id) (by simp [Za, Zb, Vc.bnd, St.get, St.find, Zf, SV.ren, S1.ren, At.ren, Res.ren, SV.bd, S1.bd, At.bd, Res.bd, Vc.upd, Vc.del, Kd.enc, Value.oneCell', hw]) (by simp [Za, Zb, Vc.bnd, St.get, St.find, Zf, SV.ren, S1.ren, At.ren, Res.ren, SV.bd, S1.bd, At.bd, Res.bd, Vc.upd, Vc.del, Kd.enc, Value.oneCell', hw]) (by simp [Za, Zb, Vc.bnd, St.get, St.find, Zf, SV.ren, S1.ren, At.ren, Res.ren, SV.bd, S1.bd, At.bd, Res.bd, Vc.upd, Vc.del, Kd.enc, Value.oneCell', hw]) (by simp [Za, Zb, Vc.bnd, St.get, St.find, Zf, SV.ren, S1.ren, At.ren, Res.ren, SV.bd, S1.bd, At.bd, Res.bd, Vc.upd, Vc.del, Kd.enc, Value.oneCell', hw])), by simp only; omega⟩
      · rw [if_pos hlb] at hrun
        have hnm := T8 (Sk hwr hlb).1
        have hseen : (Pd seen x.label) = if x.label ∈ seen then some true else none := rfl
        by_cases hin : x.label ∈ seen
        · rw [if_pos hin] at hrun
          rw [if_pos hin] at hseen
          repeat' (first | ((first | (with_reducible first | refine T.regs ?_ | refine T.cond ?_ | refine T.reg ?_ | refine T.ret ?_ | refine T.exit ?_ | refine T.skip ?_) | ((with_reducible first | refine T.dregs ?_ ?_ | refine T.dreg ?_ ?_ | refine T.dregts ?_ ?_ | refine T.dregt ?_ ?_ | refine T.danys ?_ ?_ | refine T.dany ?_ ?_); exact mix) | ((with_reducible first | apply Yi.rd (Vz _) | apply Yu.rd (Vz _)); (focus ((repeat' (first | exact rfl | exact trivial | refine And.intro ?_ ?_ | (simp [SV.bd, S1.bd, At.bd, Zq, Yy, Ins.cells, Ln.cells]; done))); done)))); simp only [Z9, Zz, Zy, Vc.exK, Zj, Zo, Zh, Zi, Zv, Xo, Y2, Zw, Zl, Zk, Zx, Zm, Zn, Xl, Z4, Xk, Vc.ev, Vc.st, Vc.stq, Vc.gst, Xh, St.rd, St.get, St.put, St.find, Zf, St.new, Vc.gdc, Zp, Yr, Yt, Yq, Xg, Zt, Zr, Yj, Yg, S1.cells, Vc.upd, Vc.del, Zg, Vc.noV, Kd.enc, Kd.dec, Ins.cells, Ln.cells, Yb, Z7, Ym, Z8, Y3, Vc.rvs, Y9, Ze, Y7, Y0, Y5, Y6, Y8, Xa, Yk, Xe, Z5, Zu, Zc, Zs, Y1, Xf, Zq, SV.bd, S1.bd, At.bd, Value.oneCell', Int.reduceEq, Int.reduceNeg, Int.reduceLE, Int.reduceLT, Vc.lenOf, Yn, Xc, Z2, Vc.atK, Z3, Vc.unK, Vc.wfK, Yf, Yc, Ye, Z0, Z6, Yd, Z1, Yp, Vc.sg, Yz, Y4, Xd, Xb, Ya, Res.own, At.sub, S1.sub, SV.sub, Res.sub, Xm, Xn, Ys, Yo, Yl, Vc.frS, Kd.sz, Nat.reduceSub, ↓reduceIte, reduceCtorEq, Nat.reduceEqDiff, Nat.reduceAdd, Nat.reduceMul, Nat.reduceLeDiff, Nat.reduceLT, Nat.reduceBEq, Nat.reduceBNe, implies_true, Xp, Wv.rs, Wv.res, hx', hw, ht, hwr, hlb, hseen, Int.ofNat_lt]) | (with_reducible first | refine T.seq ?_ | refine T.block ?_ | assumption | refine And.intro ?_ ?_) | (intro h; first | (exfalso; omega) | exact (tf h ‹_›).elim | exact (tf ‹_› h).elim | skip))
          all_goals first | omega | (rw [← hrun]; done) | skip
        · rw [if_neg hin] at hrun
          rw [if_neg hin] at hseen
          repeat' (first | ((first | (with_reducible first | refine T.regs ?_ | refine T.cond ?_ | refine T.reg ?_ | refine T.ret ?_ | refine T.exit ?_ | refine T.skip ?_) | ((with_reducible first | refine T.dregs ?_ ?_ | refine T.dreg ?_ ?_ | refine T.dregts ?_ ?_ | refine T.dregt ?_ ?_ | refine T.danys ?_ ?_ | refine T.dany ?_ ?_); exact mix) | ((with_reducible first | apply Yi.rd (Vz _) | apply Yu.rd (Vz _)); (focus ((repeat' (first | exact rfl | exact trivial | refine And.intro ?_ ?_ | (simp [SV.bd, S1.bd, At.bd, Zq, Yy, Ins.cells, Ln.cells]; done))); done)))); simp only [Z9, Zz, Zy, Vc.exK, Zj, Zo, Zh, Zi, Zv, Xo, Y2, Zw, Zl, Zk, Zx, Zm, Zn, Xl, Z4, Xk, Vc.ev, Vc.st, Vc.stq, Vc.gst, Xh, St.rd, St.get, St.put, St.find, Zf, St.new, Vc.gdc, Zp, Yr, Yt, Yq, Xg, Zt, Zr, Yj, Yg, S1.cells, Vc.upd, Vc.del, Zg, Vc.noV, Kd.enc, Kd.dec, Ins.cells, Ln.cells, Yb, Z7, Ym, Z8, Y3, Vc.rvs, Y9, Ze, Y7, Y0, Y5, Y6, Y8, Xa, Yk, Xe, Z5, Zu, Zc, Zs, Y1, Xf, Zq, SV.bd, S1.bd, At.bd, Value.oneCell', Int.reduceEq, Int.reduceNeg, Int.reduceLE, Int.reduceLT, Vc.lenOf, Yn, Xc, Z2, Vc.atK, Z3, Vc.unK, Vc.wfK, Yf, Yc, Ye, Z0, Z6, Yd, Z1, Yp, Vc.sg, Yz, Y4, Xd, Xb, Ya, Res.own, At.sub, S1.sub, SV.sub, Res.sub, Xm, Xn, Ys, Yo, Yl, Vc.frS, Kd.sz, Nat.reduceSub, ↓reduceIte, reduceCtorEq, Nat.reduceEqDiff, Nat.reduceAdd, Nat.reduceMul, Nat.reduceLeDiff, Nat.reduceLT, Nat.reduceBEq, Nat.reduceBNe, implies_true, Xp, Wv.rs, Wv.res, hx', hw, ht, hwr, hlb, hseen, Np, dfltB, Int.ofNat_lt]) | (with_reducible first | refine T.seq ?_ | refine T.block ?_ | assumption | refine And.intro ?_ ?_) | (intro h; first | (exfalso; omega) | exact (tf h ‹_›).elim | exact (tf ‹_› h).elim | skip))
          all_goals first | omega | skip
          exact ⟨⟨(k + 1, a, x.label :: seen, acc ++ [⟨x.label, a⟩]), hlt, hrun, ha0, ha1, by simp only [List.length_cons]; omega, by simp only [List.length_append, List.length_cons, List.length_nil]; omega⟩, (Ent.mk (fun n => if n = 3 then 6 else n) (by simp [Za, Zb, Vc.bnd, St.get, St.find, Zf, SV.ren, S1.ren, At.ren, Res.ren, SV.bd, S1.bd, At.bd, Res.bd, Vc.upd, Vc.del, Kd.enc, Value.oneCell', hw]) (by simp [Za, Zb, Vc.bnd, St.get, St.find, Zf, SV.ren, S1.ren, At.ren, Res.ren, SV.bd, S1.bd, At.bd, Res.bd, Vc.upd, Vc.del, Kd.enc, Value.oneCell', hw]) (by simp [Za, Zb, Vc.bnd, St.get, St.find, Zf, SV.ren, S1.ren, At.ren, Res.ren, SV.bd, S1.bd, At.bd, Res.bd, Vc.upd, Vc.del, Kd.enc, Value.oneCell', hw]) (by simp [Za, Zb, Vc.bnd, St.get, St.find, Zf, SV.ren, S1.ren, At.ren, Res.ren, SV.bd, S1.bd, At.bd, Res.bd, Vc.upd, Vc.del, Kd.enc, Value.oneCell', hw])), by simp only; omega⟩
    · rw [if_pos (by simpa using hwr)] at hrun
      repeat' (first | ((first | (with_reducible first | refine T.regs ?_ | refine T.cond ?_ | refine T.reg ?_ | refine T.ret ?_ | refine T.exit ?_ | refine T.skip ?_) | ((with_reducible first | refine T.dregs ?_ ?_ | refine T.dreg ?_ ?_ | refine T.dregts ?_ ?_ | refine T.dregt ?_ ?_ | refine T.danys ?_ ?_ | refine T.dany ?_ ?_); exact mix) | ((with_reducible first | apply Yi.rd (Vz _) | apply Yu.rd (Vz _)); (focus ((repeat' (first | exact rfl | exact trivial | refine And.intro ?_ ?_ | (simp [SV.bd, S1.bd, At.bd, Zq, Yy, Ins.cells, Ln.cells]; done))); done)))); simp only [Z9, Zz, Zy, Vc.exK, Zj, Zo, Zh, Zi, Zv, Xo, Y2, Zw, Zl, Zk, Zx, Zm, Zn, Xl, Z4, Xk, Vc.ev, Vc.st, Vc.stq, Vc.gst, Xh, St.rd, St.get, St.put, St.find, Zf, St.new, Vc.gdc, Zp, Yr, Yt, Yq, Xg, Zt, Zr, Yj, Yg, S1.cells, Vc.upd, Vc.del, Zg, Vc.noV, Kd.enc, Kd.dec, Ins.cells, Ln.cells, Yb, Z7, Ym, Z8, Y3, Vc.rvs, Y9, Ze, Y7, Y0, Y5, Y6, Y8, Xa, Yk, Xe, Z5, Zu, Zc, Zs, Y1, Xf, Zq, SV.bd, S1.bd, At.bd, Value.oneCell', Int.reduceEq, Int.reduceNeg, Int.reduceLE, Int.reduceLT, Vc.lenOf, Yn, Xc, Z2, Vc.atK, Z3, Vc.unK, Vc.wfK, Yf, Yc, Ye, Z0, Z6, Yd, Z1, Yp, Vc.sg, Yz, Y4, Xd, Xb, Ya, Res.own, At.sub, S1.sub, SV.sub, Res.sub, Xm, Xn, Ys, Yo, Yl, Vc.frS, Kd.sz, Nat.reduceSub, ↓reduceIte, reduceCtorEq, Nat.reduceEqDiff, Nat.reduceAdd, Nat.reduceMul, Nat.reduceLeDiff, Nat.reduceLT, Nat.reduceBEq, Nat.reduceBNe, implies_true, Xp, Wv.rs, Wv.res, hx', hw, ht, hwr, Int.ofNat_lt]) | (with_reducible first | refine T.seq ?_ | refine T.block ?_ | assumption | refine And.intro ?_ ?_) | (intro h; first | (exfalso; omega) | exact (tf h ‹_›).elim | exact (tf ‹_› h).elim | skip))
      all_goals first | omega | (rw [← hrun]; done) | skip
  · have hk2 : k = l.length := by omega
    subst hk2
    rw [List.drop_length] at hrun
    simp only [Wy] at hrun
    repeat' (first | ((first | (with_reducible first | refine T.regs ?_ | refine T.cond ?_ | refine T.reg ?_ | refine T.ret ?_ | refine T.exit ?_ | refine T.skip ?_) | ((with_reducible first | refine T.dregs ?_ ?_ | refine T.dreg ?_ ?_ | refine T.dregts ?_ ?_ | refine T.dregt ?_ ?_ | refine T.danys ?_ ?_ | refine T.dany ?_ ?_); exact mix)); simp only [Z9, Zz, Zy, Vc.exK, Zj, Zo, Zh, Zi, Zv, Xo, Y2, Zw, Zl, Zk, Zx, Zm, Zn, Xl, Z4, Xk, Vc.ev, Vc.st, Vc.stq, Vc.gst, Xh, St.rd, St.get, St.put, St.find, Zf, St.new, Vc.gdc, Zp, Yr, Yt, Yq, Xg, Zt, Zr, Yj, Yg, S1.cells, Vc.upd, Vc.del, Zg, Vc.noV, Kd.enc, Kd.dec, Ins.cells, Ln.cells, Yb, Z7, Ym, Z8, Y3, Vc.rvs, Y9, Ze, Y7, Y0, Y5, Y6, Y8, Xa, Yk, Xe, Z5, Zu, Zc, Zs, Y1, Xf, Zq, SV.bd, S1.bd, At.bd, Value.oneCell', Int.reduceEq, Int.reduceNeg, Int.reduceLE, Int.reduceLT, Vc.lenOf, Yn, Xc, Z2, Vc.atK, Z3, Vc.unK, Vc.wfK, Yf, Yc, Ye, Z0, Z6, Yd, Z1, Yp, Vc.sg, Yz, Y4, Xd, Xb, Ya, Res.own, At.sub, S1.sub, SV.sub, Res.sub, Xm, Xn, Ys, Yo, Yl, Vc.frS, Kd.sz, Nat.reduceSub, ↓reduceIte, reduceCtorEq, Nat.reduceEqDiff, Nat.reduceAdd, Nat.reduceMul, Nat.reduceLeDiff, Nat.reduceLT, Nat.reduceBEq, Nat.reduceBNe, implies_true, Xp, Wv.rs, Wv.res, Int.ofNat_lt]) | (with_reducible first | refine T.seq ?_ | refine T.block ?_ | assumption | refine And.intro ?_ ?_) | (intro h; first | (exfalso; omega) | exact (tf h ‹_›).elim | exact (tf ‹_› h).elim | skip))
    all_goals first | omega | (rw [← hrun]; done) | skip
end Go.Proofs.Ytibkcfpcfbodaaa
