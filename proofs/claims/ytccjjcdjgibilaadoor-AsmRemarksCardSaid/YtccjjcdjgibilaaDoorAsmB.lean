/-
  A part of the proofs of this seat's laws: a step on the way. It has no conditions of its own.
-/
import Derived.Test.YtccjjcdjgibilaaDoorAsmA
import Derived.Test.YtccjjcdjgibilaaDoorIrB
namespace Go.Proofs.YtccjjcdjgibilaaDoor
open Go.RowKit Vc
set_option linter.unusedVariables false
set_option linter.unusedSimpArgs false
attribute [local irreducible] T Z2 Wi Ent RdC RwC Uj Yg Xs
def Um : List Ln → Nat → Int → List (List UInt8) → List Spot → List Spot × Int × Int × Int
  | [], _, at_, _, acc => (acc, at_, 0, 0)
  | x :: l, k, at_, seen, acc => if V0 x ≠ 0 then ([], 0, V0 x, k) else
      if x.label ≠ [] then (if x.label ∈ seen then ([], 0, 7, k) else Um l (k + 1) at_ (x.label :: seen) (acc ++ [⟨x.label, at_⟩]))
      else if 65536 < at_ + S7 x then ([], 0, 4, k) else Um l (k + 1) (at_ + S7 x) seen acc
def Vq (l : List Ln) (at_ : Int) : List Spot × Int × Int × Int := Um l 0 at_ [] []
def P6 (seen : List (List UInt8)) : List UInt8 → Option (Kd.ty .bool) := fun s => if s ∈ seen then some true else none
theorem S0 : P6 [] = fun _ => none := by funext s; simp [P6]
theorem Lv (s : List UInt8) (seen : List (List UInt8)) : (fun t => if t = s then some true else P6 seen t) = P6 (s :: seen) := by
  funext t; simp only [P6, List.mem_cons]
  by_cases h : t = s <;> simp [h]
theorem Pv {s : List UInt8} (h : Wv s = true) : s.length ≤ 32 := by
  simp only [Wv, Bool.and_eq_true, decide_eq_true_eq] at h; omega
theorem Rv {x : Ln} (h : V0 x = 0) (hl : x.label ≠ []) : Wv x.label = true ∧ x.ref = [] ∧ x.ins = V7 := by
  unfold V0 at h
  rw [if_pos hl] at h
  split at h
  · omega
  · rename_i hn
    split at h
    · omega
    · rename_i h2
      simp only [not_or, ne_eq, Decidable.not_not] at h2
      exact ⟨by simpa using hn, h2⟩
theorem Q3 {x : Ln} (h : V0 x = 0) (hl : x.label = []) : Ve x.ins = 0 ∧ (x.ref ≠ [] → Wv x.ref = true ∧ Vf x.ins.op = true ∧ x.ins.imm = 0) := by
  unfold V0 at h
  rw [if_neg (by simpa using hl)] at h
  split at h
  · rename_i h1; exact absurd h h1
  · rename_i h1
    refine ⟨by simpa using h1, fun hr => ?_⟩
    rw [if_neg hr] at h
    split at h
    · omega
    · rename_i hn
      split at h
      · omega
      · rename_i h2
        simp only [not_or, ne_eq, Decidable.not_not, Bool.not_eq_false] at h2
        exact ⟨by simpa using hn, h2⟩
theorem Nl {x : Ins} (h : Ve x = 0) : Vj x.op = true := by
  unfold Ve at h
  split at h
  · omega
  · rename_i hk; simpa using hk
theorem Kl {x : Ln} (h : x.label = []) : S7 x = P2 x.ins.op := by
  unfold S7 P2; rw [if_neg (by simpa using h)]
theorem Mv (x : Ln) : 0 ≤ S7 x ∧ S7 x ≤ 2 := by
  unfold S7; repeat' split
  all_goals omega
theorem dfltB : Kd.dflt .bool = false := rfl
set_option maxHeartbeats 2000000 in
theorem Kn (l : List Ln) (at_ : Int) (hlen : l.length ≤ 40000) (h0 : 0 ≤ at_) (h1 : at_ ≤ 65536) :
    RwC Tryd.prog 38 [.ro .line l, .v (.a (.int .i64 at_))] 76 .spot (Vq l at_).1 [.a (.int .i64 (Vq l at_).2.1), .agg [.int .i64 (Vq l at_).2.2.1, .int .i64 (Vq l at_).2.2.2]] := by
  refine Wq.fn.rw (by simp) (by repeat' (first | exact rfl | exact trivial | refine And.intro ?_ ?_ | (simp [SV.bd, Vc.S1.bd, At.bd, Zr, Yw, Ins.cells, Ln.cells]; done))) (by simp [S1.bd, At.bd]) fun w => ?_
  repeat' (first | ((first | (with_reducible first | refine T.regs ?_ | refine T.cond ?_ | refine T.reg ?_ | refine T.ret ?_ | refine T.exit ?_ | refine T.skip ?_) | ((with_reducible first | refine T.dregs ?_ ?_ | refine T.dreg ?_ ?_ | refine T.dregts ?_ ?_ | refine T.dregt ?_ ?_ | refine T.danys ?_ ?_ | refine T.dany ?_ ?_); exact mix)); simp only [Yh, Z1, Zy, Vc.exK, Zm, Zj, Zh, Zg, Zx, Xp, Y7, Z0, Zn, Zl, Zz, Zk, Zi, Xm, Yc, Xn, Vc.ev, Vc.st, Vc.stq, Vc.gst, Xk, St.rd, St.get, St.put, St.find, Ze, St.new, Vc.gdc, Zs, Yt, Yp, Yr, Xl, Zw, Zt, Yj, Yi, Vc.S1.cells, Vc.upd, Vc.del, Zd, Vc.noV, Kd.enc, Kd.dec, Ins.cells, Ln.cells, Z4, Ye, Yn, Yf, Y4, Vc.rvs, Xc, Zc, Y8, Y2, Y5, Y9, Xb, Xe, Yk, Xh, Yb, Zv, Zb, Zu, Vc.kdL, Xq, Y3, Xi, Zr, SV.bd, Vc.S1.bd, At.bd, Value.oneCell', Int.reduceEq, Int.reduceNeg, Int.reduceLE, Int.reduceLT, Vc.lenOf, Yl, Xg, Z7, Vc.atK, Z8, Vc.unK, Vc.wfK, Ya, Z6, Z9, Zp, Yd, Z5, Zq, Ys, Vc.sg, Y1, Y6, Xd, Xa, Z3, Res.own, At.sub, Vc.S1.sub, SV.sub, Res.sub, Xj, Xo, Yo, Yq, Ym, Vc.frS, Kd.sz, Nat.reduceSub, ↓reduceIte, reduceCtorEq, Nat.reduceEqDiff, Nat.reduceAdd, Nat.reduceMul, Nat.reduceLeDiff, Nat.reduceLT, Nat.reduceBEq, Nat.reduceBNe, implies_true, Xr, Wq.rs, Wq.res]) | (with_reducible first | refine T.seq ?_ | refine T.block ?_ | assumption | refine And.intro ?_ ?_) | (intro h; first | (exfalso; omega) | exact (tf h ‹_›).elim | exact (tf ‹_› h).elim | skip))
  refine T.weak (Ent.nilRow (t := 7) 76 .spot rfl) ?_
  simp only [Yh, Z1, Zy, Vc.exK, Zm, Zj, Zh, Zg, Zx, Xp, Y7, Z0, Zn, Zl, Zz, Zk, Zi, Xm, Yc, Xn, Vc.ev, Vc.st, Vc.stq, Vc.gst, Xk, St.rd, St.get, St.put, St.find, Ze, St.new, Vc.gdc, Zs, Yt, Yp, Yr, Xl, Zw, Zt, Yj, Yi, Vc.S1.cells, Vc.upd, Vc.del, Zd, Vc.noV, Kd.enc, Kd.dec, Ins.cells, Ln.cells, Z4, Ye, Yn, Yf, Y4, Vc.rvs, Xc, Zc, Y8, Y2, Y5, Y9, Xb, Xe, Yk, Xh, Yb, Zv, Zb, Zu, Vc.kdL, Xq, Y3, Xi, Zr, SV.bd, Vc.S1.bd, At.bd, Value.oneCell', Int.reduceEq, Int.reduceNeg, Int.reduceLE, Int.reduceLT, Vc.lenOf, Yl, Xg, Z7, Vc.atK, Z8, Vc.unK, Vc.wfK, Ya, Z6, Z9, Zp, Yd, Z5, Zq, Ys, Vc.sg, Y1, Y6, Xd, Xa, Z3, Res.own, At.sub, Vc.S1.sub, SV.sub, Res.sub, Xj, Xo, Yo, Yq, Ym, Vc.frS, Kd.sz, Nat.reduceSub, ↓reduceIte, reduceCtorEq, Nat.reduceEqDiff, Nat.reduceAdd, Nat.reduceMul, Nat.reduceLeDiff, Nat.reduceLT, Nat.reduceBEq, Nat.reduceBNe, implies_true, Xr]
  refine T.loop (ι := { p : Nat × Int × List (List UInt8) × List Spot // p.1 ≤ l.length ∧ Um (l.drop p.1) p.1 p.2.1 p.2.2.1 p.2.2.2 = Vq l at_ ∧ 0 ≤ p.2.1 ∧ p.2.1 ≤ 65536 ∧ p.2.2.1.length ≤ p.1 ∧ p.2.2.2.length ≤ p.1 })
    (fun x => ⟨[(17, .one (.a (.int .i64 (x.1.1 : Int)))), (16, .one (.a (.int .i64 l.length))), (15, .one (.a (.ref 0))), (8, .one (.a (.ref 2))), (7, .one (.a (.ref 3))), (6, .one (.a (.loc 1 0))), (1, .one (.a (.int .i64 x.1.2.1)))],
      [(3, .row 76 .spot x.1.2.2.2), (2, .smap Tryd.prog 9 4 .bool (P6 x.1.2.2.1) x.1.2.2.1.length), (1, .cells 31 [.int .i64 0, .int .i64 0]), (0, .ro .line l)], 4⟩)
    (fun x => l.length - x.1.1) ⟨(0, at_, [], []), by simp, by simp [Vq], h0, h1, by simp, by simp⟩ (Ent.mk (id) (by simp [Za, Zo, Vc.bnd, St.get, St.find, Ze, SV.ren, Vc.S1.ren, At.ren, Res.ren, SV.bd, Vc.S1.bd, At.bd, Res.bd, Vc.upd, Vc.del, Kd.enc, Value.oneCell', S0]) (by simp [Za, Zo, Vc.bnd, St.get, St.find, Ze, SV.ren, Vc.S1.ren, At.ren, Res.ren, SV.bd, Vc.S1.bd, At.bd, Res.bd, Vc.upd, Vc.del, Kd.enc, Value.oneCell', S0]) (by simp [Za, Zo, Vc.bnd, St.get, St.find, Ze, SV.ren, Vc.S1.ren, At.ren, Res.ren, SV.bd, Vc.S1.bd, At.bd, Res.bd, Vc.upd, Vc.del, Kd.enc, Value.oneCell', S0]) (by simp [Za, Zo, Vc.bnd, St.get, St.find, Ze, SV.ren, Vc.S1.ren, At.ren, Res.ren, SV.bd, Vc.S1.bd, At.bd, Res.bd, Vc.upd, Vc.del, Kd.enc, Value.oneCell', S0])) ?_
  rintro ⟨⟨k, a, seen, acc⟩, hk, hrun, ha0, ha1, hs, hacc⟩
  simp only at hk hrun ha0 ha1 hs hacc
  by_cases hlt : k < l.length
  · have hdrop : l.drop k = l.getD k ln0 :: l.drop (k + 1) := by
      rw [List.drop_eq_getElem_cons hlt]; simp [List.getD, hlt]
    generalize hx : l.getD k ln0 = x at hdrop
    have hx' : l.getD k (Kd.dflt .line) = x := hx
    rw [hdrop] at hrun
    simp only [Um] at hrun
    have hw : IntKind.i64.wrap ((k : Int) + 1) = ((k + 1 : Nat) : Int) := Wp (by omega)
    have ht : ((k : Int)).toNat = k := by omega
    by_cases hwr : V0 x = 0
    · rw [if_neg (by simpa using hwr)] at hrun
      by_cases hlb : x.label = []
      · rw [if_neg (by simpa using hlb)] at hrun
        have hkn := Nl (Q3 hwr hlb).1
        have hlg := Kl hlb
        have hle := Mv x
        rw [hlg] at hrun hle
        have hwa : IntKind.i64.wrap (a + P2 x.ins.op) = a + P2 x.ins.op := T5 (by omega) (by omega)
        have hlbd : decide (x.label = []) = true := decide_eq_true hlb
        repeat' (first | ((first | (with_reducible first | refine T.regs ?_ | refine T.cond ?_ | refine T.reg ?_ | refine T.ret ?_ | refine T.exit ?_ | refine T.skip ?_) | ((with_reducible first | refine T.dregs ?_ ?_ | refine T.dreg ?_ ?_ | refine T.dregts ?_ ?_ | refine T.dregt ?_ ?_ | refine T.danys ?_ ?_ | refine T.dany ?_ ?_); exact mix) | ((with_reducible first | apply Z2.rd (W8 _) | apply Yg.rd (W8 _)); (focus ((repeat' (first | exact rfl | exact trivial | refine And.intro ?_ ?_ | (simp [SV.bd, Vc.S1.bd, At.bd, Zr, Yw, Ins.cells, Ln.cells]; done))); done))) | ((with_reducible first | apply Z2.rd (Ma _ hkn) | apply Yg.rd (Ma _ hkn)); (focus ((repeat' (first | exact rfl | exact trivial | refine And.intro ?_ ?_ | (simp [SV.bd, Vc.S1.bd, At.bd, Zr, Yw, Ins.cells, Ln.cells]; done))); done)))); simp only [Yh, Z1, Zy, Vc.exK, Zm, Zj, Zh, Zg, Zx, Xp, Y7, Z0, Zn, Zl, Zz, Zk, Zi, Xm, Yc, Xn, Vc.ev, Vc.st, Vc.stq, Vc.gst, Xk, St.rd, St.get, St.put, St.find, Ze, St.new, Vc.gdc, Zs, Yt, Yp, Yr, Xl, Zw, Zt, Yj, Yi, Vc.S1.cells, Vc.upd, Vc.del, Zd, Vc.noV, Kd.enc, Kd.dec, Ins.cells, Ln.cells, Z4, Ye, Yn, Yf, Y4, Vc.rvs, Xc, Zc, Y8, Y2, Y5, Y9, Xb, Xe, Yk, Xh, Yb, Zv, Zb, Zu, Vc.kdL, Xq, Y3, Xi, Zr, SV.bd, Vc.S1.bd, At.bd, Value.oneCell', Int.reduceEq, Int.reduceNeg, Int.reduceLE, Int.reduceLT, Vc.lenOf, Yl, Xg, Z7, Vc.atK, Z8, Vc.unK, Vc.wfK, Ya, Z6, Z9, Zp, Yd, Z5, Zq, Ys, Vc.sg, Y1, Y6, Xd, Xa, Z3, Res.own, At.sub, Vc.S1.sub, SV.sub, Res.sub, Xj, Xo, Yo, Yq, Ym, Vc.frS, Kd.sz, Nat.reduceSub, ↓reduceIte, reduceCtorEq, Nat.reduceEqDiff, Nat.reduceAdd, Nat.reduceMul, Nat.reduceLeDiff, Nat.reduceLT, Nat.reduceBEq, Nat.reduceBNe, implies_true, Xr, Wq.rs, Wq.res, hx', hw, ht, hwr, hlbd, hwa, Int.ofNat_lt]) | (with_reducible first | refine T.seq ?_ | refine T.block ?_ | assumption | refine And.intro ?_ ?_) | (intro h; first | (exfalso; omega) | exact (tf h ‹_›).elim | exact (tf ‹_› h).elim | skip))
        all_goals first | omega | (rw [if_pos (by assumption)] at hrun; rw [← hrun]; done) | skip
        · rw [if_neg (by assumption)] at hrun
          exact ⟨⟨(k + 1, a + P2 x.ins.op, seen, acc), hlt, hrun, by simp only; omega, by simp only; omega, by simp only; omega, by simp only; omega⟩, (Ent.mk (id) (by simp [Za, Zo, Vc.bnd, St.get, St.find, Ze, SV.ren, Vc.S1.ren, At.ren, Res.ren, SV.bd, Vc.S1.bd, At.bd, Res.bd, Vc.upd, Vc.del, Kd.enc, Value.oneCell', hw]) (by simp [Za, Zo, Vc.bnd, St.get, St.find, Ze, SV.ren, Vc.S1.ren, At.ren, Res.ren, SV.bd, Vc.S1.bd, At.bd, Res.bd, Vc.upd, Vc.del, Kd.enc, Value.oneCell', hw]) (by simp [Za, Zo, Vc.bnd, St.get, St.find, Ze, SV.ren, Vc.S1.ren, At.ren, Res.ren, SV.bd, Vc.S1.bd, At.bd, Res.bd, Vc.upd, Vc.del, Kd.enc, Value.oneCell', hw]) (by simp [Za, Zo, Vc.bnd, St.get, St.find, Ze, SV.ren, Vc.S1.ren, At.ren, Res.ren, SV.bd, Vc.S1.bd, At.bd, Res.bd, Vc.upd, Vc.del, Kd.enc, Value.oneCell', hw])), by simp only; omega⟩
      · rw [if_pos hlb] at hrun
        have hnm := Pv (Rv hwr hlb).1
        have hseen : (P6 seen x.label) = if x.label ∈ seen then some true else none := rfl
        by_cases hin : x.label ∈ seen
        · rw [if_pos hin] at hrun
          rw [if_pos hin] at hseen
          repeat' (first | ((first | (with_reducible first | refine T.regs ?_ | refine T.cond ?_ | refine T.reg ?_ | refine T.ret ?_ | refine T.exit ?_ | refine T.skip ?_) | ((with_reducible first | refine T.dregs ?_ ?_ | refine T.dreg ?_ ?_ | refine T.dregts ?_ ?_ | refine T.dregt ?_ ?_ | refine T.danys ?_ ?_ | refine T.dany ?_ ?_); exact mix) | ((with_reducible first | apply Z2.rd (W8 _) | apply Yg.rd (W8 _)); (focus ((repeat' (first | exact rfl | exact trivial | refine And.intro ?_ ?_ | (simp [SV.bd, Vc.S1.bd, At.bd, Zr, Yw, Ins.cells, Ln.cells]; done))); done)))); simp only [Yh, Z1, Zy, Vc.exK, Zm, Zj, Zh, Zg, Zx, Xp, Y7, Z0, Zn, Zl, Zz, Zk, Zi, Xm, Yc, Xn, Vc.ev, Vc.st, Vc.stq, Vc.gst, Xk, St.rd, St.get, St.put, St.find, Ze, St.new, Vc.gdc, Zs, Yt, Yp, Yr, Xl, Zw, Zt, Yj, Yi, Vc.S1.cells, Vc.upd, Vc.del, Zd, Vc.noV, Kd.enc, Kd.dec, Ins.cells, Ln.cells, Z4, Ye, Yn, Yf, Y4, Vc.rvs, Xc, Zc, Y8, Y2, Y5, Y9, Xb, Xe, Yk, Xh, Yb, Zv, Zb, Zu, Vc.kdL, Xq, Y3, Xi, Zr, SV.bd, Vc.S1.bd, At.bd, Value.oneCell', Int.reduceEq, Int.reduceNeg, Int.reduceLE, Int.reduceLT, Vc.lenOf, Yl, Xg, Z7, Vc.atK, Z8, Vc.unK, Vc.wfK, Ya, Z6, Z9, Zp, Yd, Z5, Zq, Ys, Vc.sg, Y1, Y6, Xd, Xa, Z3, Res.own, At.sub, Vc.S1.sub, SV.sub, Res.sub, Xj, Xo, Yo, Yq, Ym, Vc.frS, Kd.sz, Nat.reduceSub, ↓reduceIte, reduceCtorEq, Nat.reduceEqDiff, Nat.reduceAdd, Nat.reduceMul, Nat.reduceLeDiff, Nat.reduceLT, Nat.reduceBEq, Nat.reduceBNe, implies_true, Xr, Wq.rs, Wq.res, hx', hw, ht, hwr, hlb, hseen, Int.ofNat_lt]) | (with_reducible first | refine T.seq ?_ | refine T.block ?_ | assumption | refine And.intro ?_ ?_) | (intro h; first | (exfalso; omega) | exact (tf h ‹_›).elim | exact (tf ‹_› h).elim | skip))
          all_goals first | omega | (rw [← hrun]; done) | skip
        · rw [if_neg hin] at hrun
          rw [if_neg hin] at hseen
          repeat' (first | ((first | (with_reducible first | refine T.regs ?_ | refine T.cond ?_ | refine T.reg ?_ | refine T.ret ?_ | refine T.exit ?_ | refine T.skip ?_) | ((with_reducible first | refine T.dregs ?_ ?_ | refine T.dreg ?_ ?_ | refine T.dregts ?_ ?_ | refine T.dregt ?_ ?_ | refine T.danys ?_ ?_ | refine T.dany ?_ ?_); exact mix) | ((with_reducible first | apply Z2.rd (W8 _) | apply Yg.rd (W8 _)); (focus ((repeat' (first | exact rfl | exact trivial | refine And.intro ?_ ?_ | (simp [SV.bd, Vc.S1.bd, At.bd, Zr, Yw, Ins.cells, Ln.cells]; done))); done)))); simp only [Yh, Z1, Zy, Vc.exK, Zm, Zj, Zh, Zg, Zx, Xp, Y7, Z0, Zn, Zl, Zz, Zk, Zi, Xm, Yc, Xn, Vc.ev, Vc.st, Vc.stq, Vc.gst, Xk, St.rd, St.get, St.put, St.find, Ze, St.new, Vc.gdc, Zs, Yt, Yp, Yr, Xl, Zw, Zt, Yj, Yi, Vc.S1.cells, Vc.upd, Vc.del, Zd, Vc.noV, Kd.enc, Kd.dec, Ins.cells, Ln.cells, Z4, Ye, Yn, Yf, Y4, Vc.rvs, Xc, Zc, Y8, Y2, Y5, Y9, Xb, Xe, Yk, Xh, Yb, Zv, Zb, Zu, Vc.kdL, Xq, Y3, Xi, Zr, SV.bd, Vc.S1.bd, At.bd, Value.oneCell', Int.reduceEq, Int.reduceNeg, Int.reduceLE, Int.reduceLT, Vc.lenOf, Yl, Xg, Z7, Vc.atK, Z8, Vc.unK, Vc.wfK, Ya, Z6, Z9, Zp, Yd, Z5, Zq, Ys, Vc.sg, Y1, Y6, Xd, Xa, Z3, Res.own, At.sub, Vc.S1.sub, SV.sub, Res.sub, Xj, Xo, Yo, Yq, Ym, Vc.frS, Kd.sz, Nat.reduceSub, ↓reduceIte, reduceCtorEq, Nat.reduceEqDiff, Nat.reduceAdd, Nat.reduceMul, Nat.reduceLeDiff, Nat.reduceLT, Nat.reduceBEq, Nat.reduceBNe, implies_true, Xr, Wq.rs, Wq.res, hx', hw, ht, hwr, hlb, hseen, Lv, dfltB, Int.ofNat_lt]) | (with_reducible first | refine T.seq ?_ | refine T.block ?_ | assumption | refine And.intro ?_ ?_) | (intro h; first | (exfalso; omega) | exact (tf h ‹_›).elim | exact (tf ‹_› h).elim | skip))
          all_goals first | omega | skip
          exact ⟨⟨(k + 1, a, x.label :: seen, acc ++ [⟨x.label, a⟩]), hlt, hrun, ha0, ha1, by simp only [List.length_cons]; omega, by simp only [List.length_append, List.length_cons, List.length_nil]; omega⟩, (Ent.mk (fun n => if n = 3 then 6 else n) (by simp [Za, Zo, Vc.bnd, St.get, St.find, Ze, SV.ren, Vc.S1.ren, At.ren, Res.ren, SV.bd, Vc.S1.bd, At.bd, Res.bd, Vc.upd, Vc.del, Kd.enc, Value.oneCell', hw]) (by simp [Za, Zo, Vc.bnd, St.get, St.find, Ze, SV.ren, Vc.S1.ren, At.ren, Res.ren, SV.bd, Vc.S1.bd, At.bd, Res.bd, Vc.upd, Vc.del, Kd.enc, Value.oneCell', hw]) (by simp [Za, Zo, Vc.bnd, St.get, St.find, Ze, SV.ren, Vc.S1.ren, At.ren, Res.ren, SV.bd, Vc.S1.bd, At.bd, Res.bd, Vc.upd, Vc.del, Kd.enc, Value.oneCell', hw]) (by simp [Za, Zo, Vc.bnd, St.get, St.find, Ze, SV.ren, Vc.S1.ren, At.ren, Res.ren, SV.bd, Vc.S1.bd, At.bd, Res.bd, Vc.upd, Vc.del, Kd.enc, Value.oneCell', hw])), by simp only; omega⟩
    · rw [if_pos (by simpa using hwr)] at hrun
      repeat' (first | ((first | (with_reducible first | refine T.regs ?_ | refine T.cond ?_ | refine T.reg ?_ | refine T.ret ?_ | refine T.exit ?_ | refine T.skip ?_) | ((with_reducible first | refine T.dregs ?_ ?_ | refine T.dreg ?_ ?_ | refine T.dregts ?_ ?_ | refine T.dregt ?_ ?_ | refine T.danys ?_ ?_ | refine T.dany ?_ ?_); exact mix) | ((with_reducible first | apply Z2.rd (W8 _) | apply Yg.rd (W8 _)); (focus ((repeat' (first | exact rfl | exact trivial | refine And.intro ?_ ?_ | (simp [SV.bd, Vc.S1.bd, At.bd, Zr, Yw, Ins.cells, Ln.cells]; done))); done)))); simp only [Yh, Z1, Zy, Vc.exK, Zm, Zj, Zh, Zg, Zx, Xp, Y7, Z0, Zn, Zl, Zz, Zk, Zi, Xm, Yc, Xn, Vc.ev, Vc.st, Vc.stq, Vc.gst, Xk, St.rd, St.get, St.put, St.find, Ze, St.new, Vc.gdc, Zs, Yt, Yp, Yr, Xl, Zw, Zt, Yj, Yi, Vc.S1.cells, Vc.upd, Vc.del, Zd, Vc.noV, Kd.enc, Kd.dec, Ins.cells, Ln.cells, Z4, Ye, Yn, Yf, Y4, Vc.rvs, Xc, Zc, Y8, Y2, Y5, Y9, Xb, Xe, Yk, Xh, Yb, Zv, Zb, Zu, Vc.kdL, Xq, Y3, Xi, Zr, SV.bd, Vc.S1.bd, At.bd, Value.oneCell', Int.reduceEq, Int.reduceNeg, Int.reduceLE, Int.reduceLT, Vc.lenOf, Yl, Xg, Z7, Vc.atK, Z8, Vc.unK, Vc.wfK, Ya, Z6, Z9, Zp, Yd, Z5, Zq, Ys, Vc.sg, Y1, Y6, Xd, Xa, Z3, Res.own, At.sub, Vc.S1.sub, SV.sub, Res.sub, Xj, Xo, Yo, Yq, Ym, Vc.frS, Kd.sz, Nat.reduceSub, ↓reduceIte, reduceCtorEq, Nat.reduceEqDiff, Nat.reduceAdd, Nat.reduceMul, Nat.reduceLeDiff, Nat.reduceLT, Nat.reduceBEq, Nat.reduceBNe, implies_true, Xr, Wq.rs, Wq.res, hx', hw, ht, hwr, Int.ofNat_lt]) | (with_reducible first | refine T.seq ?_ | refine T.block ?_ | assumption | refine And.intro ?_ ?_) | (intro h; first | (exfalso; omega) | exact (tf h ‹_›).elim | exact (tf ‹_› h).elim | skip))
      all_goals first | omega | (rw [← hrun]; done) | skip
  · have hk2 : k = l.length := by omega
    subst hk2
    rw [List.drop_length] at hrun
    simp only [Um] at hrun
    repeat' (first | ((first | (with_reducible first | refine T.regs ?_ | refine T.cond ?_ | refine T.reg ?_ | refine T.ret ?_ | refine T.exit ?_ | refine T.skip ?_) | ((with_reducible first | refine T.dregs ?_ ?_ | refine T.dreg ?_ ?_ | refine T.dregts ?_ ?_ | refine T.dregt ?_ ?_ | refine T.danys ?_ ?_ | refine T.dany ?_ ?_); exact mix)); simp only [Yh, Z1, Zy, Vc.exK, Zm, Zj, Zh, Zg, Zx, Xp, Y7, Z0, Zn, Zl, Zz, Zk, Zi, Xm, Yc, Xn, Vc.ev, Vc.st, Vc.stq, Vc.gst, Xk, St.rd, St.get, St.put, St.find, Ze, St.new, Vc.gdc, Zs, Yt, Yp, Yr, Xl, Zw, Zt, Yj, Yi, Vc.S1.cells, Vc.upd, Vc.del, Zd, Vc.noV, Kd.enc, Kd.dec, Ins.cells, Ln.cells, Z4, Ye, Yn, Yf, Y4, Vc.rvs, Xc, Zc, Y8, Y2, Y5, Y9, Xb, Xe, Yk, Xh, Yb, Zv, Zb, Zu, Vc.kdL, Xq, Y3, Xi, Zr, SV.bd, Vc.S1.bd, At.bd, Value.oneCell', Int.reduceEq, Int.reduceNeg, Int.reduceLE, Int.reduceLT, Vc.lenOf, Yl, Xg, Z7, Vc.atK, Z8, Vc.unK, Vc.wfK, Ya, Z6, Z9, Zp, Yd, Z5, Zq, Ys, Vc.sg, Y1, Y6, Xd, Xa, Z3, Res.own, At.sub, Vc.S1.sub, SV.sub, Res.sub, Xj, Xo, Yo, Yq, Ym, Vc.frS, Kd.sz, Nat.reduceSub, ↓reduceIte, reduceCtorEq, Nat.reduceEqDiff, Nat.reduceAdd, Nat.reduceMul, Nat.reduceLeDiff, Nat.reduceLT, Nat.reduceBEq, Nat.reduceBNe, implies_true, Xr, Wq.rs, Wq.res, Int.ofNat_lt]) | (with_reducible first | refine T.seq ?_ | refine T.block ?_ | assumption | refine And.intro ?_ ?_) | (intro h; first | (exfalso; omega) | exact (tf h ‹_›).elim | exact (tf ‹_› h).elim | skip))
    all_goals first | omega | (rw [← hrun]; done) | skip
end Go.Proofs.YtccjjcdjgibilaaDoor
