/-
  A part of the proofs of this seat's laws: a step on the way. It has no conditions of its own.
-/
import Derived.Test.YtccjjcdjgibilaaDoorReadN
import Derived.Test.YtccjjcdjgibilaaDoorAsmF
import Derived.Test.YtccjjcdjgibilaaDoorIrW
namespace Go.Proofs.YtccjjcdjgibilaaDoor
open Go Go.RowKit Vc
set_option linter.unusedVariables false
set_option linter.unusedSimpArgs false
attribute [local irreducible] T Z2 Wd Ent RdC RwC Up Ye Xt
def Km : List UInt8 := [97, 58, 10, 9, 108, 100, 105, 32, 114, 49, 44, 32, 53, 32, 59, 32, 102, 105, 118, 101, 10, 9, 106, 109, 112, 32, 97, 10]
def aliveL : List Ln := [⟨[97], V2, []⟩, ⟨[], ⟨2, 1, 0, 5⟩, []⟩, ⟨[], ⟨19, 0, 0, 0⟩, [97]⟩]
theorem Kr : readS Km = (aliveL, 0, 0) := by kernel_rfl
theorem L3 : (asmS aliveL).2 = (0, 0) ∧ (asmS aliveL).1.length = 4 ∧ (asmS aliveL).1.getD 3 0 = 0 := ⟨by kernel_rfl, by kernel_rfl, by kernel_rfl⟩
set_option maxHeartbeats 4000000 in
set_option maxRecDepth 100000 in
theorem Nr {G : Nat} {H : Nat → Option Obj} (hM : R6 G H) : GCp G H Tryd.prog 19 [] [] 0 [] (.one (.a (.bool true))) [] 0 := by
  refine Vl.fn.gcp (by simp) (by simp [U4, Td, U8, W4, Wt, Vc.S1.okN, At.okN, SV.okN, Res.okN, Res.outOk, Zd, Res.own, Value.oneCell']) fun w X fr hglob => ?_
  have hA := Sb hM Km (by decide)
  rw [Kr] at hA
  unfold Km at hA
  have hll : aliveL.length = 3 := rfl
  have hB := Qj aliveL (by decide)
  obtain ⟨h1, h2, h3⟩ := L3
  generalize asmS aliveL = W at hB h1 h2 h3
  generalize aliveL = L at hA hB hll
  obtain ⟨ws, e, k⟩ := W
  simp only [Prod.mk.injEq] at h1 h2 h3 hB
  obtain ⟨rfl, rfl⟩ := h1
  have hl3 : (L.length : Int) = 3 := by omega
  have hl4 : (ws.length : Int) = 4 := by omega
  have h3' : ws.getD (3 : Int).toNat (Kd.dflt (.int .i64)) = (0 : Int) := h3
  repeat' (first | ((first | (with_reducible first | refine T.regs ?_ | refine T.cond ?_ | refine T.reg ?_ | refine T.ret ?_ | refine T.exit ?_ | refine T.skip ?_) | ((with_reducible first | refine T.dregs ?_ ?_ | refine T.dreg ?_ ?_ | refine T.dregts ?_ ?_ | refine T.dregt ?_ ?_ | refine T.danys ?_ ?_ | refine T.dany ?_ ?_); exact mix) | ((with_reducible refine Z2.gcp hglob (hA) ?_ ?_); (focus ((simp [X3, Wl, Vc.mtR, Vc.roA, Vc.roM, Wk, Wm, Wh, Wj, Wf, Vc.fnM, Z5, St.find, Zd, Vc.del, Z3, Res.own, Vc.sg, Yh, Yd, Yg, Zp, Z9, Zr, At.sub, Vc.S1.sub, Res.sub, Kd.enc, Ins.cells, Ln.cells, Value.oneCell', X2, List.nodup_cons]); done))) | ((with_reducible apply Z2.rw (hB)); (focus ((repeat' (first | exact rfl | exact trivial | refine And.intro ?_ ?_ | (simp [SV.bd, Vc.S1.bd, At.bd, Zq, Yv, Ins.cells, Ln.cells]; done))); done)))); simp only [Yf, Zz, Z1, Vc.exK, Zm, Zj, Zg, Zh, Zx, Xn, Y1, Z0, Zl, Zi, Zy, Zk, Zn, Xk, Z7, Xj, Vc.ev, Vc.st, Vc.stq, Vc.gst, Xh, St.rd, St.get, St.put, St.find, Zd, St.new, Vc.gdc, Zs, Yr, Yo, Yq, Xg, Zv, Zt, Yj, Yi, Vc.S1.cells, Vc.upd, Vc.del, Zf, Vc.noV, Kd.enc, Kd.dec, Ins.cells, Ln.cells, Z5, Yc, Yn, Ya, Y0, Vc.rvs, Y6, Zc, Y4, Yx, Y3, Y5, Y9, Xa, Yk, Xe, Z8, Zw, Zb, Zu, Vc.kdL, Xm, Yz, Xf, Zq, SV.bd, Vc.S1.bd, At.bd, Value.oneCell', Int.reduceEq, Int.reduceNeg, Int.reduceLE, Int.reduceLT, Vc.lenOf, Yl, Xc, Z4, Vc.atK, Z6, Vc.unK, Vc.wfK, Yh, Yd, Yg, Zp, Yb, Z9, Zr, Ys, Vc.sg, Yw, Y2, Y7, Y8, Z3, Res.own, At.sub, Vc.S1.sub, SV.sub, Res.sub, Xi, Xo, Yt, Yp, Ym, Vc.frS, Kd.sz, Nat.reduceSub, ↓reduceIte, reduceCtorEq, Nat.reduceEqDiff, Nat.reduceAdd, Nat.reduceMul, Nat.reduceLeDiff, Nat.reduceLT, Nat.reduceBEq, Nat.reduceBNe, implies_true, Xp, Vl.rs, Vl.res, hl3, hl4, h3']) | (with_reducible first | refine T.seq ?_ | refine T.block ?_ | assumption | refine And.intro ?_ ?_) | (intro h; first | (exfalso; omega) | exact (tf h ‹_›).elim | exact (tf ‹_› h).elim | skip))
  all_goals first | omega | skip
theorem Ri : ∀ (l : List (List UInt8)) (k k' : Nat) (acc : List Ln), (U1 l k acc).1 = (U1 l k' acc).1 ∧ (U1 l k acc).2.1 = (U1 l k' acc).2.1
  | [], _, _, _ => ⟨rfl, rfl⟩
  | s :: l, k, k', acc => by
    rw [Tk, Tk]
    split
    · exact ⟨rfl, rfl⟩
    · split
      · exact Ri l _ _ _
      · exact Ri l _ _ _
theorem L7 (r : List UInt8) : lineT ([32, 32, 59] ++ r) = (ln0, false, 0) := Qh rfl
theorem Jh {t r : List UInt8} (h : (readS t).2.1 = 0) (hr : (10 : UInt8) ∉ r) :
    ((readS ((([32, 32, 59] ++ r) ++ [10]) ++ t)).2.1 = 4 ∨ (readS ((([32, 32, 59] ++ r) ++ [10]) ++ t)).2.1 = 5) ∨
      ((readS ((([32, 32, 59] ++ r) ++ [10]) ++ t)).2.1 = 0 ∧ (readS ((([32, 32, 59] ++ r) ++ [10]) ++ t)).1 = (readS t).1) := by
  have he : (([32, 32, 59] ++ r) ++ [10]) ++ t = ([32, 32, 59] ++ r) ++ 10 :: t := by simp
  rw [he]
  have hn : (10 : UInt8) ∉ [32, 32, 59] ++ r := by
    simp only [List.mem_append, not_or]
    exact ⟨by decide, hr⟩
  have hL := Od (r := t) hn
  generalize hx : [32, 32, 59] ++ r = x at hL
  have hxl : lineT x = (ln0, false, 0) := by rw [← hx]; exact L7 r
  unfold readS at h ⊢
  rw [hL]
  by_cases h1 : 1048576 < (x ++ 10 :: t).length
  · left; left; rw [if_pos h1]
  · rw [if_neg h1]
    by_cases h2 : 40000 < (x :: linesS t).length
    · left; right; rw [if_pos h2]
    · rw [if_neg h2]
      right
      have h3 : ¬ 1048576 < t.length := by simp only [List.length_append, List.length_cons] at h1; omega
      have h4 : ¬ 40000 < (linesS t).length := by simp only [List.length_cons] at h2; omega
      rw [if_neg h3, if_neg h4] at h ⊢
      rw [Tk, hxl, if_neg (by simp), if_neg (by simp)]
      have := Ri (linesS t) 1 0 []
      exact ⟨this.2.trans h, this.1⟩
theorem Lh {t : List UInt8} (h : (readS t).2.1 = 0) : t.length ≤ 1048576 := by
  unfold readS at h
  split at h
  · cases h
  · omega
def Sf (r : List UInt8) : List UInt8 := r.filter fun b => decide (b ≠ 10)
theorem noNl_no (r : List UInt8) : (10 : UInt8) ∉ Sf r := by simp [Sf]
theorem Kx (s : List UInt8) : (W6 s).map toB = s := by
  induction s with
  | nil => rfl
  | cons x s ih =>
    have : toB ((x.toNat : Nat) : Int) = x := by simp [toB]
    simp only [W6, List.map_cons] at ih ⊢
    rw [this, ih]
set_option maxHeartbeats 16000000 in
set_option maxRecDepth 100000 in
theorem Hj {G : Nat} {H : Nat → Option Obj} (hM : R6 G H) (t rm : List UInt8) (ht : t.length ≤ 9223372036854775807) (hr : rm.length ≤ 9223372036854775807) :
    GCp G H Tryd.prog 5 [.a (.str t), .a (.str rm)] [] 0 [] (.one (.a (.bool true))) [] 0 := by
  refine Xs.fn.gcp (by simp) (by simp [U4, Td, U8, W4, Wt, Vc.S1.okN, At.okN, SV.okN, Res.okN, Res.outOk, Zd, Res.own, Value.oneCell']) fun w X fr hglob => ?_
  have hAl := Nr hM
  have hA := Sb hM t ht
  have hl := Q6 t
  have hlaw := @Jh t (Sf rm)
  have hsm := @Lh t
  generalize readS t = R at *
  obtain ⟨l, e, k⟩ := R
  simp only at hA hl hlaw hsm
  by_cases he : e = 0
  · subst he
    have hts := hsm rfl
    have hlaw := hlaw rfl (noNl_no rm)
    by_cases hrm : 1000 < rm.length
    · have hgt : (1000 : Int) < (rm.length : Int) := by omega
      repeat' (first | ((first | (with_reducible first | refine T.regs ?_ | refine T.cond ?_ | refine T.reg ?_ | refine T.ret ?_ | refine T.exit ?_ | refine T.skip ?_) | ((with_reducible first | refine T.dregs ?_ ?_ | refine T.dreg ?_ ?_ | refine T.dregts ?_ ?_ | refine T.dregt ?_ ?_ | refine T.danys ?_ ?_ | refine T.dany ?_ ?_); exact mix) | ((with_reducible refine Z2.gcp hglob (hAl) ?_ ?_); (focus ((simp [X3, Wl, Vc.mtR, Vc.roA, Vc.roM, Wk, Wm, Wh, Wj, Wf, Vc.fnM, Z5, St.find, Zd, Vc.del, Z3, Res.own, Vc.sg, Yh, Yd, Yg, Zp, Z9, Zr, At.sub, Vc.S1.sub, Res.sub, Kd.enc, Ins.cells, Ln.cells, Value.oneCell', X2, List.nodup_cons]); done))) | ((with_reducible refine Z2.gcp hglob (hA) ?_ ?_); (focus ((simp [X3, Wl, Vc.mtR, Vc.roA, Vc.roM, Wk, Wm, Wh, Wj, Wf, Vc.fnM, Z5, St.find, Zd, Vc.del, Z3, Res.own, Vc.sg, Yh, Yd, Yg, Zp, Z9, Zr, At.sub, Vc.S1.sub, Res.sub, Kd.enc, Ins.cells, Ln.cells, Value.oneCell', X2, List.nodup_cons]); done)))); simp only [Yf, Zz, Z1, Vc.exK, Zm, Zj, Zg, Zh, Zx, Xn, Y1, Z0, Zl, Zi, Zy, Zk, Zn, Xk, Z7, Xj, Vc.ev, Vc.st, Vc.stq, Vc.gst, Xh, St.rd, St.get, St.put, St.find, Zd, St.new, Vc.gdc, Zs, Yr, Yo, Yq, Xg, Zv, Zt, Yj, Yi, Vc.S1.cells, Vc.upd, Vc.del, Zf, Vc.noV, Kd.enc, Kd.dec, Ins.cells, Ln.cells, Z5, Yc, Yn, Ya, Y0, Vc.rvs, Y6, Zc, Y4, Yx, Y3, Y5, Y9, Xa, Yk, Xe, Z8, Zw, Zb, Zu, Vc.kdL, Xm, Yz, Xf, Zq, SV.bd, Vc.S1.bd, At.bd, Value.oneCell', Int.reduceEq, Int.reduceNeg, Int.reduceLE, Int.reduceLT, Vc.lenOf, Yl, Xc, Z4, Vc.atK, Z6, Vc.unK, Vc.wfK, Yh, Yd, Yg, Zp, Yb, Z9, Zr, Ys, Vc.sg, Yw, Y2, Y7, Y8, Z3, Res.own, At.sub, Vc.S1.sub, SV.sub, Res.sub, Xi, Xo, Yt, Yp, Ym, Vc.frS, Kd.sz, Nat.reduceSub, ↓reduceIte, reduceCtorEq, Nat.reduceEqDiff, Nat.reduceAdd, Nat.reduceMul, Nat.reduceLeDiff, Nat.reduceLT, Nat.reduceBEq, Nat.reduceBNe, implies_true, Xp, Xs.rs, Xs.res, hgt]) | (with_reducible first | refine T.seq ?_ | refine T.block ?_ | assumption | refine And.intro ?_ ?_) | (intro h; first | (exfalso; omega) | exact (tf h ‹_›).elim | exact (tf ‹_› h).elim | skip))
      all_goals first | omega | skip
    · have hgt : ¬ (1000 : Int) < (rm.length : Int) := by omega
      repeat' (first | ((first | (with_reducible first | refine T.regs ?_ | refine T.cond ?_ | refine T.reg ?_ | refine T.ret ?_ | refine T.exit ?_ | refine T.skip ?_) | ((with_reducible first | refine T.dregs ?_ ?_ | refine T.dreg ?_ ?_ | refine T.dregts ?_ ?_ | refine T.dregt ?_ ?_ | refine T.danys ?_ ?_ | refine T.dany ?_ ?_); exact mix) | ((with_reducible refine Z2.gcp hglob (hAl) ?_ ?_); (focus ((simp [X3, Wl, Vc.mtR, Vc.roA, Vc.roM, Wk, Wm, Wh, Wj, Wf, Vc.fnM, Z5, St.find, Zd, Vc.del, Z3, Res.own, Vc.sg, Yh, Yd, Yg, Zp, Z9, Zr, At.sub, Vc.S1.sub, Res.sub, Kd.enc, Ins.cells, Ln.cells, Value.oneCell', X2, List.nodup_cons]); done))) | ((with_reducible refine Z2.gcp hglob (hA) ?_ ?_); (focus ((simp [X3, Wl, Vc.mtR, Vc.roA, Vc.roM, Wk, Wm, Wh, Wj, Wf, Vc.fnM, Z5, St.find, Zd, Vc.del, Z3, Res.own, Vc.sg, Yh, Yd, Yg, Zp, Z9, Zr, At.sub, Vc.S1.sub, Res.sub, Kd.enc, Ins.cells, Ln.cells, Value.oneCell', X2, List.nodup_cons]); done)))); simp only [Yf, Zz, Z1, Vc.exK, Zm, Zj, Zg, Zh, Zx, Xn, Y1, Z0, Zl, Zi, Zy, Zk, Zn, Xk, Z7, Xj, Vc.ev, Vc.st, Vc.stq, Vc.gst, Xh, St.rd, St.get, St.put, St.find, Zd, St.new, Vc.gdc, Zs, Yr, Yo, Yq, Xg, Zv, Zt, Yj, Yi, Vc.S1.cells, Vc.upd, Vc.del, Zf, Vc.noV, Kd.enc, Kd.dec, Ins.cells, Ln.cells, Z5, Yc, Yn, Ya, Y0, Vc.rvs, Y6, Zc, Y4, Yx, Y3, Y5, Y9, Xa, Yk, Xe, Z8, Zw, Zb, Zu, Vc.kdL, Xm, Yz, Xf, Zq, SV.bd, Vc.S1.bd, At.bd, Value.oneCell', Int.reduceEq, Int.reduceNeg, Int.reduceLE, Int.reduceLT, Vc.lenOf, Yl, Xc, Z4, Vc.atK, Z6, Vc.unK, Vc.wfK, Yh, Yd, Yg, Zp, Yb, Z9, Zr, Ys, Vc.sg, Yw, Y2, Y7, Y8, Z3, Res.own, At.sub, Vc.S1.sub, SV.sub, Res.sub, Xi, Xo, Yt, Yp, Ym, Vc.frS, Kd.sz, Nat.reduceSub, ↓reduceIte, reduceCtorEq, Nat.reduceEqDiff, Nat.reduceAdd, Nat.reduceMul, Nat.reduceLeDiff, Nat.reduceLT, Nat.reduceBEq, Nat.reduceBNe, implies_true, Xp, Xs.rs, Xs.res, hgt]) | (with_reducible first | refine T.seq ?_ | refine T.block ?_ | assumption | refine And.intro ?_ ?_) | (intro h; first | (exfalso; omega) | exact (tf h ‹_›).elim | exact (tf ‹_› h).elim | skip))
      all_goals first | omega | skip
      refine T.weak (Ent.nilRow (t := 7) 5 (.int .u8) rfl) ?_
      refine T.loop (ι := { j : Nat // j ≤ rm.length })
        (fun x => ⟨[(29, .one (.a (.int .i64 (x.1 : Int)))), (28, .one (.a (.int .i64 rm.length))), (27, .one (.a (.ref 2))), (7, .one (.a (.ref 3))), (5, .one (.a (.ref 0))), (6, .one (.a (.loc 1 0))), (0, .one (.a (.str t)))],
          [(0, .row 27 .line l), (1, .cells 31 [.int .i64 0, .int .i64 k]), (2, .ro (.int .u8) (rm.map fun b => ((b.toNat : Nat) : Int))), (3, .row 5 (.int .u8) (W6 (Sf (rm.take x.1))))], 4⟩) (fun x => rm.length - x.1) ⟨0, by simp⟩ (Ent.mk (id) (by simp [Za, Ze, Vc.bnd, St.get, St.find, Zd, SV.ren, Vc.S1.ren, At.ren, Res.ren, SV.bd, Vc.S1.bd, At.bd, Res.bd, Vc.upd, Vc.del, Kd.enc, Value.oneCell', List.length_map, Sf, W6]) (by simp [Za, Ze, Vc.bnd, St.get, St.find, Zd, SV.ren, Vc.S1.ren, At.ren, Res.ren, SV.bd, Vc.S1.bd, At.bd, Res.bd, Vc.upd, Vc.del, Kd.enc, Value.oneCell', List.length_map, Sf, W6]) (by simp [Za, Ze, Vc.bnd, St.get, St.find, Zd, SV.ren, Vc.S1.ren, At.ren, Res.ren, SV.bd, Vc.S1.bd, At.bd, Res.bd, Vc.upd, Vc.del, Kd.enc, Value.oneCell', List.length_map, Sf, W6]) (by simp [Za, Ze, Vc.bnd, St.get, St.find, Zd, SV.ren, Vc.S1.ren, At.ren, Res.ren, SV.bd, Vc.S1.bd, At.bd, Res.bd, Vc.upd, Vc.del, Kd.enc, Value.oneCell', List.length_map, Sf, W6])) ?_
      rintro ⟨j, hj⟩
      simp only
      have hnl : (W6 (Sf (rm.take j))).length ≤ 1000 := by
        have h1 : (Sf (rm.take j)).length ≤ (rm.take j).length := List.length_filter_le ..
        have h2 : (rm.take j).length ≤ rm.length := by simp; omega
        simp only [W6, List.length_map]; omega
      by_cases hlt : j < rm.length
      · have hw : IntKind.i64.wrap ((j : Int) + 1) = ((j + 1 : Nat) : Int) := We (by omega)
        have htj : ((j : Int)).toNat = j := by omega
        generalize hb : rm[j] = b
        have htk : rm.take (j + 1) = rm.take j ++ [b] := by rw [List.take_add_one, List.getElem?_eq_getElem hlt, hb]; rfl
        have hget : (rm.map fun b => ((b.toNat : Nat) : Int)).getD j (Kd.int .u8).dflt = ((b.toNat : Nat) : Int) := by simp [List.getD, hlt, hb]
        by_cases hb10 : b = 10
        · have hc : ((b.toNat : Nat) : Int) = 10 := by rw [hb10]; rfl
          have he : Sf (rm.take (j + 1)) = Sf (rm.take j) := by rw [htk]; simp [Sf, hb10]
          repeat' (first | ((first | (with_reducible first | refine T.regs ?_ | refine T.cond ?_ | refine T.reg ?_ | refine T.ret ?_ | refine T.exit ?_ | refine T.skip ?_) | ((with_reducible first | refine T.dregs ?_ ?_ | refine T.dreg ?_ ?_ | refine T.dregts ?_ ?_ | refine T.dregt ?_ ?_ | refine T.danys ?_ ?_ | refine T.dany ?_ ?_); exact mix)); simp only [Yf, Zz, Z1, Vc.exK, Zm, Zj, Zg, Zh, Zx, Xn, Y1, Z0, Zl, Zi, Zy, Zk, Zn, Xk, Z7, Xj, Vc.ev, Vc.st, Vc.stq, Vc.gst, Xh, St.rd, St.get, St.put, St.find, Zd, St.new, Vc.gdc, Zs, Yr, Yo, Yq, Xg, Zv, Zt, Yj, Yi, Vc.S1.cells, Vc.upd, Vc.del, Zf, Vc.noV, Kd.enc, Kd.dec, Ins.cells, Ln.cells, Z5, Yc, Yn, Ya, Y0, Vc.rvs, Y6, Zc, Y4, Yx, Y3, Y5, Y9, Xa, Yk, Xe, Z8, Zw, Zb, Zu, Vc.kdL, Xm, Yz, Xf, Zq, SV.bd, Vc.S1.bd, At.bd, Value.oneCell', Int.reduceEq, Int.reduceNeg, Int.reduceLE, Int.reduceLT, Vc.lenOf, Yl, Xc, Z4, Vc.atK, Z6, Vc.unK, Vc.wfK, Yh, Yd, Yg, Zp, Yb, Z9, Zr, Ys, Vc.sg, Yw, Y2, Y7, Y8, Z3, Res.own, At.sub, Vc.S1.sub, SV.sub, Res.sub, Xi, Xo, Yt, Yp, Ym, Vc.frS, Kd.sz, Nat.reduceSub, ↓reduceIte, reduceCtorEq, Nat.reduceEqDiff, Nat.reduceAdd, Nat.reduceMul, Nat.reduceLeDiff, Nat.reduceLT, Nat.reduceBEq, Nat.reduceBNe, implies_true, Xp, Xs.rs, Xs.res, hw, htj, hget, hc, List.length_map, Int.ofNat_lt]) | (with_reducible first | refine T.seq ?_ | refine T.block ?_ | assumption | refine And.intro ?_ ?_) | (intro h; first | (exfalso; omega) | exact (tf h ‹_›).elim | exact (tf ‹_› h).elim | skip))
          all_goals first | omega | skip
          exact ⟨⟨j + 1, hlt⟩, (Ent.mk (id) (by simp [Za, Ze, Vc.bnd, St.get, St.find, Zd, SV.ren, Vc.S1.ren, At.ren, Res.ren, SV.bd, Vc.S1.bd, At.bd, Res.bd, Vc.upd, Vc.del, Kd.enc, Value.oneCell', hw, he]) (by simp [Za, Ze, Vc.bnd, St.get, St.find, Zd, SV.ren, Vc.S1.ren, At.ren, Res.ren, SV.bd, Vc.S1.bd, At.bd, Res.bd, Vc.upd, Vc.del, Kd.enc, Value.oneCell', hw, he]) (by simp [Za, Ze, Vc.bnd, St.get, St.find, Zd, SV.ren, Vc.S1.ren, At.ren, Res.ren, SV.bd, Vc.S1.bd, At.bd, Res.bd, Vc.upd, Vc.del, Kd.enc, Value.oneCell', hw, he]) (by simp [Za, Ze, Vc.bnd, St.get, St.find, Zd, SV.ren, Vc.S1.ren, At.ren, Res.ren, SV.bd, Vc.S1.bd, At.bd, Res.bd, Vc.upd, Vc.del, Kd.enc, Value.oneCell', hw, he])), by simp only; omega⟩
        · have hc : ¬ ((b.toNat : Nat) : Int) = 10 := fun e => hb10 (UInt8.toNat_inj.1 (by simp; omega))
          have he : W6 (Sf (rm.take (j + 1))) = W6 (Sf (rm.take j)) ++ [((b.toNat : Nat) : Int)] := by rw [htk]; simp [Sf, hb10, W6]
          repeat' (first | ((first | (with_reducible first | refine T.regs ?_ | refine T.cond ?_ | refine T.reg ?_ | refine T.ret ?_ | refine T.exit ?_ | refine T.skip ?_) | ((with_reducible first | refine T.dregs ?_ ?_ | refine T.dreg ?_ ?_ | refine T.dregts ?_ ?_ | refine T.dregt ?_ ?_ | refine T.danys ?_ ?_ | refine T.dany ?_ ?_); exact mix)); simp only [Yf, Zz, Z1, Vc.exK, Zm, Zj, Zg, Zh, Zx, Xn, Y1, Z0, Zl, Zi, Zy, Zk, Zn, Xk, Z7, Xj, Vc.ev, Vc.st, Vc.stq, Vc.gst, Xh, St.rd, St.get, St.put, St.find, Zd, St.new, Vc.gdc, Zs, Yr, Yo, Yq, Xg, Zv, Zt, Yj, Yi, Vc.S1.cells, Vc.upd, Vc.del, Zf, Vc.noV, Kd.enc, Kd.dec, Ins.cells, Ln.cells, Z5, Yc, Yn, Ya, Y0, Vc.rvs, Y6, Zc, Y4, Yx, Y3, Y5, Y9, Xa, Yk, Xe, Z8, Zw, Zb, Zu, Vc.kdL, Xm, Yz, Xf, Zq, SV.bd, Vc.S1.bd, At.bd, Value.oneCell', Int.reduceEq, Int.reduceNeg, Int.reduceLE, Int.reduceLT, Vc.lenOf, Yl, Xc, Z4, Vc.atK, Z6, Vc.unK, Vc.wfK, Yh, Yd, Yg, Zp, Yb, Z9, Zr, Ys, Vc.sg, Yw, Y2, Y7, Y8, Z3, Res.own, At.sub, Vc.S1.sub, SV.sub, Res.sub, Xi, Xo, Yt, Yp, Ym, Vc.frS, Kd.sz, Nat.reduceSub, ↓reduceIte, reduceCtorEq, Nat.reduceEqDiff, Nat.reduceAdd, Nat.reduceMul, Nat.reduceLeDiff, Nat.reduceLT, Nat.reduceBEq, Nat.reduceBNe, implies_true, Xp, Xs.rs, Xs.res, hw, htj, hget, hc, List.length_map, Int.ofNat_lt]) | (with_reducible first | refine T.seq ?_ | refine T.block ?_ | assumption | refine And.intro ?_ ?_) | (intro h; first | (exfalso; omega) | exact (tf h ‹_›).elim | exact (tf ‹_› h).elim | skip))
          all_goals first | omega | skip
          exact ⟨⟨j + 1, hlt⟩, (Ent.mk (fun n => if n = 3 then 5 else n) (by simp [Za, Ze, Vc.bnd, St.get, St.find, Zd, SV.ren, Vc.S1.ren, At.ren, Res.ren, SV.bd, Vc.S1.bd, At.bd, Res.bd, Vc.upd, Vc.del, Kd.enc, Value.oneCell', hw, he]) (by simp [Za, Ze, Vc.bnd, St.get, St.find, Zd, SV.ren, Vc.S1.ren, At.ren, Res.ren, SV.bd, Vc.S1.bd, At.bd, Res.bd, Vc.upd, Vc.del, Kd.enc, Value.oneCell', hw, he]) (by simp [Za, Ze, Vc.bnd, St.get, St.find, Zd, SV.ren, Vc.S1.ren, At.ren, Res.ren, SV.bd, Vc.S1.bd, At.bd, Res.bd, Vc.upd, Vc.del, Kd.enc, Value.oneCell', hw, he]) (by simp [Za, Ze, Vc.bnd, St.get, St.find, Zd, SV.ren, Vc.S1.ren, At.ren, Res.ren, SV.bd, Vc.S1.bd, At.bd, Res.bd, Vc.upd, Vc.del, Kd.enc, Value.oneCell', hw, he])), by simp only; omega⟩
      · have hk2 : j = rm.length := by omega
        subst hk2
        rw [List.take_length] at hnl ⊢
        have hnl2 : (Sf rm).length ≤ 1000 := by simpa [W6] using hnl
        have hbb := Kx (Sf rm)
        have hA2 := Sb hM ((([32, 32, 59] ++ Sf rm) ++ [10]) ++ t) (by simp only [List.length_append, List.length_cons, List.length_nil]; omega)
        have hl2 := Q6 ((([32, 32, 59] ++ Sf rm) ++ [10]) ++ t)
        generalize readS ((([32, 32, 59] ++ Sf rm) ++ [10]) ++ t) = R2 at *
        obtain ⟨l2, e2, k2⟩ := R2
        simp only at hA2 hl2 hlaw
        have hS := Pn l (by omega)
        rcases hlaw with (h4 | h5) | ⟨h0, h1⟩
        · subst h4
          repeat' (first | ((first | (with_reducible first | refine T.regs ?_ | refine T.cond ?_ | refine T.reg ?_ | refine T.ret ?_ | refine T.exit ?_ | refine T.skip ?_) | ((with_reducible first | refine T.dregs ?_ ?_ | refine T.dreg ?_ ?_ | refine T.dregts ?_ ?_ | refine T.dregt ?_ ?_ | refine T.danys ?_ ?_ | refine T.dany ?_ ?_); exact mix) | ((with_reducible refine Z2.gcp hglob (hA2) ?_ ?_); (focus ((simp [X3, Wl, Vc.mtR, Vc.roA, Vc.roM, Wk, Wm, Wh, Wj, Wf, Vc.fnM, Z5, St.find, Zd, Vc.del, Z3, Res.own, Vc.sg, Yh, Yd, Yg, Zp, Z9, Zr, At.sub, Vc.S1.sub, Res.sub, Kd.enc, Ins.cells, Ln.cells, Value.oneCell', X2, List.nodup_cons]); done)))); simp only [Yf, Zz, Z1, Vc.exK, Zm, Zj, Zg, Zh, Zx, Xn, Y1, Z0, Zl, Zi, Zy, Zk, Zn, Xk, Z7, Xj, Vc.ev, Vc.st, Vc.stq, Vc.gst, Xh, St.rd, St.get, St.put, St.find, Zd, St.new, Vc.gdc, Zs, Yr, Yo, Yq, Xg, Zv, Zt, Yj, Yi, Vc.S1.cells, Vc.upd, Vc.del, Zf, Vc.noV, Kd.enc, Kd.dec, Ins.cells, Ln.cells, Z5, Yc, Yn, Ya, Y0, Vc.rvs, Y6, Zc, Y4, Yx, Y3, Y5, Y9, Xa, Yk, Xe, Z8, Zw, Zb, Zu, Vc.kdL, Xm, Yz, Xf, Zq, SV.bd, Vc.S1.bd, At.bd, Value.oneCell', Int.reduceEq, Int.reduceNeg, Int.reduceLE, Int.reduceLT, Vc.lenOf, Yl, Xc, Z4, Vc.atK, Z6, Vc.unK, Vc.wfK, Yh, Yd, Yg, Zp, Yb, Z9, Zr, Ys, Vc.sg, Yw, Y2, Y7, Y8, Z3, Res.own, At.sub, Vc.S1.sub, SV.sub, Res.sub, Xi, Xo, Yt, Yp, Ym, Vc.frS, Kd.sz, Nat.reduceSub, ↓reduceIte, reduceCtorEq, Nat.reduceEqDiff, Nat.reduceAdd, Nat.reduceMul, Nat.reduceLeDiff, Nat.reduceLT, Nat.reduceBEq, Nat.reduceBNe, implies_true, Xp, Xs.rs, Xs.res, hbb, Int.ofNat_lt]) | (with_reducible first | refine T.seq ?_ | refine T.block ?_ | assumption | refine And.intro ?_ ?_) | (intro h; first | (exfalso; omega) | exact (tf h ‹_›).elim | exact (tf ‹_› h).elim | skip))
          all_goals first | omega | (simp only [List.length_append, List.length_cons, List.length_nil]; omega) | skip
        · subst h5
          repeat' (first | ((first | (with_reducible first | refine T.regs ?_ | refine T.cond ?_ | refine T.reg ?_ | refine T.ret ?_ | refine T.exit ?_ | refine T.skip ?_) | ((with_reducible first | refine T.dregs ?_ ?_ | refine T.dreg ?_ ?_ | refine T.dregts ?_ ?_ | refine T.dregt ?_ ?_ | refine T.danys ?_ ?_ | refine T.dany ?_ ?_); exact mix) | ((with_reducible refine Z2.gcp hglob (hA2) ?_ ?_); (focus ((simp [X3, Wl, Vc.mtR, Vc.roA, Vc.roM, Wk, Wm, Wh, Wj, Wf, Vc.fnM, Z5, St.find, Zd, Vc.del, Z3, Res.own, Vc.sg, Yh, Yd, Yg, Zp, Z9, Zr, At.sub, Vc.S1.sub, Res.sub, Kd.enc, Ins.cells, Ln.cells, Value.oneCell', X2, List.nodup_cons]); done)))); simp only [Yf, Zz, Z1, Vc.exK, Zm, Zj, Zg, Zh, Zx, Xn, Y1, Z0, Zl, Zi, Zy, Zk, Zn, Xk, Z7, Xj, Vc.ev, Vc.st, Vc.stq, Vc.gst, Xh, St.rd, St.get, St.put, St.find, Zd, St.new, Vc.gdc, Zs, Yr, Yo, Yq, Xg, Zv, Zt, Yj, Yi, Vc.S1.cells, Vc.upd, Vc.del, Zf, Vc.noV, Kd.enc, Kd.dec, Ins.cells, Ln.cells, Z5, Yc, Yn, Ya, Y0, Vc.rvs, Y6, Zc, Y4, Yx, Y3, Y5, Y9, Xa, Yk, Xe, Z8, Zw, Zb, Zu, Vc.kdL, Xm, Yz, Xf, Zq, SV.bd, Vc.S1.bd, At.bd, Value.oneCell', Int.reduceEq, Int.reduceNeg, Int.reduceLE, Int.reduceLT, Vc.lenOf, Yl, Xc, Z4, Vc.atK, Z6, Vc.unK, Vc.wfK, Yh, Yd, Yg, Zp, Yb, Z9, Zr, Ys, Vc.sg, Yw, Y2, Y7, Y8, Z3, Res.own, At.sub, Vc.S1.sub, SV.sub, Res.sub, Xi, Xo, Yt, Yp, Ym, Vc.frS, Kd.sz, Nat.reduceSub, ↓reduceIte, reduceCtorEq, Nat.reduceEqDiff, Nat.reduceAdd, Nat.reduceMul, Nat.reduceLeDiff, Nat.reduceLT, Nat.reduceBEq, Nat.reduceBNe, implies_true, Xp, Xs.rs, Xs.res, hbb, Int.ofNat_lt]) | (with_reducible first | refine T.seq ?_ | refine T.block ?_ | assumption | refine And.intro ?_ ?_) | (intro h; first | (exfalso; omega) | exact (tf h ‹_›).elim | exact (tf ‹_› h).elim | skip))
          all_goals first | omega | (simp only [List.length_append, List.length_cons, List.length_nil]; omega) | skip
        · subst h0
          subst h1
          repeat' (first | ((first | (with_reducible first | refine T.regs ?_ | refine T.cond ?_ | refine T.reg ?_ | refine T.ret ?_ | refine T.exit ?_ | refine T.skip ?_) | ((with_reducible first | refine T.dregs ?_ ?_ | refine T.dreg ?_ ?_ | refine T.dregts ?_ ?_ | refine T.dregt ?_ ?_ | refine T.danys ?_ ?_ | refine T.dany ?_ ?_); exact mix) | ((with_reducible refine Z2.gcp hglob (hA2) ?_ ?_); (focus ((simp [X3, Wl, Vc.mtR, Vc.roA, Vc.roM, Wk, Wm, Wh, Wj, Wf, Vc.fnM, Z5, St.find, Zd, Vc.del, Z3, Res.own, Vc.sg, Yh, Yd, Yg, Zp, Z9, Zr, At.sub, Vc.S1.sub, Res.sub, Kd.enc, Ins.cells, Ln.cells, Value.oneCell', X2, List.nodup_cons]); done))) | ((with_reducible first | apply Z2.rd (hS) | apply Ye.rd (hS)); (focus ((repeat' (first | exact rfl | exact trivial | refine And.intro ?_ ?_ | (simp [SV.bd, Vc.S1.bd, At.bd, Zq, Yv, Ins.cells, Ln.cells]; done))); done)))); simp only [Yf, Zz, Z1, Vc.exK, Zm, Zj, Zg, Zh, Zx, Xn, Y1, Z0, Zl, Zi, Zy, Zk, Zn, Xk, Z7, Xj, Vc.ev, Vc.st, Vc.stq, Vc.gst, Xh, St.rd, St.get, St.put, St.find, Zd, St.new, Vc.gdc, Zs, Yr, Yo, Yq, Xg, Zv, Zt, Yj, Yi, Vc.S1.cells, Vc.upd, Vc.del, Zf, Vc.noV, Kd.enc, Kd.dec, Ins.cells, Ln.cells, Z5, Yc, Yn, Ya, Y0, Vc.rvs, Y6, Zc, Y4, Yx, Y3, Y5, Y9, Xa, Yk, Xe, Z8, Zw, Zb, Zu, Vc.kdL, Xm, Yz, Xf, Zq, SV.bd, Vc.S1.bd, At.bd, Value.oneCell', Int.reduceEq, Int.reduceNeg, Int.reduceLE, Int.reduceLT, Vc.lenOf, Yl, Xc, Z4, Vc.atK, Z6, Vc.unK, Vc.wfK, Yh, Yd, Yg, Zp, Yb, Z9, Zr, Ys, Vc.sg, Yw, Y2, Y7, Y8, Z3, Res.own, At.sub, Vc.S1.sub, SV.sub, Res.sub, Xi, Xo, Yt, Yp, Ym, Vc.frS, Kd.sz, Nat.reduceSub, ↓reduceIte, reduceCtorEq, Nat.reduceEqDiff, Nat.reduceAdd, Nat.reduceMul, Nat.reduceLeDiff, Nat.reduceLT, Nat.reduceBEq, Nat.reduceBNe, implies_true, Xp, Xs.rs, Xs.res, hbb, Int.ofNat_lt]) | (with_reducible first | refine T.seq ?_ | refine T.block ?_ | assumption | refine And.intro ?_ ?_) | (intro h; first | (exfalso; omega) | exact (tf h ‹_›).elim | exact (tf ‹_› h).elim | skip))
          all_goals first | omega | (simp only [List.length_append, List.length_cons, List.length_nil]; omega) | skip
  · repeat' (first | ((first | (with_reducible first | refine T.regs ?_ | refine T.cond ?_ | refine T.reg ?_ | refine T.ret ?_ | refine T.exit ?_ | refine T.skip ?_) | ((with_reducible first | refine T.dregs ?_ ?_ | refine T.dreg ?_ ?_ | refine T.dregts ?_ ?_ | refine T.dregt ?_ ?_ | refine T.danys ?_ ?_ | refine T.dany ?_ ?_); exact mix) | ((with_reducible refine Z2.gcp hglob (hAl) ?_ ?_); (focus ((simp [X3, Wl, Vc.mtR, Vc.roA, Vc.roM, Wk, Wm, Wh, Wj, Wf, Vc.fnM, Z5, St.find, Zd, Vc.del, Z3, Res.own, Vc.sg, Yh, Yd, Yg, Zp, Z9, Zr, At.sub, Vc.S1.sub, Res.sub, Kd.enc, Ins.cells, Ln.cells, Value.oneCell', X2, List.nodup_cons]); done))) | ((with_reducible refine Z2.gcp hglob (hA) ?_ ?_); (focus ((simp [X3, Wl, Vc.mtR, Vc.roA, Vc.roM, Wk, Wm, Wh, Wj, Wf, Vc.fnM, Z5, St.find, Zd, Vc.del, Z3, Res.own, Vc.sg, Yh, Yd, Yg, Zp, Z9, Zr, At.sub, Vc.S1.sub, Res.sub, Kd.enc, Ins.cells, Ln.cells, Value.oneCell', X2, List.nodup_cons]); done)))); simp only [Yf, Zz, Z1, Vc.exK, Zm, Zj, Zg, Zh, Zx, Xn, Y1, Z0, Zl, Zi, Zy, Zk, Zn, Xk, Z7, Xj, Vc.ev, Vc.st, Vc.stq, Vc.gst, Xh, St.rd, St.get, St.put, St.find, Zd, St.new, Vc.gdc, Zs, Yr, Yo, Yq, Xg, Zv, Zt, Yj, Yi, Vc.S1.cells, Vc.upd, Vc.del, Zf, Vc.noV, Kd.enc, Kd.dec, Ins.cells, Ln.cells, Z5, Yc, Yn, Ya, Y0, Vc.rvs, Y6, Zc, Y4, Yx, Y3, Y5, Y9, Xa, Yk, Xe, Z8, Zw, Zb, Zu, Vc.kdL, Xm, Yz, Xf, Zq, SV.bd, Vc.S1.bd, At.bd, Value.oneCell', Int.reduceEq, Int.reduceNeg, Int.reduceLE, Int.reduceLT, Vc.lenOf, Yl, Xc, Z4, Vc.atK, Z6, Vc.unK, Vc.wfK, Yh, Yd, Yg, Zp, Yb, Z9, Zr, Ys, Vc.sg, Yw, Y2, Y7, Y8, Z3, Res.own, At.sub, Vc.S1.sub, SV.sub, Res.sub, Xi, Xo, Yt, Yp, Ym, Vc.frS, Kd.sz, Nat.reduceSub, ↓reduceIte, reduceCtorEq, Nat.reduceEqDiff, Nat.reduceAdd, Nat.reduceMul, Nat.reduceLeDiff, Nat.reduceLT, Nat.reduceBEq, Nat.reduceBNe, implies_true, Xp, Xs.rs, Xs.res, he]) | (with_reducible first | refine T.seq ?_ | refine T.block ?_ | assumption | refine And.intro ?_ ?_) | (intro h; first | (exfalso; omega) | exact (tf h ‹_›).elim | exact (tf ‹_› h).elim | skip))
    all_goals first | omega | (simp only [List.length_append, List.length_cons, List.length_nil]; omega) | skip
end Go.Proofs.YtccjjcdjgibilaaDoor
