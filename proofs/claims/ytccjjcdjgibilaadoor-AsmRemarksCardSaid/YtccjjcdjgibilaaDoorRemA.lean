/-
  A part of the proofs of this seat's laws: a step on the way. It has no conditions of its own.
-/
import Derived.Test.YtccjjcdjgibilaaDoorReadN
import Derived.Test.YtccjjcdjgibilaaDoorAsmF
import Derived.Test.YtccjjcdjgibilaaDoorIrW
namespace Go.Proofs.YtccjjcdjgibilaaDoor
open Go Go.RowKit Vc
set_option linter.unusedVariables false
set_option linter.unusedSimpArgs false
attribute [local irreducible] T Z2 Wi Ent RdC RwC Uj Yg Xs
def Ls : List UInt8 := [97, 58, 10, 9, 108, 100, 105, 32, 114, 49, 44, 32, 53, 32, 59, 32, 102, 105, 118, 101, 10, 9, 106, 109, 112, 32, 97, 10]
def aliveL : List Ln := [⟨[97], V7, []⟩, ⟨[], ⟨2, 1, 0, 5⟩, []⟩, ⟨[], ⟨19, 0, 0, 0⟩, [97]⟩]
theorem Lg : readS Ls = (aliveL, 0, 0) := by kernel_rfl
theorem Mb : (asmS aliveL).2 = (0, 0) ∧ (asmS aliveL).1.length = 4 ∧ (asmS aliveL).1.getD 3 0 = 0 := ⟨by kernel_rfl, by kernel_rfl, by kernel_rfl⟩
set_option maxHeartbeats 4000000 in
set_option maxRecDepth 100000 in
theorem Kw {G : Nat} {H : Nat → Option Obj} (hM : Rl G H) : GCp G H Tryd.prog 19 [] [] 0 [] (.one (.a (.bool true))) [] 0 := by
  refine W5.fn.gcp (by simp) (by simp [Uf, Uq, Ui, Wy, Wo, Vc.S1.okN, At.okN, SV.okN, Res.okN, Res.outOk, Ze, Res.own, Value.oneCell']) fun w X fr hglob => ?_
  have hA := Tf hM Ls (by decide)
  rw [Lg] at hA
  unfold Ls at hA
  have hll : aliveL.length = 3 := rfl
  have hB := Ns aliveL (by decide)
  obtain ⟨h1, h2, h3⟩ := Mb
  generalize asmS aliveL = W at hB h1 h2 h3
  generalize aliveL = L at hA hB hll
  obtain ⟨ws, e, k⟩ := W
  simp only [Prod.mk.injEq] at h1 h2 h3 hB
  obtain ⟨rfl, rfl⟩ := h1
  have hl3 : (L.length : Int) = 3 := by omega
  have hl4 : (ws.length : Int) = 4 := by omega
  have h3' : ws.getD (3 : Int).toNat (Kd.dflt (.int .i64)) = (0 : Int) := h3
  repeat' (first | ((first | (with_reducible first | refine T.regs ?_ | refine T.cond ?_ | refine T.reg ?_ | refine T.ret ?_ | refine T.exit ?_ | refine T.skip ?_) | ((with_reducible first | refine T.dregs ?_ ?_ | refine T.dreg ?_ ?_ | refine T.dregts ?_ ?_ | refine T.dregt ?_ ?_ | refine T.danys ?_ ?_ | refine T.dany ?_ ?_); exact mix) | ((with_reducible refine Z2.gcp hglob (hA) ?_ ?_); (focus ((simp [X2, Wf, Vc.mtR, Vc.roA, Vc.roM, Wg, Wc, Wb, Wd, X8, Vc.fnM, Z4, St.find, Ze, Vc.del, Z3, Res.own, Vc.sg, Ya, Z6, Z9, Zp, Z5, Zq, At.sub, Vc.S1.sub, Res.sub, Kd.enc, Ins.cells, Ln.cells, Value.oneCell', X0, List.nodup_cons]); done))) | ((with_reducible apply Z2.rw (hB)); (focus ((repeat' (first | exact rfl | exact trivial | refine And.intro ?_ ?_ | (simp [SV.bd, Vc.S1.bd, At.bd, Zr, Yw, Ins.cells, Ln.cells]; done))); done)))); simp only [Yh, Z1, Zy, Vc.exK, Zm, Zj, Zh, Zg, Zx, Xp, Y7, Z0, Zn, Zl, Zz, Zk, Zi, Xm, Yc, Xn, Vc.ev, Vc.st, Vc.stq, Vc.gst, Xk, St.rd, St.get, St.put, St.find, Ze, St.new, Vc.gdc, Zs, Yt, Yp, Yr, Xl, Zw, Zt, Yj, Yi, Vc.S1.cells, Vc.upd, Vc.del, Zd, Vc.noV, Kd.enc, Kd.dec, Ins.cells, Ln.cells, Z4, Ye, Yn, Yf, Y4, Vc.rvs, Xc, Zc, Y8, Y2, Y5, Y9, Xb, Xe, Yk, Xh, Yb, Zv, Zb, Zu, Vc.kdL, Xq, Y3, Xi, Zr, SV.bd, Vc.S1.bd, At.bd, Value.oneCell', Int.reduceEq, Int.reduceNeg, Int.reduceLE, Int.reduceLT, Vc.lenOf, Yl, Xg, Z7, Vc.atK, Z8, Vc.unK, Vc.wfK, Ya, Z6, Z9, Zp, Yd, Z5, Zq, Ys, Vc.sg, Y1, Y6, Xd, Xa, Z3, Res.own, At.sub, Vc.S1.sub, SV.sub, Res.sub, Xj, Xo, Yo, Yq, Ym, Vc.frS, Kd.sz, Nat.reduceSub, ↓reduceIte, reduceCtorEq, Nat.reduceEqDiff, Nat.reduceAdd, Nat.reduceMul, Nat.reduceLeDiff, Nat.reduceLT, Nat.reduceBEq, Nat.reduceBNe, implies_true, Xr, W5.rs, W5.res, hl3, hl4, h3']) | (with_reducible first | refine T.seq ?_ | refine T.block ?_ | assumption | refine And.intro ?_ ?_) | (intro h; first | (exfalso; omega) | exact (tf h ‹_›).elim | exact (tf ‹_› h).elim | skip))
  all_goals first | omega | skip
theorem Sr : ∀ (l : List (List UInt8)) (k k' : Nat) (acc : List Ln), (Ua l k acc).1 = (Ua l k' acc).1 ∧ (Ua l k acc).2.1 = (Ua l k' acc).2.1
  | [], _, _, _ => ⟨rfl, rfl⟩
  | s :: l, k, k', acc => by
    rw [Uo, Uo]
    split
    · exact ⟨rfl, rfl⟩
    · split
      · exact Sr l _ _ _
      · exact Sr l _ _ _
theorem Mg (r : List UInt8) : lineT ([32, 32, 59] ++ r) = (ln0, false, 0) := Rg rfl
theorem L1 {t r : List UInt8} (h : (readS t).2.1 = 0) (hr : (10 : UInt8) ∉ r) :
    ((readS ((([32, 32, 59] ++ r) ++ [10]) ++ t)).2.1 = 4 ∨ (readS ((([32, 32, 59] ++ r) ++ [10]) ++ t)).2.1 = 5) ∨
      ((readS ((([32, 32, 59] ++ r) ++ [10]) ++ t)).2.1 = 0 ∧ (readS ((([32, 32, 59] ++ r) ++ [10]) ++ t)).1 = (readS t).1) := by
  have he : (([32, 32, 59] ++ r) ++ [10]) ++ t = ([32, 32, 59] ++ r) ++ 10 :: t := by simp
  rw [he]
  have hn : (10 : UInt8) ∉ [32, 32, 59] ++ r := by
    simp only [List.mem_append, not_or]
    exact ⟨by decide, hr⟩
  have hL := Pl (r := t) hn
  generalize hx : [32, 32, 59] ++ r = x at hL
  have hxl : lineT x = (ln0, false, 0) := by rw [← hx]; exact Mg r
  unfold readS at h ⊢
  rw [hL]
  by_cases h1 : 1048576 < (x ++ 10 :: t).length
  · left; left; rw [if_pos h1]
  · rw [if_neg h1]
    by_cases h2 : 40000 < (x :: linesS t).length
    · left; right; rw [if_pos h2]
    · rw [if_neg h2]
      right
      have h3 : ¬ 1048576 < t.length := by simp only [List.length_append, List.length_cons] at h1; omega
      have h4 : ¬ 40000 < (linesS t).length := by simp only [List.length_cons] at h2; omega
      rw [if_neg h3, if_neg h4] at h ⊢
      rw [Uo, hxl, if_neg (by simp), if_neg (by simp)]
      have := Sr (linesS t) 1 0 []
      exact ⟨this.2.trans h, this.1⟩
theorem Ml {t : List UInt8} (h : (readS t).2.1 = 0) : t.length ≤ 1048576 := by
  unfold readS at h
  split at h
  · cases h
  · omega
def Tj (r : List UInt8) : List UInt8 := r.filter fun b => decide (b ≠ 10)
theorem noNl_no (r : List UInt8) : (10 : UInt8) ∉ Tj r := by simp [Tj]
theorem Le (s : List UInt8) : (Ww s).map toB = s := by
  induction s with
  | nil => rfl
  | cons x s ih =>
    have : toB ((x.toNat : Nat) : Int) = x := by simp [toB]
    simp only [Ww, List.map_cons] at ih ⊢
    rw [this, ih]
set_option maxHeartbeats 16000000 in
set_option maxRecDepth 100000 in
theorem Pd {G : Nat} {H : Nat → Option Obj} (hM : Rl G H) (t rm : List UInt8) (ht : t.length ≤ 9223372036854775807) (hr : rm.length ≤ 9223372036854775807) :
    GCp G H Tryd.prog 5 [.a (.str t), .a (.str rm)] [] 0 [] (.one (.a (.bool true))) [] 0 := by
  refine Xf.fn.gcp (by simp) (by simp [Uf, Uq, Ui, Wy, Wo, Vc.S1.okN, At.okN, SV.okN, Res.okN, Res.outOk, Ze, Res.own, Value.oneCell']) fun w X fr hglob => ?_
  have hAl := Kw hM
  have hA := Tf hM t ht
  have hl := Qe t
  have hlaw := @L1 t (Tj rm)
  have hsm := @Ml t
  generalize readS t = R at *
  obtain ⟨l, e, k⟩ := R
  simp only at hA hl hlaw hsm
  by_cases he : e = 0
  · subst he
    have hts := hsm rfl
    have hlaw := hlaw rfl (noNl_no rm)
    by_cases hrm : 1000 < rm.length
    · have hgt : (1000 : Int) < (rm.length : Int) := by omega
      repeat' (first | ((first | (with_reducible first | refine T.regs ?_ | refine T.cond ?_ | refine T.reg ?_ | refine T.ret ?_ | refine T.exit ?_ | refine T.skip ?_) | ((with_reducible first | refine T.dregs ?_ ?_ | refine T.dreg ?_ ?_ | refine T.dregts ?_ ?_ | refine T.dregt ?_ ?_ | refine T.danys ?_ ?_ | refine T.dany ?_ ?_); exact mix) | ((with_reducible refine Z2.gcp hglob (hAl) ?_ ?_); (focus ((simp [X2, Wf, Vc.mtR, Vc.roA, Vc.roM, Wg, Wc, Wb, Wd, X8, Vc.fnM, Z4, St.find, Ze, Vc.del, Z3, Res.own, Vc.sg, Ya, Z6, Z9, Zp, Z5, Zq, At.sub, Vc.S1.sub, Res.sub, Kd.enc, Ins.cells, Ln.cells, Value.oneCell', X0, List.nodup_cons]); done))) | ((with_reducible refine Z2.gcp hglob (hA) ?_ ?_); (focus ((simp [X2, Wf, Vc.mtR, Vc.roA, Vc.roM, Wg, Wc, Wb, Wd, X8, Vc.fnM, Z4, St.find, Ze, Vc.del, Z3, Res.own, Vc.sg, Ya, Z6, Z9, Zp, Z5, Zq, At.sub, Vc.S1.sub, Res.sub, Kd.enc, Ins.cells, Ln.cells, Value.oneCell', X0, List.nodup_cons]); done)))); simp only [Yh, Z1, Zy, Vc.exK, Zm, Zj, Zh, Zg, Zx, Xp, Y7, Z0, Zn, Zl, Zz, Zk, Zi, Xm, Yc, Xn, Vc.ev, Vc.st, Vc.stq, Vc.gst, Xk, St.rd, St.get, St.put, St.find, Ze, St.new, Vc.gdc, Zs, Yt, Yp, Yr, Xl, Zw, Zt, Yj, Yi, Vc.S1.cells, Vc.upd, Vc.del, Zd, Vc.noV, Kd.enc, Kd.dec, Ins.cells, Ln.cells, Z4, Ye, Yn, Yf, Y4, Vc.rvs, Xc, Zc, Y8, Y2, Y5, Y9, Xb, Xe, Yk, Xh, Yb, Zv, Zb, Zu, Vc.kdL, Xq, Y3, Xi, Zr, SV.bd, Vc.S1.bd, At.bd, Value.oneCell', Int.reduceEq, Int.reduceNeg, Int.reduceLE, Int.reduceLT, Vc.lenOf, Yl, Xg, Z7, Vc.atK, Z8, Vc.unK, Vc.wfK, Ya, Z6, Z9, Zp, Yd, Z5, Zq, Ys, Vc.sg, Y1, Y6, Xd, Xa, Z3, Res.own, At.sub, Vc.S1.sub, SV.sub, Res.sub, Xj, Xo, Yo, Yq, Ym, Vc.frS, Kd.sz, Nat.reduceSub, ↓reduceIte, reduceCtorEq, Nat.reduceEqDiff, Nat.reduceAdd, Nat.reduceMul, Nat.reduceLeDiff, Nat.reduceLT, Nat.reduceBEq, Nat.reduceBNe, implies_true, Xr, Xf.rs, Xf.res, hgt]) | (with_reducible first | refine T.seq ?_ | refine T.block ?_ | assumption | refine And.intro ?_ ?_) | (intro h; first | (exfalso; omega) | exact (tf h ‹_›).elim | exact (tf ‹_› h).elim | skip))
      all_goals first | omega | skip
    · have hgt : ¬ (1000 : Int) < (rm.length : Int) := by omega
      repeat' (first | ((first | (with_reducible first | refine T.regs ?_ | refine T.cond ?_ | refine T.reg ?_ | refine T.ret ?_ | refine T.exit ?_ | refine T.skip ?_) | ((with_reducible first | refine T.dregs ?_ ?_ | refine T.dreg ?_ ?_ | refine T.dregts ?_ ?_ | refine T.dregt ?_ ?_ | refine T.danys ?_ ?_ | refine T.dany ?_ ?_); exact mix) | ((with_reducible refine Z2.gcp hglob (hAl) ?_ ?_); (focus ((simp [X2, Wf, Vc.mtR, Vc.roA, Vc.roM, Wg, Wc, Wb, Wd, X8, Vc.fnM, Z4, St.find, Ze, Vc.del, Z3, Res.own, Vc.sg, Ya, Z6, Z9, Zp, Z5, Zq, At.sub, Vc.S1.sub, Res.sub, Kd.enc, Ins.cells, Ln.cells, Value.oneCell', X0, List.nodup_cons]); done))) | ((with_reducible refine Z2.gcp hglob (hA) ?_ ?_); (focus ((simp [X2, Wf, Vc.mtR, Vc.roA, Vc.roM, Wg, Wc, Wb, Wd, X8, Vc.fnM, Z4, St.find, Ze, Vc.del, Z3, Res.own, Vc.sg, Ya, Z6, Z9, Zp, Z5, Zq, At.sub, Vc.S1.sub, Res.sub, Kd.enc, Ins.cells, Ln.cells, Value.oneCell', X0, List.nodup_cons]); done)))); simp only [Yh, Z1, Zy, Vc.exK, Zm, Zj, Zh, Zg, Zx, Xp, Y7, Z0, Zn, Zl, Zz, Zk, Zi, Xm, Yc, Xn, Vc.ev, Vc.st, Vc.stq, Vc.gst, Xk, St.rd, St.get, St.put, St.find, Ze, St.new, Vc.gdc, Zs, Yt, Yp, Yr, Xl, Zw, Zt, Yj, Yi, Vc.S1.cells, Vc.upd, Vc.del, Zd, Vc.noV, Kd.enc, Kd.dec, Ins.cells, Ln.cells, Z4, Ye, Yn, Yf, Y4, Vc.rvs, Xc, Zc, Y8, Y2, Y5, Y9, Xb, Xe, Yk, Xh, Yb, Zv, Zb, Zu, Vc.kdL, Xq, Y3, Xi, Zr, SV.bd, Vc.S1.bd, At.bd, Value.oneCell', Int.reduceEq, Int.reduceNeg, Int.reduceLE, Int.reduceLT, Vc.lenOf, Yl, Xg, Z7, Vc.atK, Z8, Vc.unK, Vc.wfK, Ya, Z6, Z9, Zp, Yd, Z5, Zq, Ys, Vc.sg, Y1, Y6, Xd, Xa, Z3, Res.own, At.sub, Vc.S1.sub, SV.sub, Res.sub, Xj, Xo, Yo, Yq, Ym, Vc.frS, Kd.sz, Nat.reduceSub, ↓reduceIte, reduceCtorEq, Nat.reduceEqDiff, Nat.reduceAdd, Nat.reduceMul, Nat.reduceLeDiff, Nat.reduceLT, Nat.reduceBEq, Nat.reduceBNe, implies_true, Xr, Xf.rs, Xf.res, hgt]) | (with_reducible first | refine T.seq ?_ | refine T.block ?_ | assumption | refine And.intro ?_ ?_) | (intro h; first | (exfalso; omega) | exact (tf h ‹_›).elim | exact (tf ‹_› h).elim | skip))
      all_goals first | omega | skip
      refine T.weak (Ent.nilRow (t := 7) 5 (.int .u8) rfl) ?_
      refine T.loop (ι := { j : Nat // j ≤ rm.length })
        (fun x => ⟨[(29, .one (.a (.int .i64 (x.1 : Int)))), (28, .one (.a (.int .i64 rm.length))), (27, .one (.a (.ref 2))), (7, .one (.a (.ref 3))), (5, .one (.a (.ref 0))), (6, .one (.a (.loc 1 0))), (0, .one (.a (.str t)))],
          [(0, .row 27 .line l), (1, .cells 31 [.int .i64 0, .int .i64 k]), (2, .ro (.int .u8) (rm.map fun b => ((b.toNat : Nat) : Int))), (3, .row 5 (.int .u8) (Ww (Tj (rm.take x.1))))], 4⟩) (fun x => rm.length - x.1) ⟨0, by simp⟩ (Ent.mk (id) (by simp [Za, Zo, Vc.bnd, St.get, St.find, Ze, SV.ren, Vc.S1.ren, At.ren, Res.ren, SV.bd, Vc.S1.bd, At.bd, Res.bd, Vc.upd, Vc.del, Kd.enc, Value.oneCell', List.length_map, Tj, Ww]) (by simp [Za, Zo, Vc.bnd, St.get, St.find, Ze, SV.ren, Vc.S1.ren, At.ren, Res.ren, SV.bd, Vc.S1.bd, At.bd, Res.bd, Vc.upd, Vc.del, Kd.enc, Value.oneCell', List.length_map, Tj, Ww]) (by simp [Za, Zo, Vc.bnd, St.get, St.find, Ze, SV.ren, Vc.S1.ren, At.ren, Res.ren, SV.bd, Vc.S1.bd, At.bd, Res.bd, Vc.upd, Vc.del, Kd.enc, Value.oneCell', List.length_map, Tj, Ww]) (by simp [Za, Zo, Vc.bnd, St.get, St.find, Ze, SV.ren, Vc.S1.ren, At.ren, Res.ren, SV.bd, Vc.S1.bd, At.bd, Res.bd, Vc.upd, Vc.del, Kd.enc, Value.oneCell', List.length_map, Tj, Ww])) ?_
      rintro ⟨j, hj⟩
      simp only
      have hnl : (Ww (Tj (rm.take j))).length ≤ 1000 := by
        have h1 : (Tj (rm.take j)).length ≤ (rm.take j).length := List.length_filter_le ..
        have h2 : (rm.take j).length ≤ rm.length := by simp; omega
        simp only [Ww, List.length_map]; omega
      by_cases hlt : j < rm.length
      · have hw : IntKind.i64.wrap ((j : Int) + 1) = ((j + 1 : Nat) : Int) := Wp (by omega)
        have htj : ((j : Int)).toNat = j := by omega
        generalize hb : rm[j] = b
        have htk : rm.take (j + 1) = rm.take j ++ [b] := by rw [List.take_add_one, List.getElem?_eq_getElem hlt, hb]; rfl
        have hget : (rm.map fun b => ((b.toNat : Nat) : Int)).getD j (Kd.int .u8).dflt = ((b.toNat : Nat) : Int) := by simp [List.getD, hlt, hb]
        by_cases hb10 : b = 10
        · have hc : ((b.toNat : Nat) : Int) = 10 := by rw [hb10]; rfl
          have he : Tj (rm.take (j + 1)) = Tj (rm.take j) := by rw [htk]; simp [Tj, hb10]
          repeat' (first | ((first | (with_reducible first | refine T.regs ?_ | refine T.cond ?_ | refine T.reg ?_ | refine T.ret ?_ | refine T.exit ?_ | refine T.skip ?_) | ((with_reducible first | refine T.dregs ?_ ?_ | refine T.dreg ?_ ?_ | refine T.dregts ?_ ?_ | refine T.dregt ?_ ?_ | refine T.danys ?_ ?_ | refine T.dany ?_ ?_); exact mix)); simp only [Yh, Z1, Zy, Vc.exK, Zm, Zj, Zh, Zg, Zx, Xp, Y7, Z0, Zn, Zl, Zz, Zk, Zi, Xm, Yc, Xn, Vc.ev, Vc.st, Vc.stq, Vc.gst, Xk, St.rd, St.get, St.put, St.find, Ze, St.new, Vc.gdc, Zs, Yt, Yp, Yr, Xl, Zw, Zt, Yj, Yi, Vc.S1.cells, Vc.upd, Vc.del, Zd, Vc.noV, Kd.enc, Kd.dec, Ins.cells, Ln.cells, Z4, Ye, Yn, Yf, Y4, Vc.rvs, Xc, Zc, Y8, Y2, Y5, Y9, Xb, Xe, Yk, Xh, Yb, Zv, Zb, Zu, Vc.kdL, Xq, Y3, Xi, Zr, SV.bd, Vc.S1.bd, At.bd, Value.oneCell', Int.reduceEq, Int.reduceNeg, Int.reduceLE, Int.reduceLT, Vc.lenOf, Yl, Xg, Z7, Vc.atK, Z8, Vc.unK, Vc.wfK, Ya, Z6, Z9, Zp, Yd, Z5, Zq, Ys, Vc.sg, Y1, Y6, Xd, Xa, Z3, Res.own, At.sub, Vc.S1.sub, SV.sub, Res.sub, Xj, Xo, Yo, Yq, Ym, Vc.frS, Kd.sz, Nat.reduceSub, ↓reduceIte, reduceCtorEq, Nat.reduceEqDiff, Nat.reduceAdd, Nat.reduceMul, Nat.reduceLeDiff, Nat.reduceLT, Nat.reduceBEq, Nat.reduceBNe, implies_true, Xr, Xf.rs, Xf.res, hw, htj, hget, hc, List.length_map, Int.ofNat_lt]) | (with_reducible first | refine T.seq ?_ | refine T.block ?_ | assumption | refine And.intro ?_ ?_) | (intro h; first | (exfalso; omega) | exact (tf h ‹_›).elim | exact (tf ‹_› h).elim | skip))
          all_goals first | omega | skip
          exact ⟨⟨j + 1, hlt⟩, (Ent.mk (id) (by simp [Za, Zo, Vc.bnd, St.get, St.find, Ze, SV.ren, Vc.S1.ren, At.ren, Res.ren, SV.bd, Vc.S1.bd, At.bd, Res.bd, Vc.upd, Vc.del, Kd.enc, Value.oneCell', hw, he]) (by simp [Za, Zo, Vc.bnd, St.get, St.find, Ze, SV.ren, Vc.S1.ren, At.ren, Res.ren, SV.bd, Vc.S1.bd, At.bd, Res.bd, Vc.upd, Vc.del, Kd.enc, Value.oneCell', hw, he]) (by simp [Za, Zo, Vc.bnd, St.get, St.find, Ze, SV.ren, Vc.S1.ren, At.ren, Res.ren, SV.bd, Vc.S1.bd, At.bd, Res.bd, Vc.upd, Vc.del, Kd.enc, Value.oneCell', hw, he]) (by simp [Za, Zo, Vc.bnd, St.get, St.find, Ze, SV.ren, Vc.S1.ren, At.ren, Res.ren, SV.bd, Vc.S1.bd, At.bd, Res.bd, Vc.upd, Vc.del, Kd.enc, Value.oneCell', hw, he])), by simp only; omega⟩
        · have hc : ¬ ((b.toNat : Nat) : Int) = 10 := fun e => hb10 (UInt8.toNat_inj.1 (by simp; omega))
          have he : Ww (Tj (rm.take (j + 1))) = Ww (Tj (rm.take j)) ++ [((b.toNat : Nat) : Int)] := by rw [htk]; simp [Tj, hb10, Ww]
          repeat' (first | ((first | (with_reducible first | refine T.regs ?_ | refine T.cond ?_ | refine T.reg ?_ | refine T.ret ?_ | refine T.exit ?_ | refine T.skip ?_) | ((with_reducible first | refine T.dregs ?_ ?_ | refine T.dreg ?_ ?_ | refine T.dregts ?_ ?_ | refine T.dregt ?_ ?_ | refine T.danys ?_ ?_ | refine T.dany ?_ ?_); exact mix)); simp only [Yh, Z1, Zy, Vc.exK, Zm, Zj, Zh, Zg, Zx, Xp, Y7, Z0, Zn, Zl, Zz, Zk, Zi, Xm, Yc, Xn, Vc.ev, Vc.st, Vc.stq, Vc.gst, Xk, St.rd, St.get, St.put, St.find, Ze, St.new, Vc.gdc, Zs, Yt, Yp, Yr, Xl, Zw, Zt, Yj, Yi, Vc.S1.cells, Vc.upd, Vc.del, Zd, Vc.noV, Kd.enc, Kd.dec, Ins.cells, Ln.cells, Z4, Ye, Yn, Yf, Y4, Vc.rvs, Xc, Zc, Y8, Y2, Y5, Y9, Xb, Xe, Yk, Xh, Yb, Zv, Zb, Zu, Vc.kdL, Xq, Y3, Xi, Zr, SV.bd, Vc.S1.bd, At.bd, Value.oneCell', Int.reduceEq, Int.reduceNeg, Int.reduceLE, Int.reduceLT, Vc.lenOf, Yl, Xg, Z7, Vc.atK, Z8, Vc.unK, Vc.wfK, Ya, Z6, Z9, Zp, Yd, Z5, Zq, Ys, Vc.sg, Y1, Y6, Xd, Xa, Z3, Res.own, At.sub, Vc.S1.sub, SV.sub, Res.sub, Xj, Xo, Yo, Yq, Ym, Vc.frS, Kd.sz, Nat.reduceSub, ↓reduceIte, reduceCtorEq, Nat.reduceEqDiff, Nat.reduceAdd, Nat.reduceMul, Nat.reduceLeDiff, Nat.reduceLT, Nat.reduceBEq, Nat.reduceBNe, implies_true, Xr, Xf.rs, Xf.res, hw, htj, hget, hc, List.length_map, Int.ofNat_lt]) | (with_reducible first | refine T.seq ?_ | refine T.block ?_ | assumption | refine And.intro ?_ ?_) | (intro h; first | (exfalso; omega) | exact (tf h ‹_›).elim | exact (tf ‹_› h).elim | skip))
          all_goals first | omega | skip
          exact ⟨⟨j + 1, hlt⟩, (Ent.mk (fun n => if n = 3 then 5 else n) (by simp [Za, Zo, Vc.bnd, St.get, St.find, Ze, SV.ren, Vc.S1.ren, At.ren, Res.ren, SV.bd, Vc.S1.bd, At.bd, Res.bd, Vc.upd, Vc.del, Kd.enc, Value.oneCell', hw, he]) (by simp [Za, Zo, Vc.bnd, St.get, St.find, Ze, SV.ren, Vc.S1.ren, At.ren, Res.ren, SV.bd, Vc.S1.bd, At.bd, Res.bd, Vc.upd, Vc.del, Kd.enc, Value.oneCell', hw, he]) (by simp [Za, Zo, Vc.bnd, St.get, St.find, Ze, SV.ren, Vc.S1.ren, At.ren, Res.ren, SV.bd, Vc.S1.bd, At.bd, Res.bd, Vc.upd, Vc.del, Kd.enc, Value.oneCell', hw, he]) (by simp [Za, Zo, Vc.bnd, St.get, St.find, Ze, SV.ren, Vc.S1.ren, At.ren, Res.ren, SV.bd, Vc.S1.bd, At.bd, Res.bd, Vc.upd, Vc.del, Kd.enc, Value.oneCell', hw, he])), by simp only; omega⟩
      · have hk2 : j = rm.length := by omega
        subst hk2
        rw [List.take_length] at hnl ⊢
        have hnl2 : (Tj rm).length ≤ 1000 := by simpa [Ww] using hnl
        have hbb := Le (Tj rm)
        have hA2 := Tf hM ((([32, 32, 59] ++ Tj rm) ++ [10]) ++ t) (by simp only [List.length_append, List.length_cons, List.length_nil]; omega)
        have hl2 := Qe ((([32, 32, 59] ++ Tj rm) ++ [10]) ++ t)
        generalize readS ((([32, 32, 59] ++ Tj rm) ++ [10]) ++ t) = R2 at *
        obtain ⟨l2, e2, k2⟩ := R2
        simp only at hA2 hl2 hlaw
        have hS := Qq l (by omega)
        rcases hlaw with (h4 | h5) | ⟨h0, h1⟩
        · subst h4
          repeat' (first | ((first | (with_reducible first | refine T.regs ?_ | refine T.cond ?_ | refine T.reg ?_ | refine T.ret ?_ | refine T.exit ?_ | refine T.skip ?_) | ((with_reducible first | refine T.dregs ?_ ?_ | refine T.dreg ?_ ?_ | refine T.dregts ?_ ?_ | refine T.dregt ?_ ?_ | refine T.danys ?_ ?_ | refine T.dany ?_ ?_); exact mix) | ((with_reducible refine Z2.gcp hglob (hA2) ?_ ?_); (focus ((simp [X2, Wf, Vc.mtR, Vc.roA, Vc.roM, Wg, Wc, Wb, Wd, X8, Vc.fnM, Z4, St.find, Ze, Vc.del, Z3, Res.own, Vc.sg, Ya, Z6, Z9, Zp, Z5, Zq, At.sub, Vc.S1.sub, Res.sub, Kd.enc, Ins.cells, Ln.cells, Value.oneCell', X0, List.nodup_cons]); done)))); simp only [Yh, Z1, Zy, Vc.exK, Zm, Zj, Zh, Zg, Zx, Xp, Y7, Z0, Zn, Zl, Zz, Zk, Zi, Xm, Yc, Xn, Vc.ev, Vc.st, Vc.stq, Vc.gst, Xk, St.rd, St.get, St.put, St.find, Ze, St.new, Vc.gdc, Zs, Yt, Yp, Yr, Xl, Zw, Zt, Yj, Yi, Vc.S1.cells, Vc.upd, Vc.del, Zd, Vc.noV, Kd.enc, Kd.dec, Ins.cells, Ln.cells, Z4, Ye, Yn, Yf, Y4, Vc.rvs, Xc, Zc, Y8, Y2, Y5, Y9, Xb, Xe, Yk, Xh, Yb, Zv, Zb, Zu, Vc.kdL, Xq, Y3, Xi, Zr, SV.bd, Vc.S1.bd, At.bd, Value.oneCell', Int.reduceEq, Int.reduceNeg, Int.reduceLE, Int.reduceLT, Vc.lenOf, Yl, Xg, Z7, Vc.atK, Z8, Vc.unK, Vc.wfK, Ya, Z6, Z9, Zp, Yd, Z5, Zq, Ys, Vc.sg, Y1, Y6, Xd, Xa, Z3, Res.own, At.sub, Vc.S1.sub, SV.sub, Res.sub, Xj, Xo, Yo, Yq, Ym, Vc.frS, Kd.sz, Nat.reduceSub, ↓reduceIte, reduceCtorEq, Nat.reduceEqDiff, Nat.reduceAdd, Nat.reduceMul, Nat.reduceLeDiff, Nat.reduceLT, Nat.reduceBEq, Nat.reduceBNe, implies_true, Xr, Xf.rs, Xf.res, hbb, Int.ofNat_lt]) | (with_reducible first | refine T.seq ?_ | refine T.block ?_ | assumption | refine And.intro ?_ ?_) | (intro h; first | (exfalso; omega) | exact (tf h ‹_›).elim | exact (tf ‹_› h).elim | skip))
          all_goals first | omega | (simp only [List.length_append, List.length_cons, List.length_nil]; omega) | skip
        · subst h5
          repeat' (first | ((first | (with_reducible first | refine T.regs ?_ | refine T.cond ?_ | refine T.reg ?_ | refine T.ret ?_ | refine T.exit ?_ | refine T.skip ?_) | ((with_reducible first | refine T.dregs ?_ ?_ | refine T.dreg ?_ ?_ | refine T.dregts ?_ ?_ | refine T.dregt ?_ ?_ | refine T.danys ?_ ?_ | refine T.dany ?_ ?_); exact mix) | ((with_reducible refine Z2.gcp hglob (hA2) ?_ ?_); (focus ((simp [X2, Wf, Vc.mtR, Vc.roA, Vc.roM, Wg, Wc, Wb, Wd, X8, Vc.fnM, Z4, St.find, Ze, Vc.del, Z3, Res.own, Vc.sg, Ya, Z6, Z9, Zp, Z5, Zq, At.sub, Vc.S1.sub, Res.sub, Kd.enc, Ins.cells, Ln.cells, Value.oneCell', X0, List.nodup_cons]); done)))); simp only [Yh, Z1, Zy, Vc.exK, Zm, Zj, Zh, Zg, Zx, Xp, Y7, Z0, Zn, Zl, Zz, Zk, Zi, Xm, Yc, Xn, Vc.ev, Vc.st, Vc.stq, Vc.gst, Xk, St.rd, St.get, St.put, St.find, Ze, St.new, Vc.gdc, Zs, Yt, Yp, Yr, Xl, Zw, Zt, Yj, Yi, Vc.S1.cells, Vc.upd, Vc.del, Zd, Vc.noV, Kd.enc, Kd.dec, Ins.cells, Ln.cells, Z4, Ye, Yn, Yf, Y4, Vc.rvs, Xc, Zc, Y8, Y2, Y5, Y9, Xb, Xe, Yk, Xh, Yb, Zv, Zb, Zu, Vc.kdL, Xq, Y3, Xi, Zr, SV.bd, Vc.S1.bd, At.bd, Value.oneCell', Int.reduceEq, Int.reduceNeg, Int.reduceLE, Int.reduceLT, Vc.lenOf, Yl, Xg, Z7, Vc.atK, Z8, Vc.unK, Vc.wfK, Ya, Z6, Z9, Zp, Yd, Z5, Zq, Ys, Vc.sg, Y1, Y6, Xd, Xa, Z3, Res.own, At.sub, Vc.S1.sub, SV.sub, Res.sub, Xj, Xo, Yo, Yq, Ym, Vc.frS, Kd.sz, Nat.reduceSub, ↓reduceIte, reduceCtorEq, Nat.reduceEqDiff, Nat.reduceAdd, Nat.reduceMul, Nat.reduceLeDiff, Nat.reduceLT, Nat.reduceBEq, Nat.reduceBNe, implies_true, Xr, Xf.rs, Xf.res, hbb, Int.ofNat_lt]) | (with_reducible first | refine T.seq ?_ | refine T.block ?_ | assumption | refine And.intro ?_ ?_) | (intro h; first | (exfalso; omega) | exact (tf h ‹_›).elim | exact (tf ‹_› h).elim | skip))
          all_goals first | omega | (simp only [List.length_append, List.length_cons, List.length_nil]; omega) | skip
        · subst h0
          subst h1
          repeat' (first | ((first | (with_reducible first | refine T.regs ?_ | refine T.cond ?_ | refine T.reg ?_ | refine T.ret ?_ | refine T.exit ?_ | refine T.skip ?_) | ((with_reducible first | refine T.dregs ?_ ?_ | refine T.dreg ?_ ?_ | refine T.dregts ?_ ?_ | refine T.dregt ?_ ?_ | refine T.danys ?_ ?_ | refine T.dany ?_ ?_); exact mix) | ((with_reducible refine Z2.gcp hglob (hA2) ?_ ?_); (focus ((simp [X2, Wf, Vc.mtR, Vc.roA, Vc.roM, Wg, Wc, Wb, Wd, X8, Vc.fnM, Z4, St.find, Ze, Vc.del, Z3, Res.own, Vc.sg, Ya, Z6, Z9, Zp, Z5, Zq, At.sub, Vc.S1.sub, Res.sub, Kd.enc, Ins.cells, Ln.cells, Value.oneCell', X0, List.nodup_cons]); done))) | ((with_reducible first | apply Z2.rd (hS) | apply Yg.rd (hS)); (focus ((repeat' (first | exact rfl | exact trivial | refine And.intro ?_ ?_ | (simp [SV.bd, Vc.S1.bd, At.bd, Zr, Yw, Ins.cells, Ln.cells]; done))); done)))); simp only [Yh, Z1, Zy, Vc.exK, Zm, Zj, Zh, Zg, Zx, Xp, Y7, Z0, Zn, Zl, Zz, Zk, Zi, Xm, Yc, Xn, Vc.ev, Vc.st, Vc.stq, Vc.gst, Xk, St.rd, St.get, St.put, St.find, Ze, St.new, Vc.gdc, Zs, Yt, Yp, Yr, Xl, Zw, Zt, Yj, Yi, Vc.S1.cells, Vc.upd, Vc.del, Zd, Vc.noV, Kd.enc, Kd.dec, Ins.cells, Ln.cells, Z4, Ye, Yn, Yf, Y4, Vc.rvs, Xc, Zc, Y8, Y2, Y5, Y9, Xb, Xe, Yk, Xh, Yb, Zv, Zb, Zu, Vc.kdL, Xq, Y3, Xi, Zr, SV.bd, Vc.S1.bd, At.bd, Value.oneCell', Int.reduceEq, Int.reduceNeg, Int.reduceLE, Int.reduceLT, Vc.lenOf, Yl, Xg, Z7, Vc.atK, Z8, Vc.unK, Vc.wfK, Ya, Z6, Z9, Zp, Yd, Z5, Zq, Ys, Vc.sg, Y1, Y6, Xd, Xa, Z3, Res.own, At.sub, Vc.S1.sub, SV.sub, Res.sub, Xj, Xo, Yo, Yq, Ym, Vc.frS, Kd.sz, Nat.reduceSub, ↓reduceIte, reduceCtorEq, Nat.reduceEqDiff, Nat.reduceAdd, Nat.reduceMul, Nat.reduceLeDiff, Nat.reduceLT, Nat.reduceBEq, Nat.reduceBNe, implies_true, Xr, Xf.rs, Xf.res, hbb, Int.ofNat_lt]) | (with_reducible first | refine T.seq ?_ | refine T.block ?_ | assumption | refine And.intro ?_ ?_) | (intro h; first | (exfalso; omega) | exact (tf h ‹_›).elim | exact (tf ‹_› h).elim | skip))
          all_goals first | omega | (simp only [List.length_append, List.length_cons, List.length_nil]; omega) | skip
  · repeat' (first | ((first | (with_reducible first | refine T.regs ?_ | refine T.cond ?_ | refine T.reg ?_ | refine T.ret ?_ | refine T.exit ?_ | refine T.skip ?_) | ((with_reducible first | refine T.dregs ?_ ?_ | refine T.dreg ?_ ?_ | refine T.dregts ?_ ?_ | refine T.dregt ?_ ?_ | refine T.danys ?_ ?_ | refine T.dany ?_ ?_); exact mix) | ((with_reducible refine Z2.gcp hglob (hAl) ?_ ?_); (focus ((simp [X2, Wf, Vc.mtR, Vc.roA, Vc.roM, Wg, Wc, Wb, Wd, X8, Vc.fnM, Z4, St.find, Ze, Vc.del, Z3, Res.own, Vc.sg, Ya, Z6, Z9, Zp, Z5, Zq, At.sub, Vc.S1.sub, Res.sub, Kd.enc, Ins.cells, Ln.cells, Value.oneCell', X0, List.nodup_cons]); done))) | ((with_reducible refine Z2.gcp hglob (hA) ?_ ?_); (focus ((simp [X2, Wf, Vc.mtR, Vc.roA, Vc.roM, Wg, Wc, Wb, Wd, X8, Vc.fnM, Z4, St.find, Ze, Vc.del, Z3, Res.own, Vc.sg, Ya, Z6, Z9, Zp, Z5, Zq, At.sub, Vc.S1.sub, Res.sub, Kd.enc, Ins.cells, Ln.cells, Value.oneCell', X0, List.nodup_cons]); done)))); simp only [Yh, Z1, Zy, Vc.exK, Zm, Zj, Zh, Zg, Zx, Xp, Y7, Z0, Zn, Zl, Zz, Zk, Zi, Xm, Yc, Xn, Vc.ev, Vc.st, Vc.stq, Vc.gst, Xk, St.rd, St.get, St.put, St.find, Ze, St.new, Vc.gdc, Zs, Yt, Yp, Yr, Xl, Zw, Zt, Yj, Yi, Vc.S1.cells, Vc.upd, Vc.del, Zd, Vc.noV, Kd.enc, Kd.dec, Ins.cells, Ln.cells, Z4, Ye, Yn, Yf, Y4, Vc.rvs, Xc, Zc, Y8, Y2, Y5, Y9, Xb, Xe, Yk, Xh, Yb, Zv, Zb, Zu, Vc.kdL, Xq, Y3, Xi, Zr, SV.bd, Vc.S1.bd, At.bd, Value.oneCell', Int.reduceEq, Int.reduceNeg, Int.reduceLE, Int.reduceLT, Vc.lenOf, Yl, Xg, Z7, Vc.atK, Z8, Vc.unK, Vc.wfK, Ya, Z6, Z9, Zp, Yd, Z5, Zq, Ys, Vc.sg, Y1, Y6, Xd, Xa, Z3, Res.own, At.sub, Vc.S1.sub, SV.sub, Res.sub, Xj, Xo, Yo, Yq, Ym, Vc.frS, Kd.sz, Nat.reduceSub, ↓reduceIte, reduceCtorEq, Nat.reduceEqDiff, Nat.reduceAdd, Nat.reduceMul, Nat.reduceLeDiff, Nat.reduceLT, Nat.reduceBEq, Nat.reduceBNe, implies_true, Xr, Xf.rs, Xf.res, he]) | (with_reducible first | refine T.seq ?_ | refine T.block ?_ | assumption | refine And.intro ?_ ?_) | (intro h; first | (exfalso; omega) | exact (tf h ‹_›).elim | exact (tf ‹_› h).elim | skip))
    all_goals first | omega | (simp only [List.length_append, List.length_cons, List.length_nil]; omega) | skip
end Go.Proofs.YtccjjcdjgibilaaDoor
