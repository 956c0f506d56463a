/-
  A part of the proofs of this seat's laws: a step on the way. It has no conditions of its own.
-/
import Derived.Test.YtccjjcdjgibilaaDoorReadK
namespace Go.Proofs.YtccjjcdjgibilaaDoor
open Go Go.RowKit Vc
set_option linter.unusedVariables false
set_option linter.unusedSimpArgs false
attribute [local irreducible] T Z2 Wn Ent RdC RwC Ut Z3 Y7
theorem Pq {b : Bool} {ps : List (List UInt8)} {e : Int} (h : To b ps = .error e) : e ≠ 0 := by
  unfold To at h
  split at h
  · cases h
  · split at h
    · cases h; decide
    · split at h
      · cases h
      · cases h; decide
theorem L1 {op : Int} {d s : Nat} {ps : List (List UInt8)} {e : Int} (h : Ry op d s ps = .error e) : e ≠ 0 := by
  unfold Ry U9 at h
  split at h
  · rename_i e' he
    cases h
    split at he
    · cases he
    · split at he
      · cases he; decide
      · split at he
        · cases he
        · split at he
          · cases he
          · cases he; decide
  · split at h
    · cases h
    · cases h; decide
theorem Ly {op : Int} {ps : List (List UInt8)} {e : Int} (h : insV op ps = .error e) : e ≠ 0 := by
  rw [P8] at h
  split at h
  · rename_i e' he
    cases h; exact Pq he
  · unfold Lf at h
    split at h
    · rename_i e' he
      cases h; exact Pq he
    · exact L1 h
theorem Ll {s : List UInt8} {e : Int} (h : Sf s = .error e) : e ≠ 0 := by
  unfold Sf at h
  simp only at h
  split at h
  · cases h
  · split at h
    · split at h
      · cases h
      · cases h; decide
    · split at h
      · cases h; decide
      · split at h
        · rename_i e' he
          cases h; exact Ly he
        · cases h
theorem Sh (s : List UInt8) (l : List (List UInt8)) (k : Nat) (acc : List Ln) :
    Uk (s :: l) k acc = if (lineT s).2.2 ≠ 0 then (([], (lineT s).2.2, (k : Int)) : List Ln × Int × Int) else if (lineT s).2.1 = true then Uk l (k + 1) (acc ++ [(lineT s).1]) else Uk l (k + 1) acc := by
  rw [Uk]
  unfold lineT
  cases hv : Sf s with
  | error e => simp only; rw [if_pos (Ll hv)]
  | ok o => cases o <;> simp
theorem Ma (t : List UInt8) : (∀ p ∈ linesS t, p.length ≤ t.length) ∧ (linesS t).length ≤ t.length + 1 := by
  have h1 := Tl 10 t
  have h2 := List.count_le_length (a := (10 : UInt8)) (l := t)
  unfold linesS
  split
  · refine ⟨fun p hp => V7 10 t p (List.dropLast_subset _ hp), ?_⟩
    rw [List.length_dropLast]; omega
  · exact ⟨V7 10 t, by omega⟩
set_option maxHeartbeats 16000000 in
set_option maxRecDepth 100000 in
theorem Nz (t : List UInt8) (hs : t.length ≤ 9223372036854775807) :
    RwC Tryd.prog 17 [.v (.a (.str t))] 27 .line (readS t).1 [.agg [.int .i64 (readS t).2.1, .int .i64 (readS t).2.2]] := by
  refine Xv.fn.rw (by simp) (by repeat' (first | exact rfl | exact trivial | refine And.intro ?_ ?_ | (simp [SV.bd, Vc.S1.bd, At.bd, Zr, Y0, Ins.cells, Ln.cells]; done))) (by simp [S1.bd, At.bd]) fun w => ?_
  generalize hR : readS t = R
  unfold readS at hR
  by_cases hlen : 1048576 < t.length
  · rw [if_pos hlen] at hR
    subst hR
    have hgt : (1048576 : Int) < (t.length : Int) := by omega
    repeat' (first | ((first | (with_reducible first | refine T.regs ?_ | refine T.cond ?_ | refine T.reg ?_ | refine T.ret ?_ | refine T.exit ?_ | refine T.skip ?_) | ((with_reducible first | refine T.dregs ?_ ?_ | refine T.dreg ?_ ?_ | refine T.dregts ?_ ?_ | refine T.dregt ?_ ?_ | refine T.danys ?_ ?_ | refine T.dany ?_ ?_); exact mix)); simp only [Yh, Zz, Zy, Vc.exK, Zn, Zk, Zg, Zh, Zx, Xr, Y8, Z0, Zl, Zi, Z1, Zm, Zj, Xn, Yc, Xo, Vc.ev, Vc.st, Vc.stq, Vc.gst, Xl, St.rd, St.get, St.put, St.find, Zf, St.new, Vc.gdc, Zs, Yp, Yt, Yu, Xk, Zw, Zt, Yk, Yi, Vc.S1.cells, Vc.upd, Vc.del, Zd, Vc.noV, Kd.enc, Kd.dec, Ins.cells, Ln.cells, Z5, Yf, Yo, Ye, Y4, Vc.rvs, Xf, Ze, Y9, Y2, Y5, Xa, Xc, Xe, Yl, Xi, Yd, Zv, Zc, Zu, Vc.kdL, Xq, Y3, Xj, Zr, SV.bd, Vc.S1.bd, At.bd, Value.oneCell', Int.reduceEq, Int.reduceNeg, Int.reduceLE, Int.reduceLT, Vc.lenOf, Ym, Xg, Z8, Vc.atK, Ya, Vc.unK, Vc.wfK, Yb, Z7, Z9, Zp, Yg, Z6, Zq, Yr, Vc.sg, Y1, Y6, Xb, Xd, Z4, Res.own, At.sub, Vc.S1.sub, SV.sub, Res.sub, Xm, Xp, Ys, Yq, Yn, Vc.frS, Kd.sz, Nat.reduceSub, ↓reduceIte, reduceCtorEq, Nat.reduceEqDiff, Nat.reduceAdd, Nat.reduceMul, Nat.reduceLeDiff, Nat.reduceLT, Nat.reduceBEq, Nat.reduceBNe, implies_true, Xs, Xv.rs, Xv.res, hgt]) | (with_reducible first | refine T.seq ?_ | refine T.block ?_ | assumption | refine And.intro ?_ ?_) | (intro h; first | (exfalso; omega) | exact (tf h ‹_›).elim | exact (tf ‹_› h).elim | skip))
    all_goals first | omega | skip
  rw [if_neg hlen] at hR
  have hgt : ¬ (1048576 : Int) < (t.length : Int) := by omega
  have hL := Oi t (by omega)
  obtain ⟨hp, hl⟩ := Ma t
  generalize linesS t = L at *
  by_cases h40 : 40000 < L.length
  · rw [if_pos h40] at hR
    subst hR
    have hgt2 : (40000 : Int) < (L.length : Int) := by omega
    repeat' (first | ((first | (with_reducible first | refine T.regs ?_ | refine T.cond ?_ | refine T.reg ?_ | refine T.ret ?_ | refine T.exit ?_ | refine T.skip ?_) | ((with_reducible first | refine T.dregs ?_ ?_ | refine T.dreg ?_ ?_ | refine T.dregts ?_ ?_ | refine T.dregt ?_ ?_ | refine T.danys ?_ ?_ | refine T.dany ?_ ?_); exact mix) | ((with_reducible apply Z2.rw1 (hL)); (focus ((repeat' (first | exact rfl | exact trivial | refine And.intro ?_ ?_ | (simp [SV.bd, Vc.S1.bd, At.bd, Zr, Y0, Ins.cells, Ln.cells]; done))); done)))); simp only [Yh, Zz, Zy, Vc.exK, Zn, Zk, Zg, Zh, Zx, Xr, Y8, Z0, Zl, Zi, Z1, Zm, Zj, Xn, Yc, Xo, Vc.ev, Vc.st, Vc.stq, Vc.gst, Xl, St.rd, St.get, St.put, St.find, Zf, St.new, Vc.gdc, Zs, Yp, Yt, Yu, Xk, Zw, Zt, Yk, Yi, Vc.S1.cells, Vc.upd, Vc.del, Zd, Vc.noV, Kd.enc, Kd.dec, Ins.cells, Ln.cells, Z5, Yf, Yo, Ye, Y4, Vc.rvs, Xf, Ze, Y9, Y2, Y5, Xa, Xc, Xe, Yl, Xi, Yd, Zv, Zc, Zu, Vc.kdL, Xq, Y3, Xj, Zr, SV.bd, Vc.S1.bd, At.bd, Value.oneCell', Int.reduceEq, Int.reduceNeg, Int.reduceLE, Int.reduceLT, Vc.lenOf, Ym, Xg, Z8, Vc.atK, Ya, Vc.unK, Vc.wfK, Yb, Z7, Z9, Zp, Yg, Z6, Zq, Yr, Vc.sg, Y1, Y6, Xb, Xd, Z4, Res.own, At.sub, Vc.S1.sub, SV.sub, Res.sub, Xm, Xp, Ys, Yq, Yn, Vc.frS, Kd.sz, Nat.reduceSub, ↓reduceIte, reduceCtorEq, Nat.reduceEqDiff, Nat.reduceAdd, Nat.reduceMul, Nat.reduceLeDiff, Nat.reduceLT, Nat.reduceBEq, Nat.reduceBNe, implies_true, Xs, Xv.rs, Xv.res, hgt, hgt2]) | (with_reducible first | refine T.seq ?_ | refine T.block ?_ | assumption | refine And.intro ?_ ?_) | (intro h; first | (exfalso; omega) | exact (tf h ‹_›).elim | exact (tf ‹_› h).elim | skip))
    all_goals first | omega | skip
  rw [if_neg h40] at hR
  have hgt2 : ¬ (40000 : Int) < (L.length : Int) := by omega
  repeat' (first | ((first | (with_reducible first | refine T.regs ?_ | refine T.cond ?_ | refine T.reg ?_ | refine T.ret ?_ | refine T.exit ?_ | refine T.skip ?_) | ((with_reducible first | refine T.dregs ?_ ?_ | refine T.dreg ?_ ?_ | refine T.dregts ?_ ?_ | refine T.dregt ?_ ?_ | refine T.danys ?_ ?_ | refine T.dany ?_ ?_); exact mix) | ((with_reducible apply Z2.rw1 (hL)); (focus ((repeat' (first | exact rfl | exact trivial | refine And.intro ?_ ?_ | (simp [SV.bd, Vc.S1.bd, At.bd, Zr, Y0, Ins.cells, Ln.cells]; done))); done)))); simp only [Yh, Zz, Zy, Vc.exK, Zn, Zk, Zg, Zh, Zx, Xr, Y8, Z0, Zl, Zi, Z1, Zm, Zj, Xn, Yc, Xo, Vc.ev, Vc.st, Vc.stq, Vc.gst, Xl, St.rd, St.get, St.put, St.find, Zf, St.new, Vc.gdc, Zs, Yp, Yt, Yu, Xk, Zw, Zt, Yk, Yi, Vc.S1.cells, Vc.upd, Vc.del, Zd, Vc.noV, Kd.enc, Kd.dec, Ins.cells, Ln.cells, Z5, Yf, Yo, Ye, Y4, Vc.rvs, Xf, Ze, Y9, Y2, Y5, Xa, Xc, Xe, Yl, Xi, Yd, Zv, Zc, Zu, Vc.kdL, Xq, Y3, Xj, Zr, SV.bd, Vc.S1.bd, At.bd, Value.oneCell', Int.reduceEq, Int.reduceNeg, Int.reduceLE, Int.reduceLT, Vc.lenOf, Ym, Xg, Z8, Vc.atK, Ya, Vc.unK, Vc.wfK, Yb, Z7, Z9, Zp, Yg, Z6, Zq, Yr, Vc.sg, Y1, Y6, Xb, Xd, Z4, Res.own, At.sub, Vc.S1.sub, SV.sub, Res.sub, Xm, Xp, Ys, Yq, Yn, Vc.frS, Kd.sz, Nat.reduceSub, ↓reduceIte, reduceCtorEq, Nat.reduceEqDiff, Nat.reduceAdd, Nat.reduceMul, Nat.reduceLeDiff, Nat.reduceLT, Nat.reduceBEq, Nat.reduceBNe, implies_true, Xs, Xv.rs, Xv.res, hgt, hgt2]) | (with_reducible first | refine T.seq ?_ | refine T.block ?_ | assumption | refine And.intro ?_ ?_) | (intro h; first | (exfalso; omega) | exact (tf h ‹_›).elim | exact (tf ‹_› h).elim | skip))
  all_goals first | omega | skip
  refine T.weak (Ent.nilRow (t := 5) 27 .line rfl) ?_
  refine T.loop (ι := { p : Nat × List Ln // p.1 ≤ L.length ∧ Uk (L.drop p.1) p.1 p.2 = R ∧ p.2.length ≤ p.1 })
    (fun x => ⟨[(23, .one (.a (.int .i64 (x.1.1 : Int)))), (22, .one (.a (.int .i64 L.length))), (21, .one (.a (.ref 1))), (5, .one (.a (.ref 2))), (3, .one (.a (.loc 0 0)))],
      [(0, .cells 31 [.int .i64 0, .int .i64 0]), (1, .row 9 .str L), (2, .row 27 .line x.1.2)], 3⟩) (fun x => L.length - x.1.1) ⟨(0, []), by simp, by simpa using hR, by simp⟩ (Ent.mk (id) (by simp [Za, Zo, Vc.bnd, St.get, St.find, Zf, SV.ren, Vc.S1.ren, At.ren, Res.ren, SV.bd, Vc.S1.bd, At.bd, Res.bd, Vc.upd, Vc.del, Kd.enc, Value.oneCell']) (by simp [Za, Zo, Vc.bnd, St.get, St.find, Zf, SV.ren, Vc.S1.ren, At.ren, Res.ren, SV.bd, Vc.S1.bd, At.bd, Res.bd, Vc.upd, Vc.del, Kd.enc, Value.oneCell']) (by simp [Za, Zo, Vc.bnd, St.get, St.find, Zf, SV.ren, Vc.S1.ren, At.ren, Res.ren, SV.bd, Vc.S1.bd, At.bd, Res.bd, Vc.upd, Vc.del, Kd.enc, Value.oneCell']) (by simp [Za, Zo, Vc.bnd, St.get, St.find, Zf, SV.ren, Vc.S1.ren, At.ren, Res.ren, SV.bd, Vc.S1.bd, At.bd, Res.bd, Vc.upd, Vc.del, Kd.enc, Value.oneCell'])) ?_
  rintro ⟨⟨k, acc⟩, hk, hrun, hal⟩
  simp only at hk hrun hal
  by_cases hlt : k < L.length
  · have hdrop : L.drop k = L.getD k [] :: L.drop (k + 1) := by
      rw [List.drop_eq_getElem_cons hlt]; simp [List.getD, hlt]
    have hmem : L.getD k [] ∈ L := by simp [List.getD, hlt]
    generalize hy : L.getD k [] = x at hdrop hmem
    have hy' : L.getD k (Kd.dflt .str) = x := hy
    have hxl := hp x hmem
    rw [hdrop, Sh] at hrun
    have hA := O8 x (by omega)
    have hw : IntKind.i64.wrap ((k : Int) + 1) = ((k + 1 : Nat) : Int) := Wt (by omega)
    have ht : ((k : Int)).toNat = k := by omega
    generalize lineT x = V at hA hrun
    obtain ⟨y, some_, e⟩ := V
    simp only at hA hrun
    by_cases he : e ≠ 0
    · rw [if_pos he] at hrun
      subst hrun
      repeat' (first | ((first | (with_reducible first | refine T.regs ?_ | refine T.cond ?_ | refine T.reg ?_ | refine T.ret ?_ | refine T.exit ?_ | refine T.skip ?_) | ((with_reducible first | refine T.dregs ?_ ?_ | refine T.dreg ?_ ?_ | refine T.dregts ?_ ?_ | refine T.dregt ?_ ?_ | refine T.danys ?_ ?_ | refine T.dany ?_ ?_); exact mix) | ((with_reducible first | apply Z2.rd (hA) | apply Z3.rd (hA)); (focus ((repeat' (first | exact rfl | exact trivial | refine And.intro ?_ ?_ | (simp [SV.bd, Vc.S1.bd, At.bd, Zr, Y0, Ins.cells, Ln.cells]; done))); done)))); simp only [Yh, Zz, Zy, Vc.exK, Zn, Zk, Zg, Zh, Zx, Xr, Y8, Z0, Zl, Zi, Z1, Zm, Zj, Xn, Yc, Xo, Vc.ev, Vc.st, Vc.stq, Vc.gst, Xl, St.rd, St.get, St.put, St.find, Zf, St.new, Vc.gdc, Zs, Yp, Yt, Yu, Xk, Zw, Zt, Yk, Yi, Vc.S1.cells, Vc.upd, Vc.del, Zd, Vc.noV, Kd.enc, Kd.dec, Ins.cells, Ln.cells, Z5, Yf, Yo, Ye, Y4, Vc.rvs, Xf, Ze, Y9, Y2, Y5, Xa, Xc, Xe, Yl, Xi, Yd, Zv, Zc, Zu, Vc.kdL, Xq, Y3, Xj, Zr, SV.bd, Vc.S1.bd, At.bd, Value.oneCell', Int.reduceEq, Int.reduceNeg, Int.reduceLE, Int.reduceLT, Vc.lenOf, Ym, Xg, Z8, Vc.atK, Ya, Vc.unK, Vc.wfK, Yb, Z7, Z9, Zp, Yg, Z6, Zq, Yr, Vc.sg, Y1, Y6, Xb, Xd, Z4, Res.own, At.sub, Vc.S1.sub, SV.sub, Res.sub, Xm, Xp, Ys, Yq, Yn, Vc.frS, Kd.sz, Nat.reduceSub, ↓reduceIte, reduceCtorEq, Nat.reduceEqDiff, Nat.reduceAdd, Nat.reduceMul, Nat.reduceLeDiff, Nat.reduceLT, Nat.reduceBEq, Nat.reduceBNe, implies_true, Xs, Xv.rs, Xv.res, hy', ht, hw, he, Int.ofNat_lt]) | (with_reducible first | refine T.seq ?_ | refine T.block ?_ | assumption | refine And.intro ?_ ?_) | (intro h; first | (exfalso; omega) | exact (tf h ‹_›).elim | exact (tf ‹_› h).elim | skip))
      all_goals first | omega | skip
    · rw [if_neg he] at hrun
      have he0 : e = 0 := by simpa using he
      subst he0
      cases some_
      · rw [if_neg (by decide)] at hrun
        repeat' (first | ((first | (with_reducible first | refine T.regs ?_ | refine T.cond ?_ | refine T.reg ?_ | refine T.ret ?_ | refine T.exit ?_ | refine T.skip ?_) | ((with_reducible first | refine T.dregs ?_ ?_ | refine T.dreg ?_ ?_ | refine T.dregts ?_ ?_ | refine T.dregt ?_ ?_ | refine T.danys ?_ ?_ | refine T.dany ?_ ?_); exact mix) | ((with_reducible first | apply Z2.rd (hA) | apply Z3.rd (hA)); (focus ((repeat' (first | exact rfl | exact trivial | refine And.intro ?_ ?_ | (simp [SV.bd, Vc.S1.bd, At.bd, Zr, Y0, Ins.cells, Ln.cells]; done))); done)))); simp only [Yh, Zz, Zy, Vc.exK, Zn, Zk, Zg, Zh, Zx, Xr, Y8, Z0, Zl, Zi, Z1, Zm, Zj, Xn, Yc, Xo, Vc.ev, Vc.st, Vc.stq, Vc.gst, Xl, St.rd, St.get, St.put, St.find, Zf, St.new, Vc.gdc, Zs, Yp, Yt, Yu, Xk, Zw, Zt, Yk, Yi, Vc.S1.cells, Vc.upd, Vc.del, Zd, Vc.noV, Kd.enc, Kd.dec, Ins.cells, Ln.cells, Z5, Yf, Yo, Ye, Y4, Vc.rvs, Xf, Ze, Y9, Y2, Y5, Xa, Xc, Xe, Yl, Xi, Yd, Zv, Zc, Zu, Vc.kdL, Xq, Y3, Xj, Zr, SV.bd, Vc.S1.bd, At.bd, Value.oneCell', Int.reduceEq, Int.reduceNeg, Int.reduceLE, Int.reduceLT, Vc.lenOf, Ym, Xg, Z8, Vc.atK, Ya, Vc.unK, Vc.wfK, Yb, Z7, Z9, Zp, Yg, Z6, Zq, Yr, Vc.sg, Y1, Y6, Xb, Xd, Z4, Res.own, At.sub, Vc.S1.sub, SV.sub, Res.sub, Xm, Xp, Ys, Yq, Yn, Vc.frS, Kd.sz, Nat.reduceSub, ↓reduceIte, reduceCtorEq, Nat.reduceEqDiff, Nat.reduceAdd, Nat.reduceMul, Nat.reduceLeDiff, Nat.reduceLT, Nat.reduceBEq, Nat.reduceBNe, implies_true, Xs, Xv.rs, Xv.res, hy', ht, hw, Int.ofNat_lt]) | (with_reducible first | refine T.seq ?_ | refine T.block ?_ | assumption | refine And.intro ?_ ?_) | (intro h; first | (exfalso; omega) | exact (tf h ‹_›).elim | exact (tf ‹_› h).elim | skip))
        all_goals first | omega | skip
        exact ⟨⟨(k + 1, acc), hlt, hrun, by simp only; omega⟩, (Ent.mk (id) (by simp [Za, Zo, Vc.bnd, St.get, St.find, Zf, SV.ren, Vc.S1.ren, At.ren, Res.ren, SV.bd, Vc.S1.bd, At.bd, Res.bd, Vc.upd, Vc.del, Kd.enc, Value.oneCell', hw]) (by simp [Za, Zo, Vc.bnd, St.get, St.find, Zf, SV.ren, Vc.S1.ren, At.ren, Res.ren, SV.bd, Vc.S1.bd, At.bd, Res.bd, Vc.upd, Vc.del, Kd.enc, Value.oneCell', hw]) (by simp [Za, Zo, Vc.bnd, St.get, St.find, Zf, SV.ren, Vc.S1.ren, At.ren, Res.ren, SV.bd, Vc.S1.bd, At.bd, Res.bd, Vc.upd, Vc.del, Kd.enc, Value.oneCell', hw]) (by simp [Za, Zo, Vc.bnd, St.get, St.find, Zf, SV.ren, Vc.S1.ren, At.ren, Res.ren, SV.bd, Vc.S1.bd, At.bd, Res.bd, Vc.upd, Vc.del, Kd.enc, Value.oneCell', hw])), by simp only; omega⟩
      · rw [if_pos rfl] at hrun
        repeat' (first | ((first | (with_reducible first | refine T.regs ?_ | refine T.cond ?_ | refine T.reg ?_ | refine T.ret ?_ | refine T.exit ?_ | refine T.skip ?_) | ((with_reducible first | refine T.dregs ?_ ?_ | refine T.dreg ?_ ?_ | refine T.dregts ?_ ?_ | refine T.dregt ?_ ?_ | refine T.danys ?_ ?_ | refine T.dany ?_ ?_); exact mix) | ((with_reducible first | apply Z2.rd (hA) | apply Z3.rd (hA)); (focus ((repeat' (first | exact rfl | exact trivial | refine And.intro ?_ ?_ | (simp [SV.bd, Vc.S1.bd, At.bd, Zr, Y0, Ins.cells, Ln.cells]; done))); done)))); simp only [Yh, Zz, Zy, Vc.exK, Zn, Zk, Zg, Zh, Zx, Xr, Y8, Z0, Zl, Zi, Z1, Zm, Zj, Xn, Yc, Xo, Vc.ev, Vc.st, Vc.stq, Vc.gst, Xl, St.rd, St.get, St.put, St.find, Zf, St.new, Vc.gdc, Zs, Yp, Yt, Yu, Xk, Zw, Zt, Yk, Yi, Vc.S1.cells, Vc.upd, Vc.del, Zd, Vc.noV, Kd.enc, Kd.dec, Ins.cells, Ln.cells, Z5, Yf, Yo, Ye, Y4, Vc.rvs, Xf, Ze, Y9, Y2, Y5, Xa, Xc, Xe, Yl, Xi, Yd, Zv, Zc, Zu, Vc.kdL, Xq, Y3, Xj, Zr, SV.bd, Vc.S1.bd, At.bd, Value.oneCell', Int.reduceEq, Int.reduceNeg, Int.reduceLE, Int.reduceLT, Vc.lenOf, Ym, Xg, Z8, Vc.atK, Ya, Vc.unK, Vc.wfK, Yb, Z7, Z9, Zp, Yg, Z6, Zq, Yr, Vc.sg, Y1, Y6, Xb, Xd, Z4, Res.own, At.sub, Vc.S1.sub, SV.sub, Res.sub, Xm, Xp, Ys, Yq, Yn, Vc.frS, Kd.sz, Nat.reduceSub, ↓reduceIte, reduceCtorEq, Nat.reduceEqDiff, Nat.reduceAdd, Nat.reduceMul, Nat.reduceLeDiff, Nat.reduceLT, Nat.reduceBEq, Nat.reduceBNe, implies_true, Xs, Xv.rs, Xv.res, hy', ht, hw, Int.ofNat_lt]) | (with_reducible first | refine T.seq ?_ | refine T.block ?_ | assumption | refine And.intro ?_ ?_) | (intro h; first | (exfalso; omega) | exact (tf h ‹_›).elim | exact (tf ‹_› h).elim | skip))
        all_goals first | omega | skip
        exact ⟨⟨(k + 1, acc ++ [y]), hlt, hrun, by simp only [List.length_append, List.length_cons, List.length_nil]; omega⟩, (Ent.mk (fun n => if n = 2 then 5 else n) (by simp [Za, Zo, Vc.bnd, St.get, St.find, Zf, SV.ren, Vc.S1.ren, At.ren, Res.ren, SV.bd, Vc.S1.bd, At.bd, Res.bd, Vc.upd, Vc.del, Kd.enc, Value.oneCell', hw]) (by simp [Za, Zo, Vc.bnd, St.get, St.find, Zf, SV.ren, Vc.S1.ren, At.ren, Res.ren, SV.bd, Vc.S1.bd, At.bd, Res.bd, Vc.upd, Vc.del, Kd.enc, Value.oneCell', hw]) (by simp [Za, Zo, Vc.bnd, St.get, St.find, Zf, SV.ren, Vc.S1.ren, At.ren, Res.ren, SV.bd, Vc.S1.bd, At.bd, Res.bd, Vc.upd, Vc.del, Kd.enc, Value.oneCell', hw]) (by simp [Za, Zo, Vc.bnd, St.get, St.find, Zf, SV.ren, Vc.S1.ren, At.ren, Res.ren, SV.bd, Vc.S1.bd, At.bd, Res.bd, Vc.upd, Vc.del, Kd.enc, Value.oneCell', hw])), by simp only; omega⟩
  · have hk2 : k = L.length := by omega
    have hd0 : L.drop k = [] := by rw [hk2]; exact List.drop_length
    rw [hd0] at hrun
    simp only [Uk] at hrun
    subst hrun
    repeat' (first | ((first | (with_reducible first | refine T.regs ?_ | refine T.cond ?_ | refine T.reg ?_ | refine T.ret ?_ | refine T.exit ?_ | refine T.skip ?_) | ((with_reducible first | refine T.dregs ?_ ?_ | refine T.dreg ?_ ?_ | refine T.dregts ?_ ?_ | refine T.dregt ?_ ?_ | refine T.danys ?_ ?_ | refine T.dany ?_ ?_); exact mix)); simp only [Yh, Zz, Zy, Vc.exK, Zn, Zk, Zg, Zh, Zx, Xr, Y8, Z0, Zl, Zi, Z1, Zm, Zj, Xn, Yc, Xo, Vc.ev, Vc.st, Vc.stq, Vc.gst, Xl, St.rd, St.get, St.put, St.find, Zf, St.new, Vc.gdc, Zs, Yp, Yt, Yu, Xk, Zw, Zt, Yk, Yi, Vc.S1.cells, Vc.upd, Vc.del, Zd, Vc.noV, Kd.enc, Kd.dec, Ins.cells, Ln.cells, Z5, Yf, Yo, Ye, Y4, Vc.rvs, Xf, Ze, Y9, Y2, Y5, Xa, Xc, Xe, Yl, Xi, Yd, Zv, Zc, Zu, Vc.kdL, Xq, Y3, Xj, Zr, SV.bd, Vc.S1.bd, At.bd, Value.oneCell', Int.reduceEq, Int.reduceNeg, Int.reduceLE, Int.reduceLT, Vc.lenOf, Ym, Xg, Z8, Vc.atK, Ya, Vc.unK, Vc.wfK, Yb, Z7, Z9, Zp, Yg, Z6, Zq, Yr, Vc.sg, Y1, Y6, Xb, Xd, Z4, Res.own, At.sub, Vc.S1.sub, SV.sub, Res.sub, Xm, Xp, Ys, Yq, Yn, Vc.frS, Kd.sz, Nat.reduceSub, ↓reduceIte, reduceCtorEq, Nat.reduceEqDiff, Nat.reduceAdd, Nat.reduceMul, Nat.reduceLeDiff, Nat.reduceLT, Nat.reduceBEq, Nat.reduceBNe, implies_true, Xs, Xv.rs, Xv.res, hk2, Int.ofNat_lt]) | (with_reducible first | refine T.seq ?_ | refine T.block ?_ | assumption | refine And.intro ?_ ?_) | (intro h; first | (exfalso; omega) | exact (tf h ‹_›).elim | exact (tf ‹_› h).elim | skip))
    all_goals first | omega | skip
end Go.Proofs.YtccjjcdjgibilaaDoor
namespace Go.Proofs.YtccjjcdjgibilaaDoor
open Go Go.RowKit Vc
set_option linter.unusedVariables false
set_option linter.unusedSimpArgs false
attribute [local irreducible] T Z2 Wn Ent RdC RwC Ut Z3 Y7
set_option maxHeartbeats 16000000 in
set_option maxRecDepth 100000 in
theorem Ss {G : Nat} {H : Nat → Option Obj} {w : World} {X : List Nat} {fr : List Value} {Q : Exit → St → Prop} (hglob : Vs G H w X) (hM : Qr G H) (P : List (List UInt8)) (n : Nat) (hn : n ≤ P.length) (h40 : n ≤ 40000) (hp : ∀ p ∈ P, p.length ≤ 2000000)
    (hQ : ∀ acc, Uk (P.take n) 0 [] = (acc, 0, 0) → ∀ S', Ent ⟨Tryd.prog, w, X, 59, fr⟩ S' ⟨[(5, .one (.a (.ref 1))), (3, .one (.a (.loc 0 0)))], [(0, .cells 31 [.int .i64 0, .int .i64 0]), (1, .row 27 .line acc)], 2⟩ → Q (.exit 0) S')
    (hE : ∀ e k, Uk (P.take n) 0 [] = ([], e, k) → ∀ S' : St, Zf S'.slots 2 = some (.one (.a (.raw (.slice none 0 0)))) → Zf S'.slots 3 = some (.one (.a (.loc 0 0))) → Zf S'.res 0 = some (.cells 31 [.int .i64 e, .int .i64 k]) → Q .ret S') :
    T ⟨Tryd.prog, w, X, 59, fr⟩ (.loop Xx.c20) Q ⟨[(35, .one (.a (.int .i64 0))), (34, .one (.a (.int .i64 n))), (33, .one (.a (.ref 2))), (5, .one (.a (.ref 3))), (3, .one (.a (.loc 0 0)))],
      [(0, .cells 31 [.int .i64 0, .int .i64 0]), (1, .row 9 .str P), (2, .view 1 1 0 n), (3, .row 27 .line [])], 4⟩ := by
  generalize hR : Uk (P.take n) 0 [] = R at hQ hE
  refine T.loop (ι := { p : Nat × List Ln // p.1 ≤ n ∧ Uk ((P.take n).drop p.1) p.1 p.2 = R ∧ p.2.length ≤ p.1 })
    (fun x => ⟨[(35, .one (.a (.int .i64 (x.1.1 : Int)))), (34, .one (.a (.int .i64 n))), (33, .one (.a (.ref 2))), (5, .one (.a (.ref 3))), (3, .one (.a (.loc 0 0)))],
      [(0, .cells 31 [.int .i64 0, .int .i64 0]), (1, .row 9 .str P), (2, .view 1 1 0 n), (3, .row 27 .line x.1.2)], 4⟩) (fun x => n - x.1.1) ⟨(0, []), by simp, by simpa using hR, by simp⟩ (Ent.mk (id) (by simp [Za, Zo, Vc.bnd, St.get, St.find, Zf, SV.ren, Vc.S1.ren, At.ren, Res.ren, SV.bd, Vc.S1.bd, At.bd, Res.bd, Vc.upd, Vc.del, Kd.enc, Value.oneCell']) (by simp [Za, Zo, Vc.bnd, St.get, St.find, Zf, SV.ren, Vc.S1.ren, At.ren, Res.ren, SV.bd, Vc.S1.bd, At.bd, Res.bd, Vc.upd, Vc.del, Kd.enc, Value.oneCell']) (by simp [Za, Zo, Vc.bnd, St.get, St.find, Zf, SV.ren, Vc.S1.ren, At.ren, Res.ren, SV.bd, Vc.S1.bd, At.bd, Res.bd, Vc.upd, Vc.del, Kd.enc, Value.oneCell']) (by simp [Za, Zo, Vc.bnd, St.get, St.find, Zf, SV.ren, Vc.S1.ren, At.ren, Res.ren, SV.bd, Vc.S1.bd, At.bd, Res.bd, Vc.upd, Vc.del, Kd.enc, Value.oneCell'])) ?_
  rintro ⟨⟨k, acc⟩, hk, hrun, hal⟩
  simp only at hk hrun hal
  have hln : (P.take n).length = n := by rw [List.length_take]; omega
  by_cases hlt : k < n
  · have hdrop : (P.take n).drop k = P.getD k [] :: (P.take n).drop (k + 1) := by
      have hlt2 : k < (P.take n).length := by omega
      rw [List.drop_eq_getElem_cons hlt2, List.getElem_take]
      have hg : P.getD k [] = P[k] := by simp [List.getD, show k < P.length by omega]
      rw [hg]
    have hmem : P.getD k [] ∈ P := by simp [List.getD, show k < P.length by omega]
    generalize hy : P.getD k [] = x at hdrop hmem
    have hy' : P.getD k (Kd.dflt .str) = x := hy
    have hxl := hp x hmem
    rw [hdrop, Sh] at hrun
    have hA := O2 hM x (by omega)
    have hw : IntKind.i64.wrap ((k : Int) + 1) = ((k + 1 : Nat) : Int) := Wt (by omega)
    have ht : 0 + ((k : Int)).toNat = k := by omega
    generalize lineT x = V at hA hrun
    obtain ⟨y, some_, e⟩ := V
    simp only [Ln.cells] at hA hrun
    by_cases he : e ≠ 0
    · rw [if_pos he] at hrun
      subst hrun
      repeat' (first | ((first | (with_reducible first | refine T.regs ?_ | refine T.cond ?_ | refine T.reg ?_ | refine T.ret ?_ | refine T.exit ?_ | refine T.skip ?_) | ((with_reducible first | refine T.dregs ?_ ?_ | refine T.dreg ?_ ?_ | refine T.dregts ?_ ?_ | refine T.dregt ?_ ?_ | refine T.danys ?_ ?_ | refine T.dany ?_ ?_); exact mix) | ((with_reducible refine Z2.gcp hglob (hA) ?_ ?_); (focus ((simp [X1, Wh, Vc.mtR, Vc.roA, Vc.roM, Wj, Wi, Wf, Wg, Wa, Vc.fnM, Z5, St.find, Zf, Vc.del, Z4, Res.own, Vc.sg, Yb, Z7, Z9, Zp, Z6, Zq, At.sub, Vc.S1.sub, Res.sub, Kd.enc, Ins.cells, Ln.cells, Value.oneCell', X0, List.nodup_cons]); done)))); simp only [Yh, Zz, Zy, Vc.exK, Zn, Zk, Zg, Zh, Zx, Xr, Y8, Z0, Zl, Zi, Z1, Zm, Zj, Xn, Yc, Xo, Vc.ev, Vc.st, Vc.stq, Vc.gst, Xl, St.rd, St.get, St.put, St.find, Zf, St.new, Vc.gdc, Zs, Yp, Yt, Yu, Xk, Zw, Zt, Yk, Yi, Vc.S1.cells, Vc.upd, Vc.del, Zd, Vc.noV, Kd.enc, Kd.dec, Ins.cells, Ln.cells, Z5, Yf, Yo, Ye, Y4, Vc.rvs, Xf, Ze, Y9, Y2, Y5, Xa, Xc, Xe, Yl, Xi, Yd, Zv, Zc, Zu, Vc.kdL, Xq, Y3, Xj, Zr, SV.bd, Vc.S1.bd, At.bd, Value.oneCell', Int.reduceEq, Int.reduceNeg, Int.reduceLE, Int.reduceLT, Vc.lenOf, Ym, Xg, Z8, Vc.atK, Ya, Vc.unK, Vc.wfK, Yb, Z7, Z9, Zp, Yg, Z6, Zq, Yr, Vc.sg, Y1, Y6, Xb, Xd, Z4, Res.own, At.sub, Vc.S1.sub, SV.sub, Res.sub, Xm, Xp, Ys, Yq, Yn, Vc.frS, Kd.sz, Nat.reduceSub, ↓reduceIte, reduceCtorEq, Nat.reduceEqDiff, Nat.reduceAdd, Nat.reduceMul, Nat.reduceLeDiff, Nat.reduceLT, Nat.reduceBEq, Nat.reduceBNe, implies_true, Xs, Xx.rs, Xx.res, hy', ht, hw, he, Int.ofNat_lt]) | (with_reducible first | refine T.seq ?_ | refine T.block ?_ | assumption | refine And.intro ?_ ?_) | (intro h; first | (exfalso; omega) | exact (tf h ‹_›).elim | exact (tf ‹_› h).elim | skip))
      all_goals first | omega | skip
      all_goals first | exact hE _ _ rfl _ rfl rfl rfl | exact T.ret (hE _ _ rfl _ rfl rfl rfl)
    · rw [if_neg he] at hrun
      have he0 : e = 0 := by simpa using he
      subst he0
      cases some_
      · rw [if_neg (by decide)] at hrun
        repeat' (first | ((first | (with_reducible first | refine T.regs ?_ | refine T.cond ?_ | refine T.reg ?_ | refine T.ret ?_ | refine T.exit ?_ | refine T.skip ?_) | ((with_reducible first | refine T.dregs ?_ ?_ | refine T.dreg ?_ ?_ | refine T.dregts ?_ ?_ | refine T.dregt ?_ ?_ | refine T.danys ?_ ?_ | refine T.dany ?_ ?_); exact mix) | ((with_reducible refine Z2.gcp hglob (hA) ?_ ?_); (focus ((simp [X1, Wh, Vc.mtR, Vc.roA, Vc.roM, Wj, Wi, Wf, Wg, Wa, Vc.fnM, Z5, St.find, Zf, Vc.del, Z4, Res.own, Vc.sg, Yb, Z7, Z9, Zp, Z6, Zq, At.sub, Vc.S1.sub, Res.sub, Kd.enc, Ins.cells, Ln.cells, Value.oneCell', X0, List.nodup_cons]); done)))); simp only [Yh, Zz, Zy, Vc.exK, Zn, Zk, Zg, Zh, Zx, Xr, Y8, Z0, Zl, Zi, Z1, Zm, Zj, Xn, Yc, Xo, Vc.ev, Vc.st, Vc.stq, Vc.gst, Xl, St.rd, St.get, St.put, St.find, Zf, St.new, Vc.gdc, Zs, Yp, Yt, Yu, Xk, Zw, Zt, Yk, Yi, Vc.S1.cells, Vc.upd, Vc.del, Zd, Vc.noV, Kd.enc, Kd.dec, Ins.cells, Ln.cells, Z5, Yf, Yo, Ye, Y4, Vc.rvs, Xf, Ze, Y9, Y2, Y5, Xa, Xc, Xe, Yl, Xi, Yd, Zv, Zc, Zu, Vc.kdL, Xq, Y3, Xj, Zr, SV.bd, Vc.S1.bd, At.bd, Value.oneCell', Int.reduceEq, Int.reduceNeg, Int.reduceLE, Int.reduceLT, Vc.lenOf, Ym, Xg, Z8, Vc.atK, Ya, Vc.unK, Vc.wfK, Yb, Z7, Z9, Zp, Yg, Z6, Zq, Yr, Vc.sg, Y1, Y6, Xb, Xd, Z4, Res.own, At.sub, Vc.S1.sub, SV.sub, Res.sub, Xm, Xp, Ys, Yq, Yn, Vc.frS, Kd.sz, Nat.reduceSub, ↓reduceIte, reduceCtorEq, Nat.reduceEqDiff, Nat.reduceAdd, Nat.reduceMul, Nat.reduceLeDiff, Nat.reduceLT, Nat.reduceBEq, Nat.reduceBNe, implies_true, Xs, Xx.rs, Xx.res, hy', ht, hw, Int.ofNat_lt]) | (with_reducible first | refine T.seq ?_ | refine T.block ?_ | assumption | refine And.intro ?_ ?_) | (intro h; first | (exfalso; omega) | exact (tf h ‹_›).elim | exact (tf ‹_› h).elim | skip))
        all_goals first | omega | skip
        exact ⟨⟨(k + 1, acc), hlt, hrun, by simp only; omega⟩, (Ent.mk (id) (by simp [Za, Zo, Vc.bnd, St.get, St.find, Zf, SV.ren, Vc.S1.ren, At.ren, Res.ren, SV.bd, Vc.S1.bd, At.bd, Res.bd, Vc.upd, Vc.del, Kd.enc, Value.oneCell', hw]) (by simp [Za, Zo, Vc.bnd, St.get, St.find, Zf, SV.ren, Vc.S1.ren, At.ren, Res.ren, SV.bd, Vc.S1.bd, At.bd, Res.bd, Vc.upd, Vc.del, Kd.enc, Value.oneCell', hw]) (by simp [Za, Zo, Vc.bnd, St.get, St.find, Zf, SV.ren, Vc.S1.ren, At.ren, Res.ren, SV.bd, Vc.S1.bd, At.bd, Res.bd, Vc.upd, Vc.del, Kd.enc, Value.oneCell', hw]) (by simp [Za, Zo, Vc.bnd, St.get, St.find, Zf, SV.ren, Vc.S1.ren, At.ren, Res.ren, SV.bd, Vc.S1.bd, At.bd, Res.bd, Vc.upd, Vc.del, Kd.enc, Value.oneCell', hw])), by simp only; omega⟩
      · rw [if_pos rfl] at hrun
        repeat' (first | ((first | (with_reducible first | refine T.regs ?_ | refine T.cond ?_ | refine T.reg ?_ | refine T.ret ?_ | refine T.exit ?_ | refine T.skip ?_) | ((with_reducible first | refine T.dregs ?_ ?_ | refine T.dreg ?_ ?_ | refine T.dregts ?_ ?_ | refine T.dregt ?_ ?_ | refine T.danys ?_ ?_ | refine T.dany ?_ ?_); exact mix) | ((with_reducible refine Z2.gcp hglob (hA) ?_ ?_); (focus ((simp [X1, Wh, Vc.mtR, Vc.roA, Vc.roM, Wj, Wi, Wf, Wg, Wa, Vc.fnM, Z5, St.find, Zf, Vc.del, Z4, Res.own, Vc.sg, Yb, Z7, Z9, Zp, Z6, Zq, At.sub, Vc.S1.sub, Res.sub, Kd.enc, Ins.cells, Ln.cells, Value.oneCell', X0, List.nodup_cons]); done)))); simp only [Yh, Zz, Zy, Vc.exK, Zn, Zk, Zg, Zh, Zx, Xr, Y8, Z0, Zl, Zi, Z1, Zm, Zj, Xn, Yc, Xo, Vc.ev, Vc.st, Vc.stq, Vc.gst, Xl, St.rd, St.get, St.put, St.find, Zf, St.new, Vc.gdc, Zs, Yp, Yt, Yu, Xk, Zw, Zt, Yk, Yi, Vc.S1.cells, Vc.upd, Vc.del, Zd, Vc.noV, Kd.enc, Kd.dec, Ins.cells, Ln.cells, Z5, Yf, Yo, Ye, Y4, Vc.rvs, Xf, Ze, Y9, Y2, Y5, Xa, Xc, Xe, Yl, Xi, Yd, Zv, Zc, Zu, Vc.kdL, Xq, Y3, Xj, Zr, SV.bd, Vc.S1.bd, At.bd, Value.oneCell', Int.reduceEq, Int.reduceNeg, Int.reduceLE, Int.reduceLT, Vc.lenOf, Ym, Xg, Z8, Vc.atK, Ya, Vc.unK, Vc.wfK, Yb, Z7, Z9, Zp, Yg, Z6, Zq, Yr, Vc.sg, Y1, Y6, Xb, Xd, Z4, Res.own, At.sub, Vc.S1.sub, SV.sub, Res.sub, Xm, Xp, Ys, Yq, Yn, Vc.frS, Kd.sz, Nat.reduceSub, ↓reduceIte, reduceCtorEq, Nat.reduceEqDiff, Nat.reduceAdd, Nat.reduceMul, Nat.reduceLeDiff, Nat.reduceLT, Nat.reduceBEq, Nat.reduceBNe, implies_true, Xs, Xx.rs, Xx.res, hy', ht, hw, Int.ofNat_lt]) | (with_reducible first | refine T.seq ?_ | refine T.block ?_ | assumption | refine And.intro ?_ ?_) | (intro h; first | (exfalso; omega) | exact (tf h ‹_›).elim | exact (tf ‹_› h).elim | skip))
        all_goals first | omega | skip
        exact ⟨⟨(k + 1, acc ++ [y]), hlt, hrun, by simp only [List.length_append, List.length_cons, List.length_nil]; omega⟩, (Ent.mk (fun n => if n = 3 then 6 else n) (by simp [Za, Zo, Vc.bnd, St.get, St.find, Zf, SV.ren, Vc.S1.ren, At.ren, Res.ren, SV.bd, Vc.S1.bd, At.bd, Res.bd, Vc.upd, Vc.del, Kd.enc, Value.oneCell', hw]) (by simp [Za, Zo, Vc.bnd, St.get, St.find, Zf, SV.ren, Vc.S1.ren, At.ren, Res.ren, SV.bd, Vc.S1.bd, At.bd, Res.bd, Vc.upd, Vc.del, Kd.enc, Value.oneCell', hw]) (by simp [Za, Zo, Vc.bnd, St.get, St.find, Zf, SV.ren, Vc.S1.ren, At.ren, Res.ren, SV.bd, Vc.S1.bd, At.bd, Res.bd, Vc.upd, Vc.del, Kd.enc, Value.oneCell', hw]) (by simp [Za, Zo, Vc.bnd, St.get, St.find, Zf, SV.ren, Vc.S1.ren, At.ren, Res.ren, SV.bd, Vc.S1.bd, At.bd, Res.bd, Vc.upd, Vc.del, Kd.enc, Value.oneCell', hw])), by simp only; omega⟩
  · have hk2 : k = n := by omega
    have hd0 : (P.take n).drop k = [] := by rw [hk2, ← hln]; simp
    rw [hd0] at hrun
    simp only [Uk] at hrun
    repeat' (first | ((first | (with_reducible first | refine T.regs ?_ | refine T.cond ?_ | refine T.reg ?_ | refine T.ret ?_ | refine T.exit ?_ | refine T.skip ?_) | ((with_reducible first | refine T.dregs ?_ ?_ | refine T.dreg ?_ ?_ | refine T.dregts ?_ ?_ | refine T.dregt ?_ ?_ | refine T.danys ?_ ?_ | refine T.dany ?_ ?_); exact mix)); simp only [Yh, Zz, Zy, Vc.exK, Zn, Zk, Zg, Zh, Zx, Xr, Y8, Z0, Zl, Zi, Z1, Zm, Zj, Xn, Yc, Xo, Vc.ev, Vc.st, Vc.stq, Vc.gst, Xl, St.rd, St.get, St.put, St.find, Zf, St.new, Vc.gdc, Zs, Yp, Yt, Yu, Xk, Zw, Zt, Yk, Yi, Vc.S1.cells, Vc.upd, Vc.del, Zd, Vc.noV, Kd.enc, Kd.dec, Ins.cells, Ln.cells, Z5, Yf, Yo, Ye, Y4, Vc.rvs, Xf, Ze, Y9, Y2, Y5, Xa, Xc, Xe, Yl, Xi, Yd, Zv, Zc, Zu, Vc.kdL, Xq, Y3, Xj, Zr, SV.bd, Vc.S1.bd, At.bd, Value.oneCell', Int.reduceEq, Int.reduceNeg, Int.reduceLE, Int.reduceLT, Vc.lenOf, Ym, Xg, Z8, Vc.atK, Ya, Vc.unK, Vc.wfK, Yb, Z7, Z9, Zp, Yg, Z6, Zq, Yr, Vc.sg, Y1, Y6, Xb, Xd, Z4, Res.own, At.sub, Vc.S1.sub, SV.sub, Res.sub, Xm, Xp, Ys, Yq, Yn, Vc.frS, Kd.sz, Nat.reduceSub, ↓reduceIte, reduceCtorEq, Nat.reduceEqDiff, Nat.reduceAdd, Nat.reduceMul, Nat.reduceLeDiff, Nat.reduceLT, Nat.reduceBEq, Nat.reduceBNe, implies_true, Xs, Xx.rs, Xx.res, hk2, Int.ofNat_lt]) | (with_reducible first | refine T.seq ?_ | refine T.block ?_ | assumption | refine And.intro ?_ ?_) | (intro h; first | (exfalso; omega) | exact (tf h ‹_›).elim | exact (tf ‹_› h).elim | skip))
    all_goals first | omega | skip
    exact hQ acc hrun.symm _ (Ent.mk (fun n => if n = 1 then 3 else n) (by simp [Za, Zo, Vc.bnd, St.get, St.find, Zf, SV.ren, Vc.S1.ren, At.ren, Res.ren, SV.bd, Vc.S1.bd, At.bd, Res.bd, Vc.upd, Vc.del, Kd.enc, Value.oneCell']) (by simp [Za, Zo, Vc.bnd, St.get, St.find, Zf, SV.ren, Vc.S1.ren, At.ren, Res.ren, SV.bd, Vc.S1.bd, At.bd, Res.bd, Vc.upd, Vc.del, Kd.enc, Value.oneCell']) (by simp [Za, Zo, Vc.bnd, St.get, St.find, Zf, SV.ren, Vc.S1.ren, At.ren, Res.ren, SV.bd, Vc.S1.bd, At.bd, Res.bd, Vc.upd, Vc.del, Kd.enc, Value.oneCell']) (by simp [Za, Zo, Vc.bnd, St.get, St.find, Zf, SV.ren, Vc.S1.ren, At.ren, Res.ren, SV.bd, Vc.S1.bd, At.bd, Res.bd, Vc.upd, Vc.del, Kd.enc, Value.oneCell']))
theorem Oz (t : List UInt8) : linesS t = (splitS 10 t).take (if (splitS 10 t).getLast? = some [] then (splitS 10 t).length - 1 else (splitS 10 t).length) := by
  unfold linesS
  split
  · rw [List.dropLast_eq_take]
  · rw [List.take_length]
set_option maxHeartbeats 16000000 in
set_option maxRecDepth 100000 in
theorem Ng {G : Nat} {H : Nat → Option Obj} (hM : Qr G H) (t : List UInt8) (hs : t.length ≤ 9223372036854775807) :
    GCp G H Tryd.prog 16 [.a (.str t)] [] 0 [] (.tup [.a (.ref 0), .agg [.int .i64 (readS t).2.1, .int .i64 (readS t).2.2]]) [(0, .row 27 .line (readS t).1)] 1 := by
  refine Xx.fn.gcp (by simp) (by simp [Ue, Um, Ui, Wu, Wq, Vc.S1.okN, At.okN, SV.okN, Res.okN, Res.outOk, Zf, Res.own, Value.oneCell']) fun w X fr hglob => ?_
  generalize hR : readS t = R
  unfold readS at hR
  by_cases hlen : 1048576 < t.length
  · rw [if_pos hlen] at hR
    subst hR
    have hgt : (1048576 : Int) < (t.length : Int) := by omega
    repeat' (first | ((first | (with_reducible first | refine T.regs ?_ | refine T.cond ?_ | refine T.reg ?_ | refine T.ret ?_ | refine T.exit ?_ | refine T.skip ?_) | ((with_reducible first | refine T.dregs ?_ ?_ | refine T.dreg ?_ ?_ | refine T.dregts ?_ ?_ | refine T.dregt ?_ ?_ | refine T.danys ?_ ?_ | refine T.dany ?_ ?_); exact mix)); simp only [Yh, Zz, Zy, Vc.exK, Zn, Zk, Zg, Zh, Zx, Xr, Y8, Z0, Zl, Zi, Z1, Zm, Zj, Xn, Yc, Xo, Vc.ev, Vc.st, Vc.stq, Vc.gst, Xl, St.rd, St.get, St.put, St.find, Zf, St.new, Vc.gdc, Zs, Yp, Yt, Yu, Xk, Zw, Zt, Yk, Yi, Vc.S1.cells, Vc.upd, Vc.del, Zd, Vc.noV, Kd.enc, Kd.dec, Ins.cells, Ln.cells, Z5, Yf, Yo, Ye, Y4, Vc.rvs, Xf, Ze, Y9, Y2, Y5, Xa, Xc, Xe, Yl, Xi, Yd, Zv, Zc, Zu, Vc.kdL, Xq, Y3, Xj, Zr, SV.bd, Vc.S1.bd, At.bd, Value.oneCell', Int.reduceEq, Int.reduceNeg, Int.reduceLE, Int.reduceLT, Vc.lenOf, Ym, Xg, Z8, Vc.atK, Ya, Vc.unK, Vc.wfK, Yb, Z7, Z9, Zp, Yg, Z6, Zq, Yr, Vc.sg, Y1, Y6, Xb, Xd, Z4, Res.own, At.sub, Vc.S1.sub, SV.sub, Res.sub, Xm, Xp, Ys, Yq, Yn, Vc.frS, Kd.sz, Nat.reduceSub, ↓reduceIte, reduceCtorEq, Nat.reduceEqDiff, Nat.reduceAdd, Nat.reduceMul, Nat.reduceLeDiff, Nat.reduceLT, Nat.reduceBEq, Nat.reduceBNe, implies_true, Xs, Xx.rs, Xx.res, hgt]) | (with_reducible first | refine T.seq ?_ | refine T.block ?_ | assumption | refine And.intro ?_ ?_) | (intro h; first | (exfalso; omega) | exact (tf h ‹_›).elim | exact (tf ‹_› h).elim | skip))
    all_goals first | omega | skip
  rw [if_neg hlen] at hR
  have hgt : ¬ (1048576 : Int) < (t.length : Int) := by omega
  have hSp := Pj hM t 10 (by omega)
  have hne := Pr 10 t
  have hp := V7 10 t
  have hcl := Tl 10 t
  have hcc := List.count_le_length (a := (10 : UInt8)) (l := t)
  rw [Oz] at hR
  generalize splitS 10 t = P at *
  have hpos := List.length_pos_iff.2 hne
  have hw1 : IntKind.i64.wrap ((P.length : Int) - 1) = ((P.length - 1 : Nat) : Int) := by rw [So (by omega) (by omega)]; omega
  have htn : (((P.length - 1 : Nat) : Int)).toNat = P.length - 1 := by omega
  have hz : 0 + (0 : Int).toNat = 0 := rfl
  have htn2 : 0 + (((P.length - 1 : Nat) : Int)).toNat = P.length - 1 := by omega
  have hlast : P.getD (P.length - 1) (Kd.dflt .str) = [] ↔ P.getLast? = some [] := by
    have e : P.getD (P.length - 1) (Kd.dflt .str) = P[P.length - 1] := by
      show P.getD (P.length - 1) [] = _
      simp [List.getD, show P.length - 1 < P.length by omega]
    rw [e, List.getLast?_eq_getElem?, List.getElem?_eq_getElem (by omega)]
    simp
  by_cases hl : P.getLast? = some []
  · have hl' := hlast.2 hl
    rw [if_pos hl] at hR
    have hln : (P.take (P.length - 1)).length = P.length - 1 := by rw [List.length_take]; omega
    rw [hln] at hR
    have hlv : ((P.length - 1 - 0 : Nat) : Int) = ((P.length - 1 : Nat) : Int) := rfl
    generalize hnn : P.length - 1 = n at *
    by_cases h40 : 40000 < n
    · rw [if_pos h40] at hR
      subst hR
      have hgt2 : (40000 : Int) < (n : Int) := by omega
      repeat' (first | ((first | (with_reducible first | refine T.regs ?_ | refine T.cond ?_ | refine T.reg ?_ | refine T.ret ?_ | refine T.exit ?_ | refine T.skip ?_) | ((with_reducible first | refine T.dregs ?_ ?_ | refine T.dreg ?_ ?_ | refine T.dregts ?_ ?_ | refine T.dregt ?_ ?_ | refine T.danys ?_ ?_ | refine T.dany ?_ ?_); exact mix) | ((with_reducible refine Z2.gcp hglob (hSp) ?_ ?_); (focus ((simp [X1, Wh, Vc.mtR, Vc.roA, Vc.roM, Wj, Wi, Wf, Wg, Wa, Vc.fnM, Z5, St.find, Zf, Vc.del, Z4, Res.own, Vc.sg, Yb, Z7, Z9, Zp, Z6, Zq, At.sub, Vc.S1.sub, Res.sub, Kd.enc, Ins.cells, Ln.cells, Value.oneCell', X0, List.nodup_cons]); done)))); simp only [Yh, Zz, Zy, Vc.exK, Zn, Zk, Zg, Zh, Zx, Xr, Y8, Z0, Zl, Zi, Z1, Zm, Zj, Xn, Yc, Xo, Vc.ev, Vc.st, Vc.stq, Vc.gst, Xl, St.rd, St.get, St.put, St.find, Zf, St.new, Vc.gdc, Zs, Yp, Yt, Yu, Xk, Zw, Zt, Yk, Yi, Vc.S1.cells, Vc.upd, Vc.del, Zd, Vc.noV, Kd.enc, Kd.dec, Ins.cells, Ln.cells, Z5, Yf, Yo, Ye, Y4, Vc.rvs, Xf, Ze, Y9, Y2, Y5, Xa, Xc, Xe, Yl, Xi, Yd, Zv, Zc, Zu, Vc.kdL, Xq, Y3, Xj, Zr, SV.bd, Vc.S1.bd, At.bd, Value.oneCell', Int.reduceEq, Int.reduceNeg, Int.reduceLE, Int.reduceLT, Vc.lenOf, Ym, Xg, Z8, Vc.atK, Ya, Vc.unK, Vc.wfK, Yb, Z7, Z9, Zp, Yg, Z6, Zq, Yr, Vc.sg, Y1, Y6, Xb, Xd, Z4, Res.own, At.sub, Vc.S1.sub, SV.sub, Res.sub, Xm, Xp, Ys, Yq, Yn, Vc.frS, Kd.sz, Nat.reduceSub, ↓reduceIte, reduceCtorEq, Nat.reduceEqDiff, Nat.reduceAdd, Nat.reduceMul, Nat.reduceLeDiff, Nat.reduceLT, Nat.reduceBEq, Nat.reduceBNe, implies_true, Xs, Xx.rs, Xx.res, hgt, hw1, htn, htn2, hz, hl', hlv, hgt2]) | (with_reducible first | refine T.seq ?_ | refine T.block ?_ | assumption | refine And.intro ?_ ?_) | (intro h; first | (exfalso; omega) | exact (tf h ‹_›).elim | exact (tf ‹_› h).elim | skip))
      all_goals first | omega | skip
    rw [if_neg h40] at hR
    have hgt2 : ¬ (40000 : Int) < (n : Int) := by omega
    repeat' (first | ((first | (with_reducible first | refine T.regs ?_ | refine T.cond ?_ | refine T.reg ?_ | refine T.ret ?_ | refine T.exit ?_ | refine T.skip ?_) | ((with_reducible first | refine T.dregs ?_ ?_ | refine T.dreg ?_ ?_ | refine T.dregts ?_ ?_ | refine T.dregt ?_ ?_ | refine T.danys ?_ ?_ | refine T.dany ?_ ?_); exact mix) | ((with_reducible refine Z2.gcp hglob (hSp) ?_ ?_); (focus ((simp [X1, Wh, Vc.mtR, Vc.roA, Vc.roM, Wj, Wi, Wf, Wg, Wa, Vc.fnM, Z5, St.find, Zf, Vc.del, Z4, Res.own, Vc.sg, Yb, Z7, Z9, Zp, Z6, Zq, At.sub, Vc.S1.sub, Res.sub, Kd.enc, Ins.cells, Ln.cells, Value.oneCell', X0, List.nodup_cons]); done)))); simp only [Yh, Zz, Zy, Vc.exK, Zn, Zk, Zg, Zh, Zx, Xr, Y8, Z0, Zl, Zi, Z1, Zm, Zj, Xn, Yc, Xo, Vc.ev, Vc.st, Vc.stq, Vc.gst, Xl, St.rd, St.get, St.put, St.find, Zf, St.new, Vc.gdc, Zs, Yp, Yt, Yu, Xk, Zw, Zt, Yk, Yi, Vc.S1.cells, Vc.upd, Vc.del, Zd, Vc.noV, Kd.enc, Kd.dec, Ins.cells, Ln.cells, Z5, Yf, Yo, Ye, Y4, Vc.rvs, Xf, Ze, Y9, Y2, Y5, Xa, Xc, Xe, Yl, Xi, Yd, Zv, Zc, Zu, Vc.kdL, Xq, Y3, Xj, Zr, SV.bd, Vc.S1.bd, At.bd, Value.oneCell', Int.reduceEq, Int.reduceNeg, Int.reduceLE, Int.reduceLT, Vc.lenOf, Ym, Xg, Z8, Vc.atK, Ya, Vc.unK, Vc.wfK, Yb, Z7, Z9, Zp, Yg, Z6, Zq, Yr, Vc.sg, Y1, Y6, Xb, Xd, Z4, Res.own, At.sub, Vc.S1.sub, SV.sub, Res.sub, Xm, Xp, Ys, Yq, Yn, Vc.frS, Kd.sz, Nat.reduceSub, ↓reduceIte, reduceCtorEq, Nat.reduceEqDiff, Nat.reduceAdd, Nat.reduceMul, Nat.reduceLeDiff, Nat.reduceLT, Nat.reduceBEq, Nat.reduceBNe, implies_true, Xs, Xx.rs, Xx.res, hgt, hw1, htn, htn2, hz, hl', hlv, hgt2]) | (with_reducible first | refine T.seq ?_ | refine T.block ?_ | assumption | refine And.intro ?_ ?_) | (intro h; first | (exfalso; omega) | exact (tf h ‹_›).elim | exact (tf ‹_› h).elim | skip))
    all_goals first | omega | skip
    refine T.weak (Ent.nilRow (t := 5) 27 .line rfl) ?_
    refine T.weak (S2 := ⟨[(35, .one (.a (.int .i64 0))), (34, .one (.a (.int .i64 n))), (33, .one (.a (.ref 2))), (5, .one (.a (.ref 3))), (3, .one (.a (.loc 0 0)))],
      [(0, .cells 31 [.int .i64 0, .int .i64 0]), (1, .row 9 .str P), (2, .view 1 1 0 n), (3, .row 27 .line [])], 4⟩) (Ent.mk (id) (by simp [Za, Zo, Vc.bnd, St.get, St.find, Zf, SV.ren, Vc.S1.ren, At.ren, Res.ren, SV.bd, Vc.S1.bd, At.bd, Res.bd, Vc.upd, Vc.del, Kd.enc, Value.oneCell']) (by simp [Za, Zo, Vc.bnd, St.get, St.find, Zf, SV.ren, Vc.S1.ren, At.ren, Res.ren, SV.bd, Vc.S1.bd, At.bd, Res.bd, Vc.upd, Vc.del, Kd.enc, Value.oneCell']) (by simp [Za, Zo, Vc.bnd, St.get, St.find, Zf, SV.ren, Vc.S1.ren, At.ren, Res.ren, SV.bd, Vc.S1.bd, At.bd, Res.bd, Vc.upd, Vc.del, Kd.enc, Value.oneCell']) (by simp [Za, Zo, Vc.bnd, St.get, St.find, Zf, SV.ren, Vc.S1.ren, At.ren, Res.ren, SV.bd, Vc.S1.bd, At.bd, Res.bd, Vc.upd, Vc.del, Kd.enc, Value.oneCell'])) (Ss hglob hM P n (by omega) (by omega) (fun p h => Nat.le_trans (hp p h) (by omega)) (fun acc ha S' hE => ?_) (fun e k ha S' h2 h3 h0 => ?_))
    · rw [ha] at hR
      subst hR
      simp only [Yh, Zz, Zy, Vc.exK, Zn, Zk, Zg, Zh, Zx, Xr, Y8, Z0, Zl, Zi, Z1, Zm, Zj, Xn, Yc, Xo, Vc.ev, Vc.st, Vc.stq, Vc.gst, Xl, St.rd, St.get, St.put, St.find, Zf, St.new, Vc.gdc, Zs, Yp, Yt, Yu, Xk, Zw, Zt, Yk, Yi, Vc.S1.cells, Vc.upd, Vc.del, Zd, Vc.noV, Kd.enc, Kd.dec, Ins.cells, Ln.cells, Z5, Yf, Yo, Ye, Y4, Vc.rvs, Xf, Ze, Y9, Y2, Y5, Xa, Xc, Xe, Yl, Xi, Yd, Zv, Zc, Zu, Vc.kdL, Xq, Y3, Xj, Zr, SV.bd, Vc.S1.bd, At.bd, Value.oneCell', Int.reduceEq, Int.reduceNeg, Int.reduceLE, Int.reduceLT, Vc.lenOf, Ym, Xg, Z8, Vc.atK, Ya, Vc.unK, Vc.wfK, Yb, Z7, Z9, Zp, Yg, Z6, Zq, Yr, Vc.sg, Y1, Y6, Xb, Xd, Z4, Res.own, At.sub, Vc.S1.sub, SV.sub, Res.sub, Xm, Xp, Ys, Yq, Yn, Vc.frS, Kd.sz, Nat.reduceSub, ↓reduceIte, reduceCtorEq, Nat.reduceEqDiff, Nat.reduceAdd, Nat.reduceMul, Nat.reduceLeDiff, Nat.reduceLT, Nat.reduceBEq, Nat.reduceBNe, implies_true, Xs, Xx.rs]
      refine T.weak hE ?_
      repeat' (first | ((first | (with_reducible first | refine T.regs ?_ | refine T.cond ?_ | refine T.reg ?_ | refine T.ret ?_ | refine T.exit ?_ | refine T.skip ?_) | ((with_reducible first | refine T.dregs ?_ ?_ | refine T.dreg ?_ ?_ | refine T.dregts ?_ ?_ | refine T.dregt ?_ ?_ | refine T.danys ?_ ?_ | refine T.dany ?_ ?_); exact mix)); simp only [Yh, Zz, Zy, Vc.exK, Zn, Zk, Zg, Zh, Zx, Xr, Y8, Z0, Zl, Zi, Z1, Zm, Zj, Xn, Yc, Xo, Vc.ev, Vc.st, Vc.stq, Vc.gst, Xl, St.rd, St.get, St.put, St.find, Zf, St.new, Vc.gdc, Zs, Yp, Yt, Yu, Xk, Zw, Zt, Yk, Yi, Vc.S1.cells, Vc.upd, Vc.del, Zd, Vc.noV, Kd.enc, Kd.dec, Ins.cells, Ln.cells, Z5, Yf, Yo, Ye, Y4, Vc.rvs, Xf, Ze, Y9, Y2, Y5, Xa, Xc, Xe, Yl, Xi, Yd, Zv, Zc, Zu, Vc.kdL, Xq, Y3, Xj, Zr, SV.bd, Vc.S1.bd, At.bd, Value.oneCell', Int.reduceEq, Int.reduceNeg, Int.reduceLE, Int.reduceLT, Vc.lenOf, Ym, Xg, Z8, Vc.atK, Ya, Vc.unK, Vc.wfK, Yb, Z7, Z9, Zp, Yg, Z6, Zq, Yr, Vc.sg, Y1, Y6, Xb, Xd, Z4, Res.own, At.sub, Vc.S1.sub, SV.sub, Res.sub, Xm, Xp, Ys, Yq, Yn, Vc.frS, Kd.sz, Nat.reduceSub, ↓reduceIte, reduceCtorEq, Nat.reduceEqDiff, Nat.reduceAdd, Nat.reduceMul, Nat.reduceLeDiff, Nat.reduceLT, Nat.reduceBEq, Nat.reduceBNe, implies_true, Xs, Xx.rs, Xx.res]) | (with_reducible first | refine T.seq ?_ | refine T.block ?_ | assumption | refine And.intro ?_ ?_) | (intro h; first | (exfalso; omega) | exact (tf h ‹_›).elim | exact (tf ‹_› h).elim | skip))
    · rw [ha] at hR
      subst hR
      simp only [Yh, Zz, Zy, Vc.exK, Zn, Zk, Zg, Zh, Zx, Xr, Y8, Z0, Zl, Zi, Z1, Zm, Zj, Xn, Yc, Xo, Vc.ev, Vc.st, Vc.stq, Vc.gst, Xl, St.rd, St.get, St.put, St.find, Zf, St.new, Vc.gdc, Zs, Yp, Yt, Yu, Xk, Zw, Zt, Yk, Yi, Vc.S1.cells, Vc.upd, Vc.del, Zd, Vc.noV, Kd.enc, Kd.dec, Ins.cells, Ln.cells, Z5, Yf, Yo, Ye, Y4, Vc.rvs, Xf, Ze, Y9, Y2, Y5, Xa, Xc, Xe, Yl, Xi, Yd, Zv, Zc, Zu, Vc.kdL, Xq, Y3, Xj, Zr, SV.bd, Vc.S1.bd, At.bd, Value.oneCell', Int.reduceEq, Int.reduceNeg, Int.reduceLE, Int.reduceLT, Vc.lenOf, Ym, Xg, Z8, Vc.atK, Ya, Vc.unK, Vc.wfK, Yb, Z7, Z9, Zp, Yg, Z6, Zq, Yr, Vc.sg, Y1, Y6, Xb, Xd, Z4, Res.own, At.sub, Vc.S1.sub, SV.sub, Res.sub, Xm, Xp, Ys, Yq, Yn, Vc.frS, Kd.sz, Nat.reduceSub, ↓reduceIte, reduceCtorEq, Nat.reduceEqDiff, Nat.reduceAdd, Nat.reduceMul, Nat.reduceLeDiff, Nat.reduceLT, Nat.reduceBEq, Nat.reduceBNe, implies_true, Xs, Xx.rs, Xx.res, h2, h3, h0]
  · have hl' : ¬ P.getD (P.length - 1) (Kd.dflt .str) = [] := fun e => hl (hlast.1 e)
    rw [if_neg hl, List.take_length] at hR
    by_cases h40 : 40000 < P.length
    · rw [if_pos h40] at hR
      subst hR
      have hgt2 : (40000 : Int) < (P.length : Int) := by omega
      repeat' (first | ((first | (with_reducible first | refine T.regs ?_ | refine T.cond ?_ | refine T.reg ?_ | refine T.ret ?_ | refine T.exit ?_ | refine T.skip ?_) | ((with_reducible first | refine T.dregs ?_ ?_ | refine T.dreg ?_ ?_ | refine T.dregts ?_ ?_ | refine T.dregt ?_ ?_ | refine T.danys ?_ ?_ | refine T.dany ?_ ?_); exact mix) | ((with_reducible refine Z2.gcp hglob (hSp) ?_ ?_); (focus ((simp [X1, Wh, Vc.mtR, Vc.roA, Vc.roM, Wj, Wi, Wf, Wg, Wa, Vc.fnM, Z5, St.find, Zf, Vc.del, Z4, Res.own, Vc.sg, Yb, Z7, Z9, Zp, Z6, Zq, At.sub, Vc.S1.sub, Res.sub, Kd.enc, Ins.cells, Ln.cells, Value.oneCell', X0, List.nodup_cons]); done)))); simp only [Yh, Zz, Zy, Vc.exK, Zn, Zk, Zg, Zh, Zx, Xr, Y8, Z0, Zl, Zi, Z1, Zm, Zj, Xn, Yc, Xo, Vc.ev, Vc.st, Vc.stq, Vc.gst, Xl, St.rd, St.get, St.put, St.find, Zf, St.new, Vc.gdc, Zs, Yp, Yt, Yu, Xk, Zw, Zt, Yk, Yi, Vc.S1.cells, Vc.upd, Vc.del, Zd, Vc.noV, Kd.enc, Kd.dec, Ins.cells, Ln.cells, Z5, Yf, Yo, Ye, Y4, Vc.rvs, Xf, Ze, Y9, Y2, Y5, Xa, Xc, Xe, Yl, Xi, Yd, Zv, Zc, Zu, Vc.kdL, Xq, Y3, Xj, Zr, SV.bd, Vc.S1.bd, At.bd, Value.oneCell', Int.reduceEq, Int.reduceNeg, Int.reduceLE, Int.reduceLT, Vc.lenOf, Ym, Xg, Z8, Vc.atK, Ya, Vc.unK, Vc.wfK, Yb, Z7, Z9, Zp, Yg, Z6, Zq, Yr, Vc.sg, Y1, Y6, Xb, Xd, Z4, Res.own, At.sub, Vc.S1.sub, SV.sub, Res.sub, Xm, Xp, Ys, Yq, Yn, Vc.frS, Kd.sz, Nat.reduceSub, ↓reduceIte, reduceCtorEq, Nat.reduceEqDiff, Nat.reduceAdd, Nat.reduceMul, Nat.reduceLeDiff, Nat.reduceLT, Nat.reduceBEq, Nat.reduceBNe, implies_true, Xs, Xx.rs, Xx.res, hgt, hw1, htn, hl', hgt2]) | (with_reducible first | refine T.seq ?_ | refine T.block ?_ | assumption | refine And.intro ?_ ?_) | (intro h; first | (exfalso; omega) | exact (tf h ‹_›).elim | exact (tf ‹_› h).elim | skip))
      all_goals first | omega | skip
    rw [if_neg h40] at hR
    have hgt2 : ¬ (40000 : Int) < (P.length : Int) := by omega
    repeat' (first | ((first | (with_reducible first | refine T.regs ?_ | refine T.cond ?_ | refine T.reg ?_ | refine T.ret ?_ | refine T.exit ?_ | refine T.skip ?_) | ((with_reducible first | refine T.dregs ?_ ?_ | refine T.dreg ?_ ?_ | refine T.dregts ?_ ?_ | refine T.dregt ?_ ?_ | refine T.danys ?_ ?_ | refine T.dany ?_ ?_); exact mix) | ((with_reducible refine Z2.gcp hglob (hSp) ?_ ?_); (focus ((simp [X1, Wh, Vc.mtR, Vc.roA, Vc.roM, Wj, Wi, Wf, Wg, Wa, Vc.fnM, Z5, St.find, Zf, Vc.del, Z4, Res.own, Vc.sg, Yb, Z7, Z9, Zp, Z6, Zq, At.sub, Vc.S1.sub, Res.sub, Kd.enc, Ins.cells, Ln.cells, Value.oneCell', X0, List.nodup_cons]); done)))); simp only [Yh, Zz, Zy, Vc.exK, Zn, Zk, Zg, Zh, Zx, Xr, Y8, Z0, Zl, Zi, Z1, Zm, Zj, Xn, Yc, Xo, Vc.ev, Vc.st, Vc.stq, Vc.gst, Xl, St.rd, St.get, St.put, St.find, Zf, St.new, Vc.gdc, Zs, Yp, Yt, Yu, Xk, Zw, Zt, Yk, Yi, Vc.S1.cells, Vc.upd, Vc.del, Zd, Vc.noV, Kd.enc, Kd.dec, Ins.cells, Ln.cells, Z5, Yf, Yo, Ye, Y4, Vc.rvs, Xf, Ze, Y9, Y2, Y5, Xa, Xc, Xe, Yl, Xi, Yd, Zv, Zc, Zu, Vc.kdL, Xq, Y3, Xj, Zr, SV.bd, Vc.S1.bd, At.bd, Value.oneCell', Int.reduceEq, Int.reduceNeg, Int.reduceLE, Int.reduceLT, Vc.lenOf, Ym, Xg, Z8, Vc.atK, Ya, Vc.unK, Vc.wfK, Yb, Z7, Z9, Zp, Yg, Z6, Zq, Yr, Vc.sg, Y1, Y6, Xb, Xd, Z4, Res.own, At.sub, Vc.S1.sub, SV.sub, Res.sub, Xm, Xp, Ys, Yq, Yn, Vc.frS, Kd.sz, Nat.reduceSub, ↓reduceIte, reduceCtorEq, Nat.reduceEqDiff, Nat.reduceAdd, Nat.reduceMul, Nat.reduceLeDiff, Nat.reduceLT, Nat.reduceBEq, Nat.reduceBNe, implies_true, Xs, Xx.rs, Xx.res, hgt, hw1, htn, hl', hgt2]) | (with_reducible first | refine T.seq ?_ | refine T.block ?_ | assumption | refine And.intro ?_ ?_) | (intro h; first | (exfalso; omega) | exact (tf h ‹_›).elim | exact (tf ‹_› h).elim | skip))
    all_goals first | omega | skip
    refine T.weak (Ent.nilRow (t := 5) 27 .line rfl) ?_
    refine T.weak (Ent.view (t := 33) 1 1 0 P.length rfl rfl trivial) ?_
    refine T.weak (S2 := ⟨[(35, .one (.a (.int .i64 0))), (34, .one (.a (.int .i64 P.length))), (33, .one (.a (.ref 2))), (5, .one (.a (.ref 3))), (3, .one (.a (.loc 0 0)))],
      [(0, .cells 31 [.int .i64 0, .int .i64 0]), (1, .row 9 .str P), (2, .view 1 1 0 P.length), (3, .row 27 .line [])], 4⟩) (Ent.mk (fun n => if n = 2 then 3 else if n = 3 then 2 else n) (by simp [Za, Zo, Vc.bnd, St.get, St.find, Zf, SV.ren, Vc.S1.ren, At.ren, Res.ren, SV.bd, Vc.S1.bd, At.bd, Res.bd, Vc.upd, Vc.del, Kd.enc, Value.oneCell']) (by simp [Za, Zo, Vc.bnd, St.get, St.find, Zf, SV.ren, Vc.S1.ren, At.ren, Res.ren, SV.bd, Vc.S1.bd, At.bd, Res.bd, Vc.upd, Vc.del, Kd.enc, Value.oneCell']) (by simp [Za, Zo, Vc.bnd, St.get, St.find, Zf, SV.ren, Vc.S1.ren, At.ren, Res.ren, SV.bd, Vc.S1.bd, At.bd, Res.bd, Vc.upd, Vc.del, Kd.enc, Value.oneCell']) (by simp [Za, Zo, Vc.bnd, St.get, St.find, Zf, SV.ren, Vc.S1.ren, At.ren, Res.ren, SV.bd, Vc.S1.bd, At.bd, Res.bd, Vc.upd, Vc.del, Kd.enc, Value.oneCell'])) (Ss hglob hM P P.length (by omega) (by omega) (fun p h => Nat.le_trans (hp p h) (by omega)) (fun acc ha S' hE => ?_) (fun e k ha S' h2 h3 h0 => ?_))
    · rw [List.take_length] at ha
      rw [ha] at hR
      subst hR
      simp only [Yh, Zz, Zy, Vc.exK, Zn, Zk, Zg, Zh, Zx, Xr, Y8, Z0, Zl, Zi, Z1, Zm, Zj, Xn, Yc, Xo, Vc.ev, Vc.st, Vc.stq, Vc.gst, Xl, St.rd, St.get, St.put, St.find, Zf, St.new, Vc.gdc, Zs, Yp, Yt, Yu, Xk, Zw, Zt, Yk, Yi, Vc.S1.cells, Vc.upd, Vc.del, Zd, Vc.noV, Kd.enc, Kd.dec, Ins.cells, Ln.cells, Z5, Yf, Yo, Ye, Y4, Vc.rvs, Xf, Ze, Y9, Y2, Y5, Xa, Xc, Xe, Yl, Xi, Yd, Zv, Zc, Zu, Vc.kdL, Xq, Y3, Xj, Zr, SV.bd, Vc.S1.bd, At.bd, Value.oneCell', Int.reduceEq, Int.reduceNeg, Int.reduceLE, Int.reduceLT, Vc.lenOf, Ym, Xg, Z8, Vc.atK, Ya, Vc.unK, Vc.wfK, Yb, Z7, Z9, Zp, Yg, Z6, Zq, Yr, Vc.sg, Y1, Y6, Xb, Xd, Z4, Res.own, At.sub, Vc.S1.sub, SV.sub, Res.sub, Xm, Xp, Ys, Yq, Yn, Vc.frS, Kd.sz, Nat.reduceSub, ↓reduceIte, reduceCtorEq, Nat.reduceEqDiff, Nat.reduceAdd, Nat.reduceMul, Nat.reduceLeDiff, Nat.reduceLT, Nat.reduceBEq, Nat.reduceBNe, implies_true, Xs, Xx.rs]
      refine T.weak hE ?_
      repeat' (first | ((first | (with_reducible first | refine T.regs ?_ | refine T.cond ?_ | refine T.reg ?_ | refine T.ret ?_ | refine T.exit ?_ | refine T.skip ?_) | ((with_reducible first | refine T.dregs ?_ ?_ | refine T.dreg ?_ ?_ | refine T.dregts ?_ ?_ | refine T.dregt ?_ ?_ | refine T.danys ?_ ?_ | refine T.dany ?_ ?_); exact mix)); simp only [Yh, Zz, Zy, Vc.exK, Zn, Zk, Zg, Zh, Zx, Xr, Y8, Z0, Zl, Zi, Z1, Zm, Zj, Xn, Yc, Xo, Vc.ev, Vc.st, Vc.stq, Vc.gst, Xl, St.rd, St.get, St.put, St.find, Zf, St.new, Vc.gdc, Zs, Yp, Yt, Yu, Xk, Zw, Zt, Yk, Yi, Vc.S1.cells, Vc.upd, Vc.del, Zd, Vc.noV, Kd.enc, Kd.dec, Ins.cells, Ln.cells, Z5, Yf, Yo, Ye, Y4, Vc.rvs, Xf, Ze, Y9, Y2, Y5, Xa, Xc, Xe, Yl, Xi, Yd, Zv, Zc, Zu, Vc.kdL, Xq, Y3, Xj, Zr, SV.bd, Vc.S1.bd, At.bd, Value.oneCell', Int.reduceEq, Int.reduceNeg, Int.reduceLE, Int.reduceLT, Vc.lenOf, Ym, Xg, Z8, Vc.atK, Ya, Vc.unK, Vc.wfK, Yb, Z7, Z9, Zp, Yg, Z6, Zq, Yr, Vc.sg, Y1, Y6, Xb, Xd, Z4, Res.own, At.sub, Vc.S1.sub, SV.sub, Res.sub, Xm, Xp, Ys, Yq, Yn, Vc.frS, Kd.sz, Nat.reduceSub, ↓reduceIte, reduceCtorEq, Nat.reduceEqDiff, Nat.reduceAdd, Nat.reduceMul, Nat.reduceLeDiff, Nat.reduceLT, Nat.reduceBEq, Nat.reduceBNe, implies_true, Xs, Xx.rs, Xx.res]) | (with_reducible first | refine T.seq ?_ | refine T.block ?_ | assumption | refine And.intro ?_ ?_) | (intro h; first | (exfalso; omega) | exact (tf h ‹_›).elim | exact (tf ‹_› h).elim | skip))
    · rw [List.take_length] at ha
      rw [ha] at hR
      subst hR
      simp only [Yh, Zz, Zy, Vc.exK, Zn, Zk, Zg, Zh, Zx, Xr, Y8, Z0, Zl, Zi, Z1, Zm, Zj, Xn, Yc, Xo, Vc.ev, Vc.st, Vc.stq, Vc.gst, Xl, St.rd, St.get, St.put, St.find, Zf, St.new, Vc.gdc, Zs, Yp, Yt, Yu, Xk, Zw, Zt, Yk, Yi, Vc.S1.cells, Vc.upd, Vc.del, Zd, Vc.noV, Kd.enc, Kd.dec, Ins.cells, Ln.cells, Z5, Yf, Yo, Ye, Y4, Vc.rvs, Xf, Ze, Y9, Y2, Y5, Xa, Xc, Xe, Yl, Xi, Yd, Zv, Zc, Zu, Vc.kdL, Xq, Y3, Xj, Zr, SV.bd, Vc.S1.bd, At.bd, Value.oneCell', Int.reduceEq, Int.reduceNeg, Int.reduceLE, Int.reduceLT, Vc.lenOf, Ym, Xg, Z8, Vc.atK, Ya, Vc.unK, Vc.wfK, Yb, Z7, Z9, Zp, Yg, Z6, Zq, Yr, Vc.sg, Y1, Y6, Xb, Xd, Z4, Res.own, At.sub, Vc.S1.sub, SV.sub, Res.sub, Xm, Xp, Ys, Yq, Yn, Vc.frS, Kd.sz, Nat.reduceSub, ↓reduceIte, reduceCtorEq, Nat.reduceEqDiff, Nat.reduceAdd, Nat.reduceMul, Nat.reduceLeDiff, Nat.reduceLT, Nat.reduceBEq, Nat.reduceBNe, implies_true, Xs, Xx.rs, Xx.res, h2, h3, h0]
end Go.Proofs.YtccjjcdjgibilaaDoor
namespace Go.Proofs.YtccjjcdjgibilaaDoor
open Go Go.RowKit Vc
set_option linter.unusedVariables false
set_option linter.unusedSimpArgs false
attribute [local irreducible] T Z2 Wn Ent RdC RwC Ut Z3 Y7
set_option maxHeartbeats 4000000 in
theorem O7 (l : List Ln) (hf : l.length ≤ 9223372036854775807) :
    RdC Tryd.prog 18 [.ro .line l, .ro .line l] (.one (.a (.bool true))) := by
  refine X7.fn.rd (by simp) (by repeat' (first | exact rfl | exact trivial | refine And.intro ?_ ?_ | (simp [SV.bd, Vc.S1.bd, At.bd, Zr, Y0, Ins.cells, Ln.cells]; done))) (by repeat' (first | exact rfl | exact trivial | refine And.intro ?_ ?_ | (simp [SV.bd, Vc.S1.bd, At.bd, Zr, Y0, Ins.cells, Ln.cells]; done))) fun w => ?_
  repeat' (first | ((first | (with_reducible first | refine T.regs ?_ | refine T.cond ?_ | refine T.reg ?_ | refine T.ret ?_ | refine T.exit ?_ | refine T.skip ?_) | ((with_reducible first | refine T.dregs ?_ ?_ | refine T.dreg ?_ ?_ | refine T.dregts ?_ ?_ | refine T.dregt ?_ ?_ | refine T.danys ?_ ?_ | refine T.dany ?_ ?_); exact mix)); simp only [Yh, Zz, Zy, Vc.exK, Zn, Zk, Zg, Zh, Zx, Xr, Y8, Z0, Zl, Zi, Z1, Zm, Zj, Xn, Yc, Xo, Vc.ev, Vc.st, Vc.stq, Vc.gst, Xl, St.rd, St.get, St.put, St.find, Zf, St.new, Vc.gdc, Zs, Yp, Yt, Yu, Xk, Zw, Zt, Yk, Yi, Vc.S1.cells, Vc.upd, Vc.del, Zd, Vc.noV, Kd.enc, Kd.dec, Ins.cells, Ln.cells, Z5, Yf, Yo, Ye, Y4, Vc.rvs, Xf, Ze, Y9, Y2, Y5, Xa, Xc, Xe, Yl, Xi, Yd, Zv, Zc, Zu, Vc.kdL, Xq, Y3, Xj, Zr, SV.bd, Vc.S1.bd, At.bd, Value.oneCell', Int.reduceEq, Int.reduceNeg, Int.reduceLE, Int.reduceLT, Vc.lenOf, Ym, Xg, Z8, Vc.atK, Ya, Vc.unK, Vc.wfK, Yb, Z7, Z9, Zp, Yg, Z6, Zq, Yr, Vc.sg, Y1, Y6, Xb, Xd, Z4, Res.own, At.sub, Vc.S1.sub, SV.sub, Res.sub, Xm, Xp, Ys, Yq, Yn, Vc.frS, Kd.sz, Nat.reduceSub, ↓reduceIte, reduceCtorEq, Nat.reduceEqDiff, Nat.reduceAdd, Nat.reduceMul, Nat.reduceLeDiff, Nat.reduceLT, Nat.reduceBEq, Nat.reduceBNe, implies_true, Xs, X7.rs, X7.res]) | (with_reducible first | refine T.seq ?_ | refine T.block ?_ | assumption | refine And.intro ?_ ?_) | (intro h; first | (exfalso; omega) | exact (tf h ‹_›).elim | exact (tf ‹_› h).elim | skip))
  all_goals first | omega | skip
  refine T.loop (ι := { k : Nat // k ≤ l.length })
    (fun x => ⟨[(13, .one (.a (.int .i64 (x.1 : Int)))), (12, .one (.a (.int .i64 l.length))), (1, .one (.a (.ref 1))), (0, .one (.a (.ref 0)))], [(0, .ro .line l), (1, .ro .line l)], 2⟩)
    (fun x => l.length - x.1) ⟨0, by simp⟩ (Ent.mk (id) (by simp [Za, Zo, Vc.bnd, St.get, St.find, Zf, SV.ren, Vc.S1.ren, At.ren, Res.ren, SV.bd, Vc.S1.bd, At.bd, Res.bd, Vc.upd, Vc.del, Kd.enc, Value.oneCell']) (by simp [Za, Zo, Vc.bnd, St.get, St.find, Zf, SV.ren, Vc.S1.ren, At.ren, Res.ren, SV.bd, Vc.S1.bd, At.bd, Res.bd, Vc.upd, Vc.del, Kd.enc, Value.oneCell']) (by simp [Za, Zo, Vc.bnd, St.get, St.find, Zf, SV.ren, Vc.S1.ren, At.ren, Res.ren, SV.bd, Vc.S1.bd, At.bd, Res.bd, Vc.upd, Vc.del, Kd.enc, Value.oneCell']) (by simp [Za, Zo, Vc.bnd, St.get, St.find, Zf, SV.ren, Vc.S1.ren, At.ren, Res.ren, SV.bd, Vc.S1.bd, At.bd, Res.bd, Vc.upd, Vc.del, Kd.enc, Value.oneCell'])) ?_
  rintro ⟨k, hk⟩
  by_cases hlt : k < l.length
  · have hw : IntKind.i64.wrap ((k : Int) + 1) = ((k + 1 : Nat) : Int) := Wt (by omega)
    have ht : ((k : Int)).toNat = k := by omega
    repeat' (first | ((first | (with_reducible first | refine T.regs ?_ | refine T.cond ?_ | refine T.reg ?_ | refine T.ret ?_ | refine T.exit ?_ | refine T.skip ?_) | ((with_reducible first | refine T.dregs ?_ ?_ | refine T.dreg ?_ ?_ | refine T.dregts ?_ ?_ | refine T.dregt ?_ ?_ | refine T.danys ?_ ?_ | refine T.dany ?_ ?_); exact mix)); simp only [Yh, Zz, Zy, Vc.exK, Zn, Zk, Zg, Zh, Zx, Xr, Y8, Z0, Zl, Zi, Z1, Zm, Zj, Xn, Yc, Xo, Vc.ev, Vc.st, Vc.stq, Vc.gst, Xl, St.rd, St.get, St.put, St.find, Zf, St.new, Vc.gdc, Zs, Yp, Yt, Yu, Xk, Zw, Zt, Yk, Yi, Vc.S1.cells, Vc.upd, Vc.del, Zd, Vc.noV, Kd.enc, Kd.dec, Ins.cells, Ln.cells, Z5, Yf, Yo, Ye, Y4, Vc.rvs, Xf, Ze, Y9, Y2, Y5, Xa, Xc, Xe, Yl, Xi, Yd, Zv, Zc, Zu, Vc.kdL, Xq, Y3, Xj, Zr, SV.bd, Vc.S1.bd, At.bd, Value.oneCell', Int.reduceEq, Int.reduceNeg, Int.reduceLE, Int.reduceLT, Vc.lenOf, Ym, Xg, Z8, Vc.atK, Ya, Vc.unK, Vc.wfK, Yb, Z7, Z9, Zp, Yg, Z6, Zq, Yr, Vc.sg, Y1, Y6, Xb, Xd, Z4, Res.own, At.sub, Vc.S1.sub, SV.sub, Res.sub, Xm, Xp, Ys, Yq, Yn, Vc.frS, Kd.sz, Nat.reduceSub, ↓reduceIte, reduceCtorEq, Nat.reduceEqDiff, Nat.reduceAdd, Nat.reduceMul, Nat.reduceLeDiff, Nat.reduceLT, Nat.reduceBEq, Nat.reduceBNe, implies_true, Xs, X7.rs, X7.res, hw, ht, Int.ofNat_lt]) | (with_reducible first | refine T.seq ?_ | refine T.block ?_ | assumption | refine And.intro ?_ ?_) | (intro h; first | (exfalso; omega) | exact (tf h ‹_›).elim | exact (tf ‹_› h).elim | skip))
    all_goals first | omega | skip
    exact ⟨⟨k + 1, hlt⟩, (Ent.mk (id) (by simp [Za, Zo, Vc.bnd, St.get, St.find, Zf, SV.ren, Vc.S1.ren, At.ren, Res.ren, SV.bd, Vc.S1.bd, At.bd, Res.bd, Vc.upd, Vc.del, Kd.enc, Value.oneCell', hw]) (by simp [Za, Zo, Vc.bnd, St.get, St.find, Zf, SV.ren, Vc.S1.ren, At.ren, Res.ren, SV.bd, Vc.S1.bd, At.bd, Res.bd, Vc.upd, Vc.del, Kd.enc, Value.oneCell', hw]) (by simp [Za, Zo, Vc.bnd, St.get, St.find, Zf, SV.ren, Vc.S1.ren, At.ren, Res.ren, SV.bd, Vc.S1.bd, At.bd, Res.bd, Vc.upd, Vc.del, Kd.enc, Value.oneCell', hw]) (by simp [Za, Zo, Vc.bnd, St.get, St.find, Zf, SV.ren, Vc.S1.ren, At.ren, Res.ren, SV.bd, Vc.S1.bd, At.bd, Res.bd, Vc.upd, Vc.del, Kd.enc, Value.oneCell', hw])), by simp only; omega⟩
  · have hk2 : k = l.length := by omega
    repeat' (first | ((first | (with_reducible first | refine T.regs ?_ | refine T.cond ?_ | refine T.reg ?_ | refine T.ret ?_ | refine T.exit ?_ | refine T.skip ?_) | ((with_reducible first | refine T.dregs ?_ ?_ | refine T.dreg ?_ ?_ | refine T.dregts ?_ ?_ | refine T.dregt ?_ ?_ | refine T.danys ?_ ?_ | refine T.dany ?_ ?_); exact mix)); simp only [Yh, Zz, Zy, Vc.exK, Zn, Zk, Zg, Zh, Zx, Xr, Y8, Z0, Zl, Zi, Z1, Zm, Zj, Xn, Yc, Xo, Vc.ev, Vc.st, Vc.stq, Vc.gst, Xl, St.rd, St.get, St.put, St.find, Zf, St.new, Vc.gdc, Zs, Yp, Yt, Yu, Xk, Zw, Zt, Yk, Yi, Vc.S1.cells, Vc.upd, Vc.del, Zd, Vc.noV, Kd.enc, Kd.dec, Ins.cells, Ln.cells, Z5, Yf, Yo, Ye, Y4, Vc.rvs, Xf, Ze, Y9, Y2, Y5, Xa, Xc, Xe, Yl, Xi, Yd, Zv, Zc, Zu, Vc.kdL, Xq, Y3, Xj, Zr, SV.bd, Vc.S1.bd, At.bd, Value.oneCell', Int.reduceEq, Int.reduceNeg, Int.reduceLE, Int.reduceLT, Vc.lenOf, Ym, Xg, Z8, Vc.atK, Ya, Vc.unK, Vc.wfK, Yb, Z7, Z9, Zp, Yg, Z6, Zq, Yr, Vc.sg, Y1, Y6, Xb, Xd, Z4, Res.own, At.sub, Vc.S1.sub, SV.sub, Res.sub, Xm, Xp, Ys, Yq, Yn, Vc.frS, Kd.sz, Nat.reduceSub, ↓reduceIte, reduceCtorEq, Nat.reduceEqDiff, Nat.reduceAdd, Nat.reduceMul, Nat.reduceLeDiff, Nat.reduceLT, Nat.reduceBEq, Nat.reduceBNe, implies_true, Xs, X7.rs, X7.res, hk2, Int.ofNat_lt]) | (with_reducible first | refine T.seq ?_ | refine T.block ?_ | assumption | refine And.intro ?_ ?_) | (intro h; first | (exfalso; omega) | exact (tf h ‹_›).elim | exact (tf ‹_› h).elim | skip))
    all_goals first | omega | skip
theorem Rc : ∀ (l : List (List UInt8)) (k : Nat) (acc : List Ln), (Uk l k acc).1.length ≤ acc.length + l.length
  | [], _, acc => by simp [Uk]
  | s :: l, k, acc => by
    rw [Sh]
    split
    · simp
    · split
      · have := Rc l (k + 1) (acc ++ [(lineT s).1])
        simp only [List.length_append, List.length_cons, List.length_nil] at this ⊢; omega
      · have := Rc l (k + 1) acc
        simp only [List.length_cons]; omega
theorem Lg (t : List UInt8) : (readS t).1.length ≤ 40000 := by
  unfold readS
  split
  · simp
  · split
    · simp
    · have := Rc (linesS t) 0 []
      simp only [List.length_nil] at this; omega
set_option maxHeartbeats 16000000 in
set_option maxRecDepth 100000 in
theorem P5 {G : Nat} {H : Nat → Option Obj} (hM : Qr G H) (t : List UInt8) (hs : t.length ≤ 9223372036854775807) :
    GCp G H Tryd.prog 4 [.a (.str t)] [] 0 [] (.one (.a (.bool true))) [] 0 := by
  refine Ws.fn.gcp (by simp) (by simp [Ue, Um, Ui, Wu, Wq, Vc.S1.okN, At.okN, SV.okN, Res.okN, Res.outOk, Zf, Res.own, Value.oneCell']) fun w X fr hglob => ?_
  have hA := Ng hM t hs
  have hB := Nz t hs
  have hl := Lg t
  generalize readS t = R at *
  have hS := O7 R.1 (by omega)
  repeat' (first | ((first | (with_reducible first | refine T.regs ?_ | refine T.cond ?_ | refine T.reg ?_ | refine T.ret ?_ | refine T.exit ?_ | refine T.skip ?_) | ((with_reducible first | refine T.dregs ?_ ?_ | refine T.dreg ?_ ?_ | refine T.dregts ?_ ?_ | refine T.dregt ?_ ?_ | refine T.danys ?_ ?_ | refine T.dany ?_ ?_); exact mix) | ((with_reducible refine Z2.gcp hglob (hA) ?_ ?_); (focus ((simp [X1, Wh, Vc.mtR, Vc.roA, Vc.roM, Wj, Wi, Wf, Wg, Wa, Vc.fnM, Z5, St.find, Zf, Vc.del, Z4, Res.own, Vc.sg, Yb, Z7, Z9, Zp, Z6, Zq, At.sub, Vc.S1.sub, Res.sub, Kd.enc, Ins.cells, Ln.cells, Value.oneCell', X0, List.nodup_cons]); done))) | ((with_reducible apply Z2.rw (hB)); (focus ((repeat' (first | exact rfl | exact trivial | refine And.intro ?_ ?_ | (simp [SV.bd, Vc.S1.bd, At.bd, Zr, Y0, Ins.cells, Ln.cells]; done))); done))) | ((with_reducible first | apply Z2.rd (hS) | apply Z3.rd (hS)); (focus ((repeat' (first | exact rfl | exact trivial | refine And.intro ?_ ?_ | (simp [SV.bd, Vc.S1.bd, At.bd, Zr, Y0, Ins.cells, Ln.cells]; done))); done))) | (with_reducible refine Z3.split ?_ ?_) | (with_reducible refine Y7.no ?_)) <;> simp only [Yh, Zz, Zy, Vc.exK, Zn, Zk, Zg, Zh, Zx, Xr, Y8, Z0, Zl, Zi, Z1, Zm, Zj, Xn, Yc, Xo, Vc.ev, Vc.st, Vc.stq, Vc.gst, Xl, St.rd, St.get, St.put, St.find, Zf, St.new, Vc.gdc, Zs, Yp, Yt, Yu, Xk, Zw, Zt, Yk, Yi, Vc.S1.cells, Vc.upd, Vc.del, Zd, Vc.noV, Kd.enc, Kd.dec, Ins.cells, Ln.cells, Z5, Yf, Yo, Ye, Y4, Vc.rvs, Xf, Ze, Y9, Y2, Y5, Xa, Xc, Xe, Yl, Xi, Yd, Zv, Zc, Zu, Vc.kdL, Xq, Y3, Xj, Zr, SV.bd, Vc.S1.bd, At.bd, Value.oneCell', Int.reduceEq, Int.reduceNeg, Int.reduceLE, Int.reduceLT, Vc.lenOf, Ym, Xg, Z8, Vc.atK, Ya, Vc.unK, Vc.wfK, Yb, Z7, Z9, Zp, Yg, Z6, Zq, Yr, Vc.sg, Y1, Y6, Xb, Xd, Z4, Res.own, At.sub, Vc.S1.sub, SV.sub, Res.sub, Xm, Xp, Ys, Yq, Yn, Vc.frS, Kd.sz, Nat.reduceSub, ↓reduceIte, reduceCtorEq, Nat.reduceEqDiff, Nat.reduceAdd, Nat.reduceMul, Nat.reduceLeDiff, Nat.reduceLT, Nat.reduceBEq, Nat.reduceBNe, implies_true, Xs, Ws.rs, Ws.res]) | (with_reducible first | refine T.seq ?_ | refine T.block ?_ | assumption | refine And.intro ?_ ?_) | (intro h; first | (exfalso; omega) | exact (tf h ‹_›).elim | exact (tf ‹_› h).elim | skip))
  all_goals first | omega | skip
end Go.Proofs.YtccjjcdjgibilaaDoor
