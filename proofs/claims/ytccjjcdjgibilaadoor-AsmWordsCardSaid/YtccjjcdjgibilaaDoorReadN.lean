/-
  A part of the proofs of this seat's laws: a step on the way. It has no conditions of its own.
-/
import Derived.Test.YtccjjcdjgibilaaDoorReadK
namespace Go.Proofs.YtccjjcdjgibilaaDoor
open Go Go.RowKit Vc
set_option linter.unusedVariables false
set_option linter.unusedSimpArgs false
attribute [local irreducible] T Z2 Wd Ent RdC RwC Up Ye Xt
theorem N1 {b : Bool} {ps : List (List UInt8)} {e : Int} (h : Ra b ps = .error e) : e ≠ 0 := by
  unfold Ra at h
  split at h
  · cases h
  · split at h
    · cases h; decide
    · split at h
      · cases h
      · cases h; decide
theorem Hd {op : Int} {d s : Nat} {ps : List (List UInt8)} {e : Int} (h : Px op d s ps = .error e) : e ≠ 0 := by
  unfold Px Ss at h
  split at h
  · rename_i e' he
    cases h
    split at he
    · cases he
    · split at he
      · cases he; decide
      · split at he
        · cases he
        · split at he
          · cases he
          · cases he; decide
  · split at h
    · cases h
    · cases h; decide
theorem H6 {op : Int} {ps : List (List UInt8)} {e : Int} (h : insV op ps = .error e) : e ≠ 0 := by
  rw [Mv] at h
  split at h
  · rename_i e' he
    cases h; exact N1 he
  · unfold Iy at h
    split at h
    · rename_i e' he
      cases h; exact N1 he
    · exact Hd h
theorem J6 {s : List UInt8} {e : Int} (h : Rz s = .error e) : e ≠ 0 := by
  unfold Rz at h
  simp only at h
  split at h
  · cases h
  · split at h
    · split at h
      · cases h
      · cases h; decide
    · split at h
      · cases h; decide
      · split at h
        · rename_i e' he
          cases h; exact H6 he
        · cases h
theorem Tk (s : List UInt8) (l : List (List UInt8)) (k : Nat) (acc : List Ln) :
    U1 (s :: l) k acc = if (lineT s).2.2 ≠ 0 then (([], (lineT s).2.2, (k : Int)) : List Ln × Int × Int) else if (lineT s).2.1 = true then U1 l (k + 1) (acc ++ [(lineT s).1]) else U1 l (k + 1) acc := by
  rw [U1]
  unfold lineT
  cases hv : Rz s with
  | error e => simp only; rw [if_pos (J6 hv)]
  | ok o => cases o <;> simp
theorem K0 (t : List UInt8) : (∀ p ∈ linesS t, p.length ≤ t.length) ∧ (linesS t).length ≤ t.length + 1 := by
  have h1 := S7 10 t
  have h2 := List.count_le_length (a := (10 : UInt8)) (l := t)
  unfold linesS
  split
  · refine ⟨fun p hp => Tg 10 t p (List.dropLast_subset _ hp), ?_⟩
    rw [List.length_dropLast]; omega
  · exact ⟨Tg 10 t, by omega⟩
set_option maxHeartbeats 16000000 in
set_option maxRecDepth 100000 in
theorem Ly (t : List UInt8) (hs : t.length ≤ 9223372036854775807) :
    RwC Tryd.prog 17 [.v (.a (.str t))] 27 .line (readS t).1 [.agg [.int .i64 (readS t).2.1, .int .i64 (readS t).2.2]] := by
  refine Xx.fn.rw (by simp) (by repeat' (first | exact rfl | exact trivial | refine And.intro ?_ ?_ | (simp [SV.bd, Vc.S1.bd, At.bd, Zq, Yv, Ins.cells, Ln.cells]; done))) (by simp [S1.bd, At.bd]) fun w => ?_
  generalize hR : readS t = R
  unfold readS at hR
  by_cases hlen : 1048576 < t.length
  · rw [if_pos hlen] at hR
    subst hR
    have hgt : (1048576 : Int) < (t.length : Int) := by omega
    repeat' (first | ((first | (with_reducible first | refine T.regs ?_ | refine T.cond ?_ | refine T.reg ?_ | refine T.ret ?_ | refine T.exit ?_ | refine T.skip ?_) | ((with_reducible first | refine T.dregs ?_ ?_ | refine T.dreg ?_ ?_ | refine T.dregts ?_ ?_ | refine T.dregt ?_ ?_ | refine T.danys ?_ ?_ | refine T.dany ?_ ?_); exact mix)); simp only [Yf, Zz, Z1, Vc.exK, Zm, Zj, Zg, Zh, Zx, Xn, Y1, Z0, Zl, Zi, Zy, Zk, Zn, Xk, Z7, Xj, Vc.ev, Vc.st, Vc.stq, Vc.gst, Xh, St.rd, St.get, St.put, St.find, Zd, St.new, Vc.gdc, Zs, Yr, Yo, Yq, Xg, Zv, Zt, Yj, Yi, Vc.S1.cells, Vc.upd, Vc.del, Zf, Vc.noV, Kd.enc, Kd.dec, Ins.cells, Ln.cells, Z5, Yc, Yn, Ya, Y0, Vc.rvs, Y6, Zc, Y4, Yx, Y3, Y5, Y9, Xa, Yk, Xe, Z8, Zw, Zb, Zu, Vc.kdL, Xm, Yz, Xf, Zq, SV.bd, Vc.S1.bd, At.bd, Value.oneCell', Int.reduceEq, Int.reduceNeg, Int.reduceLE, Int.reduceLT, Vc.lenOf, Yl, Xc, Z4, Vc.atK, Z6, Vc.unK, Vc.wfK, Yh, Yd, Yg, Zp, Yb, Z9, Zr, Ys, Vc.sg, Yw, Y2, Y7, Y8, Z3, Res.own, At.sub, Vc.S1.sub, SV.sub, Res.sub, Xi, Xo, Yt, Yp, Ym, Vc.frS, Kd.sz, Nat.reduceSub, ↓reduceIte, reduceCtorEq, Nat.reduceEqDiff, Nat.reduceAdd, Nat.reduceMul, Nat.reduceLeDiff, Nat.reduceLT, Nat.reduceBEq, Nat.reduceBNe, implies_true, Xp, Xx.rs, Xx.res, hgt]) | (with_reducible first | refine T.seq ?_ | refine T.block ?_ | assumption | refine And.intro ?_ ?_) | (intro h; first | (exfalso; omega) | exact (tf h ‹_›).elim | exact (tf ‹_› h).elim | skip))
    all_goals first | omega | skip
  rw [if_neg hlen] at hR
  have hgt : ¬ (1048576 : Int) < (t.length : Int) := by omega
  have hL := Mu t (by omega)
  obtain ⟨hp, hl⟩ := K0 t
  generalize linesS t = L at *
  by_cases h40 : 40000 < L.length
  · rw [if_pos h40] at hR
    subst hR
    have hgt2 : (40000 : Int) < (L.length : Int) := by omega
    repeat' (first | ((first | (with_reducible first | refine T.regs ?_ | refine T.cond ?_ | refine T.reg ?_ | refine T.ret ?_ | refine T.exit ?_ | refine T.skip ?_) | ((with_reducible first | refine T.dregs ?_ ?_ | refine T.dreg ?_ ?_ | refine T.dregts ?_ ?_ | refine T.dregt ?_ ?_ | refine T.danys ?_ ?_ | refine T.dany ?_ ?_); exact mix) | ((with_reducible apply Z2.rw1 (hL)); (focus ((repeat' (first | exact rfl | exact trivial | refine And.intro ?_ ?_ | (simp [SV.bd, Vc.S1.bd, At.bd, Zq, Yv, Ins.cells, Ln.cells]; done))); done)))); simp only [Yf, Zz, Z1, Vc.exK, Zm, Zj, Zg, Zh, Zx, Xn, Y1, Z0, Zl, Zi, Zy, Zk, Zn, Xk, Z7, Xj, Vc.ev, Vc.st, Vc.stq, Vc.gst, Xh, St.rd, St.get, St.put, St.find, Zd, St.new, Vc.gdc, Zs, Yr, Yo, Yq, Xg, Zv, Zt, Yj, Yi, Vc.S1.cells, Vc.upd, Vc.del, Zf, Vc.noV, Kd.enc, Kd.dec, Ins.cells, Ln.cells, Z5, Yc, Yn, Ya, Y0, Vc.rvs, Y6, Zc, Y4, Yx, Y3, Y5, Y9, Xa, Yk, Xe, Z8, Zw, Zb, Zu, Vc.kdL, Xm, Yz, Xf, Zq, SV.bd, Vc.S1.bd, At.bd, Value.oneCell', Int.reduceEq, Int.reduceNeg, Int.reduceLE, Int.reduceLT, Vc.lenOf, Yl, Xc, Z4, Vc.atK, Z6, Vc.unK, Vc.wfK, Yh, Yd, Yg, Zp, Yb, Z9, Zr, Ys, Vc.sg, Yw, Y2, Y7, Y8, Z3, Res.own, At.sub, Vc.S1.sub, SV.sub, Res.sub, Xi, Xo, Yt, Yp, Ym, Vc.frS, Kd.sz, Nat.reduceSub, ↓reduceIte, reduceCtorEq, Nat.reduceEqDiff, Nat.reduceAdd, Nat.reduceMul, Nat.reduceLeDiff, Nat.reduceLT, Nat.reduceBEq, Nat.reduceBNe, implies_true, Xp, Xx.rs, Xx.res, hgt, hgt2]) | (with_reducible first | refine T.seq ?_ | refine T.block ?_ | assumption | refine And.intro ?_ ?_) | (intro h; first | (exfalso; omega) | exact (tf h ‹_›).elim | exact (tf ‹_› h).elim | skip))
    all_goals first | omega | skip
  rw [if_neg h40] at hR
  have hgt2 : ¬ (40000 : Int) < (L.length : Int) := by omega
  repeat' (first | ((first | (with_reducible first | refine T.regs ?_ | refine T.cond ?_ | refine T.reg ?_ | refine T.ret ?_ | refine T.exit ?_ | refine T.skip ?_) | ((with_reducible first | refine T.dregs ?_ ?_ | refine T.dreg ?_ ?_ | refine T.dregts ?_ ?_ | refine T.dregt ?_ ?_ | refine T.danys ?_ ?_ | refine T.dany ?_ ?_); exact mix) | ((with_reducible apply Z2.rw1 (hL)); (focus ((repeat' (first | exact rfl | exact trivial | refine And.intro ?_ ?_ | (simp [SV.bd, Vc.S1.bd, At.bd, Zq, Yv, Ins.cells, Ln.cells]; done))); done)))); simp only [Yf, Zz, Z1, Vc.exK, Zm, Zj, Zg, Zh, Zx, Xn, Y1, Z0, Zl, Zi, Zy, Zk, Zn, Xk, Z7, Xj, Vc.ev, Vc.st, Vc.stq, Vc.gst, Xh, St.rd, St.get, St.put, St.find, Zd, St.new, Vc.gdc, Zs, Yr, Yo, Yq, Xg, Zv, Zt, Yj, Yi, Vc.S1.cells, Vc.upd, Vc.del, Zf, Vc.noV, Kd.enc, Kd.dec, Ins.cells, Ln.cells, Z5, Yc, Yn, Ya, Y0, Vc.rvs, Y6, Zc, Y4, Yx, Y3, Y5, Y9, Xa, Yk, Xe, Z8, Zw, Zb, Zu, Vc.kdL, Xm, Yz, Xf, Zq, SV.bd, Vc.S1.bd, At.bd, Value.oneCell', Int.reduceEq, Int.reduceNeg, Int.reduceLE, Int.reduceLT, Vc.lenOf, Yl, Xc, Z4, Vc.atK, Z6, Vc.unK, Vc.wfK, Yh, Yd, Yg, Zp, Yb, Z9, Zr, Ys, Vc.sg, Yw, Y2, Y7, Y8, Z3, Res.own, At.sub, Vc.S1.sub, SV.sub, Res.sub, Xi, Xo, Yt, Yp, Ym, Vc.frS, Kd.sz, Nat.reduceSub, ↓reduceIte, reduceCtorEq, Nat.reduceEqDiff, Nat.reduceAdd, Nat.reduceMul, Nat.reduceLeDiff, Nat.reduceLT, Nat.reduceBEq, Nat.reduceBNe, implies_true, Xp, Xx.rs, Xx.res, hgt, hgt2]) | (with_reducible first | refine T.seq ?_ | refine T.block ?_ | assumption | refine And.intro ?_ ?_) | (intro h; first | (exfalso; omega) | exact (tf h ‹_›).elim | exact (tf ‹_› h).elim | skip))
  all_goals first | omega | skip
  refine T.weak (Ent.nilRow (t := 5) 27 .line rfl) ?_
  refine T.loop (ι := { p : Nat × List Ln // p.1 ≤ L.length ∧ U1 (L.drop p.1) p.1 p.2 = R ∧ p.2.length ≤ p.1 })
    (fun x => ⟨[(23, .one (.a (.int .i64 (x.1.1 : Int)))), (22, .one (.a (.int .i64 L.length))), (21, .one (.a (.ref 1))), (5, .one (.a (.ref 2))), (3, .one (.a (.loc 0 0)))],
      [(0, .cells 31 [.int .i64 0, .int .i64 0]), (1, .row 9 .str L), (2, .row 27 .line x.1.2)], 3⟩) (fun x => L.length - x.1.1) ⟨(0, []), by simp, by simpa using hR, by simp⟩ (Ent.mk (id) (by simp [Za, Ze, Vc.bnd, St.get, St.find, Zd, SV.ren, Vc.S1.ren, At.ren, Res.ren, SV.bd, Vc.S1.bd, At.bd, Res.bd, Vc.upd, Vc.del, Kd.enc, Value.oneCell']) (by simp [Za, Ze, Vc.bnd, St.get, St.find, Zd, SV.ren, Vc.S1.ren, At.ren, Res.ren, SV.bd, Vc.S1.bd, At.bd, Res.bd, Vc.upd, Vc.del, Kd.enc, Value.oneCell']) (by simp [Za, Ze, Vc.bnd, St.get, St.find, Zd, SV.ren, Vc.S1.ren, At.ren, Res.ren, SV.bd, Vc.S1.bd, At.bd, Res.bd, Vc.upd, Vc.del, Kd.enc, Value.oneCell']) (by simp [Za, Ze, Vc.bnd, St.get, St.find, Zd, SV.ren, Vc.S1.ren, At.ren, Res.ren, SV.bd, Vc.S1.bd, At.bd, Res.bd, Vc.upd, Vc.del, Kd.enc, Value.oneCell'])) ?_
  rintro ⟨⟨k, acc⟩, hk, hrun, hal⟩
  simp only at hk hrun hal
  by_cases hlt : k < L.length
  · have hdrop : L.drop k = L.getD k [] :: L.drop (k + 1) := by
      rw [List.drop_eq_getElem_cons hlt]; simp [List.getD, hlt]
    have hmem : L.getD k [] ∈ L := by simp [List.getD, hlt]
    generalize hy : L.getD k [] = x at hdrop hmem
    have hy' : L.getD k (Kd.dflt .str) = x := hy
    have hxl := hp x hmem
    rw [hdrop, Tk] at hrun
    have hA := Lj x (by omega)
    have hw : IntKind.i64.wrap ((k : Int) + 1) = ((k + 1 : Nat) : Int) := We (by omega)
    have ht : ((k : Int)).toNat = k := by omega
    generalize lineT x = V at hA hrun
    obtain ⟨y, some_, e⟩ := V
    simp only at hA hrun
    by_cases he : e ≠ 0
    · rw [if_pos he] at hrun
      subst hrun
      repeat' (first | ((first | (with_reducible first | refine T.regs ?_ | refine T.cond ?_ | refine T.reg ?_ | refine T.ret ?_ | refine T.exit ?_ | refine T.skip ?_) | ((with_reducible first | refine T.dregs ?_ ?_ | refine T.dreg ?_ ?_ | refine T.dregts ?_ ?_ | refine T.dregt ?_ ?_ | refine T.danys ?_ ?_ | refine T.dany ?_ ?_); exact mix) | ((with_reducible first | apply Z2.rd (hA) | apply Ye.rd (hA)); (focus ((repeat' (first | exact rfl | exact trivial | refine And.intro ?_ ?_ | (simp [SV.bd, Vc.S1.bd, At.bd, Zq, Yv, Ins.cells, Ln.cells]; done))); done)))); simp only [Yf, Zz, Z1, Vc.exK, Zm, Zj, Zg, Zh, Zx, Xn, Y1, Z0, Zl, Zi, Zy, Zk, Zn, Xk, Z7, Xj, Vc.ev, Vc.st, Vc.stq, Vc.gst, Xh, St.rd, St.get, St.put, St.find, Zd, St.new, Vc.gdc, Zs, Yr, Yo, Yq, Xg, Zv, Zt, Yj, Yi, Vc.S1.cells, Vc.upd, Vc.del, Zf, Vc.noV, Kd.enc, Kd.dec, Ins.cells, Ln.cells, Z5, Yc, Yn, Ya, Y0, Vc.rvs, Y6, Zc, Y4, Yx, Y3, Y5, Y9, Xa, Yk, Xe, Z8, Zw, Zb, Zu, Vc.kdL, Xm, Yz, Xf, Zq, SV.bd, Vc.S1.bd, At.bd, Value.oneCell', Int.reduceEq, Int.reduceNeg, Int.reduceLE, Int.reduceLT, Vc.lenOf, Yl, Xc, Z4, Vc.atK, Z6, Vc.unK, Vc.wfK, Yh, Yd, Yg, Zp, Yb, Z9, Zr, Ys, Vc.sg, Yw, Y2, Y7, Y8, Z3, Res.own, At.sub, Vc.S1.sub, SV.sub, Res.sub, Xi, Xo, Yt, Yp, Ym, Vc.frS, Kd.sz, Nat.reduceSub, ↓reduceIte, reduceCtorEq, Nat.reduceEqDiff, Nat.reduceAdd, Nat.reduceMul, Nat.reduceLeDiff, Nat.reduceLT, Nat.reduceBEq, Nat.reduceBNe, implies_true, Xp, Xx.rs, Xx.res, hy', ht, hw, he, Int.ofNat_lt]) | (with_reducible first | refine T.seq ?_ | refine T.block ?_ | assumption | refine And.intro ?_ ?_) | (intro h; first | (exfalso; omega) | exact (tf h ‹_›).elim | exact (tf ‹_› h).elim | skip))
      all_goals first | omega | skip
    · rw [if_neg he] at hrun
      have he0 : e = 0 := by simpa using he
      subst he0
      cases some_
      · rw [if_neg (by decide)] at hrun
        repeat' (first | ((first | (with_reducible first | refine T.regs ?_ | refine T.cond ?_ | refine T.reg ?_ | refine T.ret ?_ | refine T.exit ?_ | refine T.skip ?_) | ((with_reducible first | refine T.dregs ?_ ?_ | refine T.dreg ?_ ?_ | refine T.dregts ?_ ?_ | refine T.dregt ?_ ?_ | refine T.danys ?_ ?_ | refine T.dany ?_ ?_); exact mix) | ((with_reducible first | apply Z2.rd (hA) | apply Ye.rd (hA)); (focus ((repeat' (first | exact rfl | exact trivial | refine And.intro ?_ ?_ | (simp [SV.bd, Vc.S1.bd, At.bd, Zq, Yv, Ins.cells, Ln.cells]; done))); done)))); simp only [Yf, Zz, Z1, Vc.exK, Zm, Zj, Zg, Zh, Zx, Xn, Y1, Z0, Zl, Zi, Zy, Zk, Zn, Xk, Z7, Xj, Vc.ev, Vc.st, Vc.stq, Vc.gst, Xh, St.rd, St.get, St.put, St.find, Zd, St.new, Vc.gdc, Zs, Yr, Yo, Yq, Xg, Zv, Zt, Yj, Yi, Vc.S1.cells, Vc.upd, Vc.del, Zf, Vc.noV, Kd.enc, Kd.dec, Ins.cells, Ln.cells, Z5, Yc, Yn, Ya, Y0, Vc.rvs, Y6, Zc, Y4, Yx, Y3, Y5, Y9, Xa, Yk, Xe, Z8, Zw, Zb, Zu, Vc.kdL, Xm, Yz, Xf, Zq, SV.bd, Vc.S1.bd, At.bd, Value.oneCell', Int.reduceEq, Int.reduceNeg, Int.reduceLE, Int.reduceLT, Vc.lenOf, Yl, Xc, Z4, Vc.atK, Z6, Vc.unK, Vc.wfK, Yh, Yd, Yg, Zp, Yb, Z9, Zr, Ys, Vc.sg, Yw, Y2, Y7, Y8, Z3, Res.own, At.sub, Vc.S1.sub, SV.sub, Res.sub, Xi, Xo, Yt, Yp, Ym, Vc.frS, Kd.sz, Nat.reduceSub, ↓reduceIte, reduceCtorEq, Nat.reduceEqDiff, Nat.reduceAdd, Nat.reduceMul, Nat.reduceLeDiff, Nat.reduceLT, Nat.reduceBEq, Nat.reduceBNe, implies_true, Xp, Xx.rs, Xx.res, hy', ht, hw, Int.ofNat_lt]) | (with_reducible first | refine T.seq ?_ | refine T.block ?_ | assumption | refine And.intro ?_ ?_) | (intro h; first | (exfalso; omega) | exact (tf h ‹_›).elim | exact (tf ‹_› h).elim | skip))
        all_goals first | omega | skip
        exact ⟨⟨(k + 1, acc), hlt, hrun, by simp only; omega⟩, (Ent.mk (id) (by simp [Za, Ze, Vc.bnd, St.get, St.find, Zd, SV.ren, Vc.S1.ren, At.ren, Res.ren, SV.bd, Vc.S1.bd, At.bd, Res.bd, Vc.upd, Vc.del, Kd.enc, Value.oneCell', hw]) (by simp [Za, Ze, Vc.bnd, St.get, St.find, Zd, SV.ren, Vc.S1.ren, At.ren, Res.ren, SV.bd, Vc.S1.bd, At.bd, Res.bd, Vc.upd, Vc.del, Kd.enc, Value.oneCell', hw]) (by simp [Za, Ze, Vc.bnd, St.get, St.find, Zd, SV.ren, Vc.S1.ren, At.ren, Res.ren, SV.bd, Vc.S1.bd, At.bd, Res.bd, Vc.upd, Vc.del, Kd.enc, Value.oneCell', hw]) (by simp [Za, Ze, Vc.bnd, St.get, St.find, Zd, SV.ren, Vc.S1.ren, At.ren, Res.ren, SV.bd, Vc.S1.bd, At.bd, Res.bd, Vc.upd, Vc.del, Kd.enc, Value.oneCell', hw])), by simp only; omega⟩
      · rw [if_pos rfl] at hrun
        repeat' (first | ((first | (with_reducible first | refine T.regs ?_ | refine T.cond ?_ | refine T.reg ?_ | refine T.ret ?_ | refine T.exit ?_ | refine T.skip ?_) | ((with_reducible first | refine T.dregs ?_ ?_ | refine T.dreg ?_ ?_ | refine T.dregts ?_ ?_ | refine T.dregt ?_ ?_ | refine T.danys ?_ ?_ | refine T.dany ?_ ?_); exact mix) | ((with_reducible first | apply Z2.rd (hA) | apply Ye.rd (hA)); (focus ((repeat' (first | exact rfl | exact trivial | refine And.intro ?_ ?_ | (simp [SV.bd, Vc.S1.bd, At.bd, Zq, Yv, Ins.cells, Ln.cells]; done))); done)))); simp only [Yf, Zz, Z1, Vc.exK, Zm, Zj, Zg, Zh, Zx, Xn, Y1, Z0, Zl, Zi, Zy, Zk, Zn, Xk, Z7, Xj, Vc.ev, Vc.st, Vc.stq, Vc.gst, Xh, St.rd, St.get, St.put, St.find, Zd, St.new, Vc.gdc, Zs, Yr, Yo, Yq, Xg, Zv, Zt, Yj, Yi, Vc.S1.cells, Vc.upd, Vc.del, Zf, Vc.noV, Kd.enc, Kd.dec, Ins.cells, Ln.cells, Z5, Yc, Yn, Ya, Y0, Vc.rvs, Y6, Zc, Y4, Yx, Y3, Y5, Y9, Xa, Yk, Xe, Z8, Zw, Zb, Zu, Vc.kdL, Xm, Yz, Xf, Zq, SV.bd, Vc.S1.bd, At.bd, Value.oneCell', Int.reduceEq, Int.reduceNeg, Int.reduceLE, Int.reduceLT, Vc.lenOf, Yl, Xc, Z4, Vc.atK, Z6, Vc.unK, Vc.wfK, Yh, Yd, Yg, Zp, Yb, Z9, Zr, Ys, Vc.sg, Yw, Y2, Y7, Y8, Z3, Res.own, At.sub, Vc.S1.sub, SV.sub, Res.sub, Xi, Xo, Yt, Yp, Ym, Vc.frS, Kd.sz, Nat.reduceSub, ↓reduceIte, reduceCtorEq, Nat.reduceEqDiff, Nat.reduceAdd, Nat.reduceMul, Nat.reduceLeDiff, Nat.reduceLT, Nat.reduceBEq, Nat.reduceBNe, implies_true, Xp, Xx.rs, Xx.res, hy', ht, hw, Int.ofNat_lt]) | (with_reducible first | refine T.seq ?_ | refine T.block ?_ | assumption | refine And.intro ?_ ?_) | (intro h; first | (exfalso; omega) | exact (tf h ‹_›).elim | exact (tf ‹_› h).elim | skip))
        all_goals first | omega | skip
        exact ⟨⟨(k + 1, acc ++ [y]), hlt, hrun, by simp only [List.length_append, List.length_cons, List.length_nil]; omega⟩, (Ent.mk (fun n => if n = 2 then 5 else n) (by simp [Za, Ze, Vc.bnd, St.get, St.find, Zd, SV.ren, Vc.S1.ren, At.ren, Res.ren, SV.bd, Vc.S1.bd, At.bd, Res.bd, Vc.upd, Vc.del, Kd.enc, Value.oneCell', hw]) (by simp [Za, Ze, Vc.bnd, St.get, St.find, Zd, SV.ren, Vc.S1.ren, At.ren, Res.ren, SV.bd, Vc.S1.bd, At.bd, Res.bd, Vc.upd, Vc.del, Kd.enc, Value.oneCell', hw]) (by simp [Za, Ze, Vc.bnd, St.get, St.find, Zd, SV.ren, Vc.S1.ren, At.ren, Res.ren, SV.bd, Vc.S1.bd, At.bd, Res.bd, Vc.upd, Vc.del, Kd.enc, Value.oneCell', hw]) (by simp [Za, Ze, Vc.bnd, St.get, St.find, Zd, SV.ren, Vc.S1.ren, At.ren, Res.ren, SV.bd, Vc.S1.bd, At.bd, Res.bd, Vc.upd, Vc.del, Kd.enc, Value.oneCell', hw])), by simp only; omega⟩
  · have hk2 : k = L.length := by omega
    have hd0 : L.drop k = [] := by rw [hk2]; exact List.drop_length
    rw [hd0] at hrun
    simp only [U1] at hrun
    subst hrun
    repeat' (first | ((first | (with_reducible first | refine T.regs ?_ | refine T.cond ?_ | refine T.reg ?_ | refine T.ret ?_ | refine T.exit ?_ | refine T.skip ?_) | ((with_reducible first | refine T.dregs ?_ ?_ | refine T.dreg ?_ ?_ | refine T.dregts ?_ ?_ | refine T.dregt ?_ ?_ | refine T.danys ?_ ?_ | refine T.dany ?_ ?_); exact mix)); simp only [Yf, Zz, Z1, Vc.exK, Zm, Zj, Zg, Zh, Zx, Xn, Y1, Z0, Zl, Zi, Zy, Zk, Zn, Xk, Z7, Xj, Vc.ev, Vc.st, Vc.stq, Vc.gst, Xh, St.rd, St.get, St.put, St.find, Zd, St.new, Vc.gdc, Zs, Yr, Yo, Yq, Xg, Zv, Zt, Yj, Yi, Vc.S1.cells, Vc.upd, Vc.del, Zf, Vc.noV, Kd.enc, Kd.dec, Ins.cells, Ln.cells, Z5, Yc, Yn, Ya, Y0, Vc.rvs, Y6, Zc, Y4, Yx, Y3, Y5, Y9, Xa, Yk, Xe, Z8, Zw, Zb, Zu, Vc.kdL, Xm, Yz, Xf, Zq, SV.bd, Vc.S1.bd, At.bd, Value.oneCell', Int.reduceEq, Int.reduceNeg, Int.reduceLE, Int.reduceLT, Vc.lenOf, Yl, Xc, Z4, Vc.atK, Z6, Vc.unK, Vc.wfK, Yh, Yd, Yg, Zp, Yb, Z9, Zr, Ys, Vc.sg, Yw, Y2, Y7, Y8, Z3, Res.own, At.sub, Vc.S1.sub, SV.sub, Res.sub, Xi, Xo, Yt, Yp, Ym, Vc.frS, Kd.sz, Nat.reduceSub, ↓reduceIte, reduceCtorEq, Nat.reduceEqDiff, Nat.reduceAdd, Nat.reduceMul, Nat.reduceLeDiff, Nat.reduceLT, Nat.reduceBEq, Nat.reduceBNe, implies_true, Xp, Xx.rs, Xx.res, hk2, Int.ofNat_lt]) | (with_reducible first | refine T.seq ?_ | refine T.block ?_ | assumption | refine And.intro ?_ ?_) | (intro h; first | (exfalso; omega) | exact (tf h ‹_›).elim | exact (tf ‹_› h).elim | skip))
    all_goals first | omega | skip
end Go.Proofs.YtccjjcdjgibilaaDoor
namespace Go.Proofs.YtccjjcdjgibilaaDoor
open Go Go.RowKit Vc
set_option linter.unusedVariables false
set_option linter.unusedSimpArgs false
attribute [local irreducible] T Z2 Wd Ent RdC RwC Up Ye Xt
set_option maxHeartbeats 16000000 in
set_option maxRecDepth 100000 in
theorem Qt {G : Nat} {H : Nat → Option Obj} {w : World} {X : List Nat} {fr : List Value} {Q : Exit → St → Prop} (hglob : Ut G H w X) (hM : R6 G H) (P : List (List UInt8)) (n : Nat) (hn : n ≤ P.length) (h40 : n ≤ 40000) (hp : ∀ p ∈ P, p.length ≤ 2000000)
    (hQ : ∀ acc, U1 (P.take n) 0 [] = (acc, 0, 0) → ∀ S', Ent ⟨Tryd.prog, w, X, 59, fr⟩ S' ⟨[(5, .one (.a (.ref 1))), (3, .one (.a (.loc 0 0)))], [(0, .cells 31 [.int .i64 0, .int .i64 0]), (1, .row 27 .line acc)], 2⟩ → Q (.exit 0) S')
    (hE : ∀ e k, U1 (P.take n) 0 [] = ([], e, k) → ∀ S' : St, Zd S'.slots 2 = some (.one (.a (.raw (.slice none 0 0)))) → Zd S'.slots 3 = some (.one (.a (.loc 0 0))) → Zd S'.res 0 = some (.cells 31 [.int .i64 e, .int .i64 k]) → Q .ret S') :
    T ⟨Tryd.prog, w, X, 59, fr⟩ (.loop X1.c20) Q ⟨[(35, .one (.a (.int .i64 0))), (34, .one (.a (.int .i64 n))), (33, .one (.a (.ref 2))), (5, .one (.a (.ref 3))), (3, .one (.a (.loc 0 0)))],
      [(0, .cells 31 [.int .i64 0, .int .i64 0]), (1, .row 9 .str P), (2, .view 1 1 0 n), (3, .row 27 .line [])], 4⟩ := by
  generalize hR : U1 (P.take n) 0 [] = R at hQ hE
  refine T.loop (ι := { p : Nat × List Ln // p.1 ≤ n ∧ U1 ((P.take n).drop p.1) p.1 p.2 = R ∧ p.2.length ≤ p.1 })
    (fun x => ⟨[(35, .one (.a (.int .i64 (x.1.1 : Int)))), (34, .one (.a (.int .i64 n))), (33, .one (.a (.ref 2))), (5, .one (.a (.ref 3))), (3, .one (.a (.loc 0 0)))],
      [(0, .cells 31 [.int .i64 0, .int .i64 0]), (1, .row 9 .str P), (2, .view 1 1 0 n), (3, .row 27 .line x.1.2)], 4⟩) (fun x => n - x.1.1) ⟨(0, []), by simp, by simpa using hR, by simp⟩ (Ent.mk (id) (by simp [Za, Ze, Vc.bnd, St.get, St.find, Zd, SV.ren, Vc.S1.ren, At.ren, Res.ren, SV.bd, Vc.S1.bd, At.bd, Res.bd, Vc.upd, Vc.del, Kd.enc, Value.oneCell']) (by simp [Za, Ze, Vc.bnd, St.get, St.find, Zd, SV.ren, Vc.S1.ren, At.ren, Res.ren, SV.bd, Vc.S1.bd, At.bd, Res.bd, Vc.upd, Vc.del, Kd.enc, Value.oneCell']) (by simp [Za, Ze, Vc.bnd, St.get, St.find, Zd, SV.ren, Vc.S1.ren, At.ren, Res.ren, SV.bd, Vc.S1.bd, At.bd, Res.bd, Vc.upd, Vc.del, Kd.enc, Value.oneCell']) (by simp [Za, Ze, Vc.bnd, St.get, St.find, Zd, SV.ren, Vc.S1.ren, At.ren, Res.ren, SV.bd, Vc.S1.bd, At.bd, Res.bd, Vc.upd, Vc.del, Kd.enc, Value.oneCell'])) ?_
  rintro ⟨⟨k, acc⟩, hk, hrun, hal⟩
  simp only at hk hrun hal
  have hln : (P.take n).length = n := by rw [List.length_take]; omega
  by_cases hlt : k < n
  · have hdrop : (P.take n).drop k = P.getD k [] :: (P.take n).drop (k + 1) := by
      have hlt2 : k < (P.take n).length := by omega
      rw [List.drop_eq_getElem_cons hlt2, List.getElem_take]
      have hg : P.getD k [] = P[k] := by simp [List.getD, show k < P.length by omega]
      rw [hg]
    have hmem : P.getD k [] ∈ P := by simp [List.getD, show k < P.length by omega]
    generalize hy : P.getD k [] = x at hdrop hmem
    have hy' : P.getD k (Kd.dflt .str) = x := hy
    have hxl := hp x hmem
    rw [hdrop, Tk] at hrun
    have hA := M7 hM x (by omega)
    have hw : IntKind.i64.wrap ((k : Int) + 1) = ((k + 1 : Nat) : Int) := We (by omega)
    have ht : 0 + ((k : Int)).toNat = k := by omega
    generalize lineT x = V at hA hrun
    obtain ⟨y, some_, e⟩ := V
    simp only [Ln.cells] at hA hrun
    by_cases he : e ≠ 0
    · rw [if_pos he] at hrun
      subst hrun
      repeat' (first | ((first | (with_reducible first | refine T.regs ?_ | refine T.cond ?_ | refine T.reg ?_ | refine T.ret ?_ | refine T.exit ?_ | refine T.skip ?_) | ((with_reducible first | refine T.dregs ?_ ?_ | refine T.dreg ?_ ?_ | refine T.dregts ?_ ?_ | refine T.dregt ?_ ?_ | refine T.danys ?_ ?_ | refine T.dany ?_ ?_); exact mix) | ((with_reducible refine Z2.gcp hglob (hA) ?_ ?_); (focus ((simp [X3, Wl, Vc.mtR, Vc.roA, Vc.roM, Wk, Wm, Wh, Wj, Wf, Vc.fnM, Z5, St.find, Zd, Vc.del, Z3, Res.own, Vc.sg, Yh, Yd, Yg, Zp, Z9, Zr, At.sub, Vc.S1.sub, Res.sub, Kd.enc, Ins.cells, Ln.cells, Value.oneCell', X2, List.nodup_cons]); done)))); simp only [Yf, Zz, Z1, Vc.exK, Zm, Zj, Zg, Zh, Zx, Xn, Y1, Z0, Zl, Zi, Zy, Zk, Zn, Xk, Z7, Xj, Vc.ev, Vc.st, Vc.stq, Vc.gst, Xh, St.rd, St.get, St.put, St.find, Zd, St.new, Vc.gdc, Zs, Yr, Yo, Yq, Xg, Zv, Zt, Yj, Yi, Vc.S1.cells, Vc.upd, Vc.del, Zf, Vc.noV, Kd.enc, Kd.dec, Ins.cells, Ln.cells, Z5, Yc, Yn, Ya, Y0, Vc.rvs, Y6, Zc, Y4, Yx, Y3, Y5, Y9, Xa, Yk, Xe, Z8, Zw, Zb, Zu, Vc.kdL, Xm, Yz, Xf, Zq, SV.bd, Vc.S1.bd, At.bd, Value.oneCell', Int.reduceEq, Int.reduceNeg, Int.reduceLE, Int.reduceLT, Vc.lenOf, Yl, Xc, Z4, Vc.atK, Z6, Vc.unK, Vc.wfK, Yh, Yd, Yg, Zp, Yb, Z9, Zr, Ys, Vc.sg, Yw, Y2, Y7, Y8, Z3, Res.own, At.sub, Vc.S1.sub, SV.sub, Res.sub, Xi, Xo, Yt, Yp, Ym, Vc.frS, Kd.sz, Nat.reduceSub, ↓reduceIte, reduceCtorEq, Nat.reduceEqDiff, Nat.reduceAdd, Nat.reduceMul, Nat.reduceLeDiff, Nat.reduceLT, Nat.reduceBEq, Nat.reduceBNe, implies_true, Xp, X1.rs, X1.res, hy', ht, hw, he, Int.ofNat_lt]) | (with_reducible first | refine T.seq ?_ | refine T.block ?_ | assumption | refine And.intro ?_ ?_) | (intro h; first | (exfalso; omega) | exact (tf h ‹_›).elim | exact (tf ‹_› h).elim | skip))
      all_goals first | omega | skip
      all_goals first | exact hE _ _ rfl _ rfl rfl rfl | exact T.ret (hE _ _ rfl _ rfl rfl rfl)
    · rw [if_neg he] at hrun
      have he0 : e = 0 := by simpa using he
      subst he0
      cases some_
      · rw [if_neg (by decide)] at hrun
        repeat' (first | ((first | (with_reducible first | refine T.regs ?_ | refine T.cond ?_ | refine T.reg ?_ | refine T.ret ?_ | refine T.exit ?_ | refine T.skip ?_) | ((with_reducible first | refine T.dregs ?_ ?_ | refine T.dreg ?_ ?_ | refine T.dregts ?_ ?_ | refine T.dregt ?_ ?_ | refine T.danys ?_ ?_ | refine T.dany ?_ ?_); exact mix) | ((with_reducible refine Z2.gcp hglob (hA) ?_ ?_); (focus ((simp [X3, Wl, Vc.mtR, Vc.roA, Vc.roM, Wk, Wm, Wh, Wj, Wf, Vc.fnM, Z5, St.find, Zd, Vc.del, Z3, Res.own, Vc.sg, Yh, Yd, Yg, Zp, Z9, Zr, At.sub, Vc.S1.sub, Res.sub, Kd.enc, Ins.cells, Ln.cells, Value.oneCell', X2, List.nodup_cons]); done)))); simp only [Yf, Zz, Z1, Vc.exK, Zm, Zj, Zg, Zh, Zx, Xn, Y1, Z0, Zl, Zi, Zy, Zk, Zn, Xk, Z7, Xj, Vc.ev, Vc.st, Vc.stq, Vc.gst, Xh, St.rd, St.get, St.put, St.find, Zd, St.new, Vc.gdc, Zs, Yr, Yo, Yq, Xg, Zv, Zt, Yj, Yi, Vc.S1.cells, Vc.upd, Vc.del, Zf, Vc.noV, Kd.enc, Kd.dec, Ins.cells, Ln.cells, Z5, Yc, Yn, Ya, Y0, Vc.rvs, Y6, Zc, Y4, Yx, Y3, Y5, Y9, Xa, Yk, Xe, Z8, Zw, Zb, Zu, Vc.kdL, Xm, Yz, Xf, Zq, SV.bd, Vc.S1.bd, At.bd, Value.oneCell', Int.reduceEq, Int.reduceNeg, Int.reduceLE, Int.reduceLT, Vc.lenOf, Yl, Xc, Z4, Vc.atK, Z6, Vc.unK, Vc.wfK, Yh, Yd, Yg, Zp, Yb, Z9, Zr, Ys, Vc.sg, Yw, Y2, Y7, Y8, Z3, Res.own, At.sub, Vc.S1.sub, SV.sub, Res.sub, Xi, Xo, Yt, Yp, Ym, Vc.frS, Kd.sz, Nat.reduceSub, ↓reduceIte, reduceCtorEq, Nat.reduceEqDiff, Nat.reduceAdd, Nat.reduceMul, Nat.reduceLeDiff, Nat.reduceLT, Nat.reduceBEq, Nat.reduceBNe, implies_true, Xp, X1.rs, X1.res, hy', ht, hw, Int.ofNat_lt]) | (with_reducible first | refine T.seq ?_ | refine T.block ?_ | assumption | refine And.intro ?_ ?_) | (intro h; first | (exfalso; omega) | exact (tf h ‹_›).elim | exact (tf ‹_› h).elim | skip))
        all_goals first | omega | skip
        exact ⟨⟨(k + 1, acc), hlt, hrun, by simp only; omega⟩, (Ent.mk (id) (by simp [Za, Ze, Vc.bnd, St.get, St.find, Zd, SV.ren, Vc.S1.ren, At.ren, Res.ren, SV.bd, Vc.S1.bd, At.bd, Res.bd, Vc.upd, Vc.del, Kd.enc, Value.oneCell', hw]) (by simp [Za, Ze, Vc.bnd, St.get, St.find, Zd, SV.ren, Vc.S1.ren, At.ren, Res.ren, SV.bd, Vc.S1.bd, At.bd, Res.bd, Vc.upd, Vc.del, Kd.enc, Value.oneCell', hw]) (by simp [Za, Ze, Vc.bnd, St.get, St.find, Zd, SV.ren, Vc.S1.ren, At.ren, Res.ren, SV.bd, Vc.S1.bd, At.bd, Res.bd, Vc.upd, Vc.del, Kd.enc, Value.oneCell', hw]) (by simp [Za, Ze, Vc.bnd, St.get, St.find, Zd, SV.ren, Vc.S1.ren, At.ren, Res.ren, SV.bd, Vc.S1.bd, At.bd, Res.bd, Vc.upd, Vc.del, Kd.enc, Value.oneCell', hw])), by simp only; omega⟩
      · rw [if_pos rfl] at hrun
        repeat' (first | ((first | (with_reducible first | refine T.regs ?_ | refine T.cond ?_ | refine T.reg ?_ | refine T.ret ?_ | refine T.exit ?_ | refine T.skip ?_) | ((with_reducible first | refine T.dregs ?_ ?_ | refine T.dreg ?_ ?_ | refine T.dregts ?_ ?_ | refine T.dregt ?_ ?_ | refine T.danys ?_ ?_ | refine T.dany ?_ ?_); exact mix) | ((with_reducible refine Z2.gcp hglob (hA) ?_ ?_); (focus ((simp [X3, Wl, Vc.mtR, Vc.roA, Vc.roM, Wk, Wm, Wh, Wj, Wf, Vc.fnM, Z5, St.find, Zd, Vc.del, Z3, Res.own, Vc.sg, Yh, Yd, Yg, Zp, Z9, Zr, At.sub, Vc.S1.sub, Res.sub, Kd.enc, Ins.cells, Ln.cells, Value.oneCell', X2, List.nodup_cons]); done)))); simp only [Yf, Zz, Z1, Vc.exK, Zm, Zj, Zg, Zh, Zx, Xn, Y1, Z0, Zl, Zi, Zy, Zk, Zn, Xk, Z7, Xj, Vc.ev, Vc.st, Vc.stq, Vc.gst, Xh, St.rd, St.get, St.put, St.find, Zd, St.new, Vc.gdc, Zs, Yr, Yo, Yq, Xg, Zv, Zt, Yj, Yi, Vc.S1.cells, Vc.upd, Vc.del, Zf, Vc.noV, Kd.enc, Kd.dec, Ins.cells, Ln.cells, Z5, Yc, Yn, Ya, Y0, Vc.rvs, Y6, Zc, Y4, Yx, Y3, Y5, Y9, Xa, Yk, Xe, Z8, Zw, Zb, Zu, Vc.kdL, Xm, Yz, Xf, Zq, SV.bd, Vc.S1.bd, At.bd, Value.oneCell', Int.reduceEq, Int.reduceNeg, Int.reduceLE, Int.reduceLT, Vc.lenOf, Yl, Xc, Z4, Vc.atK, Z6, Vc.unK, Vc.wfK, Yh, Yd, Yg, Zp, Yb, Z9, Zr, Ys, Vc.sg, Yw, Y2, Y7, Y8, Z3, Res.own, At.sub, Vc.S1.sub, SV.sub, Res.sub, Xi, Xo, Yt, Yp, Ym, Vc.frS, Kd.sz, Nat.reduceSub, ↓reduceIte, reduceCtorEq, Nat.reduceEqDiff, Nat.reduceAdd, Nat.reduceMul, Nat.reduceLeDiff, Nat.reduceLT, Nat.reduceBEq, Nat.reduceBNe, implies_true, Xp, X1.rs, X1.res, hy', ht, hw, Int.ofNat_lt]) | (with_reducible first | refine T.seq ?_ | refine T.block ?_ | assumption | refine And.intro ?_ ?_) | (intro h; first | (exfalso; omega) | exact (tf h ‹_›).elim | exact (tf ‹_› h).elim | skip))
        all_goals first | omega | skip
        exact ⟨⟨(k + 1, acc ++ [y]), hlt, hrun, by simp only [List.length_append, List.length_cons, List.length_nil]; omega⟩, (Ent.mk (fun n => if n = 3 then 6 else n) (by simp [Za, Ze, Vc.bnd, St.get, St.find, Zd, SV.ren, Vc.S1.ren, At.ren, Res.ren, SV.bd, Vc.S1.bd, At.bd, Res.bd, Vc.upd, Vc.del, Kd.enc, Value.oneCell', hw]) (by simp [Za, Ze, Vc.bnd, St.get, St.find, Zd, SV.ren, Vc.S1.ren, At.ren, Res.ren, SV.bd, Vc.S1.bd, At.bd, Res.bd, Vc.upd, Vc.del, Kd.enc, Value.oneCell', hw]) (by simp [Za, Ze, Vc.bnd, St.get, St.find, Zd, SV.ren, Vc.S1.ren, At.ren, Res.ren, SV.bd, Vc.S1.bd, At.bd, Res.bd, Vc.upd, Vc.del, Kd.enc, Value.oneCell', hw]) (by simp [Za, Ze, Vc.bnd, St.get, St.find, Zd, SV.ren, Vc.S1.ren, At.ren, Res.ren, SV.bd, Vc.S1.bd, At.bd, Res.bd, Vc.upd, Vc.del, Kd.enc, Value.oneCell', hw])), by simp only; omega⟩
  · have hk2 : k = n := by omega
    have hd0 : (P.take n).drop k = [] := by rw [hk2, ← hln]; simp
    rw [hd0] at hrun
    simp only [U1] at hrun
    repeat' (first | ((first | (with_reducible first | refine T.regs ?_ | refine T.cond ?_ | refine T.reg ?_ | refine T.ret ?_ | refine T.exit ?_ | refine T.skip ?_) | ((with_reducible first | refine T.dregs ?_ ?_ | refine T.dreg ?_ ?_ | refine T.dregts ?_ ?_ | refine T.dregt ?_ ?_ | refine T.danys ?_ ?_ | refine T.dany ?_ ?_); exact mix)); simp only [Yf, Zz, Z1, Vc.exK, Zm, Zj, Zg, Zh, Zx, Xn, Y1, Z0, Zl, Zi, Zy, Zk, Zn, Xk, Z7, Xj, Vc.ev, Vc.st, Vc.stq, Vc.gst, Xh, St.rd, St.get, St.put, St.find, Zd, St.new, Vc.gdc, Zs, Yr, Yo, Yq, Xg, Zv, Zt, Yj, Yi, Vc.S1.cells, Vc.upd, Vc.del, Zf, Vc.noV, Kd.enc, Kd.dec, Ins.cells, Ln.cells, Z5, Yc, Yn, Ya, Y0, Vc.rvs, Y6, Zc, Y4, Yx, Y3, Y5, Y9, Xa, Yk, Xe, Z8, Zw, Zb, Zu, Vc.kdL, Xm, Yz, Xf, Zq, SV.bd, Vc.S1.bd, At.bd, Value.oneCell', Int.reduceEq, Int.reduceNeg, Int.reduceLE, Int.reduceLT, Vc.lenOf, Yl, Xc, Z4, Vc.atK, Z6, Vc.unK, Vc.wfK, Yh, Yd, Yg, Zp, Yb, Z9, Zr, Ys, Vc.sg, Yw, Y2, Y7, Y8, Z3, Res.own, At.sub, Vc.S1.sub, SV.sub, Res.sub, Xi, Xo, Yt, Yp, Ym, Vc.frS, Kd.sz, Nat.reduceSub, ↓reduceIte, reduceCtorEq, Nat.reduceEqDiff, Nat.reduceAdd, Nat.reduceMul, Nat.reduceLeDiff, Nat.reduceLT, Nat.reduceBEq, Nat.reduceBNe, implies_true, Xp, X1.rs, X1.res, hk2, Int.ofNat_lt]) | (with_reducible first | refine T.seq ?_ | refine T.block ?_ | assumption | refine And.intro ?_ ?_) | (intro h; first | (exfalso; omega) | exact (tf h ‹_›).elim | exact (tf ‹_› h).elim | skip))
    all_goals first | omega | skip
    exact hQ acc hrun.symm _ (Ent.mk (fun n => if n = 1 then 3 else n) (by simp [Za, Ze, Vc.bnd, St.get, St.find, Zd, SV.ren, Vc.S1.ren, At.ren, Res.ren, SV.bd, Vc.S1.bd, At.bd, Res.bd, Vc.upd, Vc.del, Kd.enc, Value.oneCell']) (by simp [Za, Ze, Vc.bnd, St.get, St.find, Zd, SV.ren, Vc.S1.ren, At.ren, Res.ren, SV.bd, Vc.S1.bd, At.bd, Res.bd, Vc.upd, Vc.del, Kd.enc, Value.oneCell']) (by simp [Za, Ze, Vc.bnd, St.get, St.find, Zd, SV.ren, Vc.S1.ren, At.ren, Res.ren, SV.bd, Vc.S1.bd, At.bd, Res.bd, Vc.upd, Vc.del, Kd.enc, Value.oneCell']) (by simp [Za, Ze, Vc.bnd, St.get, St.find, Zd, SV.ren, Vc.S1.ren, At.ren, Res.ren, SV.bd, Vc.S1.bd, At.bd, Res.bd, Vc.upd, Vc.del, Kd.enc, Value.oneCell']))
theorem Lw (t : List UInt8) : linesS t = (splitS 10 t).take (if (splitS 10 t).getLast? = some [] then (splitS 10 t).length - 1 else (splitS 10 t).length) := by
  unfold linesS
  split
  · rw [List.dropLast_eq_take]
  · rw [List.take_length]
set_option maxHeartbeats 16000000 in
set_option maxRecDepth 100000 in
theorem Sb {G : Nat} {H : Nat → Option Obj} (hM : R6 G H) (t : List UInt8) (hs : t.length ≤ 9223372036854775807) :
    GCp G H Tryd.prog 16 [.a (.str t)] [] 0 [] (.tup [.a (.ref 0), .agg [.int .i64 (readS t).2.1, .int .i64 (readS t).2.2]]) [(0, .row 27 .line (readS t).1)] 1 := by
  refine X1.fn.gcp (by simp) (by simp [U4, Td, U8, W4, Wt, Vc.S1.okN, At.okN, SV.okN, Res.okN, Res.outOk, Zd, Res.own, Value.oneCell']) fun w X fr hglob => ?_
  generalize hR : readS t = R
  unfold readS at hR
  by_cases hlen : 1048576 < t.length
  · rw [if_pos hlen] at hR
    subst hR
    have hgt : (1048576 : Int) < (t.length : Int) := by omega
    repeat' (first | ((first | (with_reducible first | refine T.regs ?_ | refine T.cond ?_ | refine T.reg ?_ | refine T.ret ?_ | refine T.exit ?_ | refine T.skip ?_) | ((with_reducible first | refine T.dregs ?_ ?_ | refine T.dreg ?_ ?_ | refine T.dregts ?_ ?_ | refine T.dregt ?_ ?_ | refine T.danys ?_ ?_ | refine T.dany ?_ ?_); exact mix)); simp only [Yf, Zz, Z1, Vc.exK, Zm, Zj, Zg, Zh, Zx, Xn, Y1, Z0, Zl, Zi, Zy, Zk, Zn, Xk, Z7, Xj, Vc.ev, Vc.st, Vc.stq, Vc.gst, Xh, St.rd, St.get, St.put, St.find, Zd, St.new, Vc.gdc, Zs, Yr, Yo, Yq, Xg, Zv, Zt, Yj, Yi, Vc.S1.cells, Vc.upd, Vc.del, Zf, Vc.noV, Kd.enc, Kd.dec, Ins.cells, Ln.cells, Z5, Yc, Yn, Ya, Y0, Vc.rvs, Y6, Zc, Y4, Yx, Y3, Y5, Y9, Xa, Yk, Xe, Z8, Zw, Zb, Zu, Vc.kdL, Xm, Yz, Xf, Zq, SV.bd, Vc.S1.bd, At.bd, Value.oneCell', Int.reduceEq, Int.reduceNeg, Int.reduceLE, Int.reduceLT, Vc.lenOf, Yl, Xc, Z4, Vc.atK, Z6, Vc.unK, Vc.wfK, Yh, Yd, Yg, Zp, Yb, Z9, Zr, Ys, Vc.sg, Yw, Y2, Y7, Y8, Z3, Res.own, At.sub, Vc.S1.sub, SV.sub, Res.sub, Xi, Xo, Yt, Yp, Ym, Vc.frS, Kd.sz, Nat.reduceSub, ↓reduceIte, reduceCtorEq, Nat.reduceEqDiff, Nat.reduceAdd, Nat.reduceMul, Nat.reduceLeDiff, Nat.reduceLT, Nat.reduceBEq, Nat.reduceBNe, implies_true, Xp, X1.rs, X1.res, hgt]) | (with_reducible first | refine T.seq ?_ | refine T.block ?_ | assumption | refine And.intro ?_ ?_) | (intro h; first | (exfalso; omega) | exact (tf h ‹_›).elim | exact (tf ‹_› h).elim | skip))
    all_goals first | omega | skip
  rw [if_neg hlen] at hR
  have hgt : ¬ (1048576 : Int) < (t.length : Int) := by omega
  have hSp := Ma hM t 10 (by omega)
  have hne := N7 10 t
  have hp := Tg 10 t
  have hcl := S7 10 t
  have hcc := List.count_le_length (a := (10 : UInt8)) (l := t)
  rw [Lw] at hR
  generalize splitS 10 t = P at *
  have hpos := List.length_pos_iff.2 hne
  have hw1 : IntKind.i64.wrap ((P.length : Int) - 1) = ((P.length - 1 : Nat) : Int) := by rw [Vv (by omega) (by omega)]; omega
  have htn : (((P.length - 1 : Nat) : Int)).toNat = P.length - 1 := by omega
  have hz : 0 + (0 : Int).toNat = 0 := rfl
  have htn2 : 0 + (((P.length - 1 : Nat) : Int)).toNat = P.length - 1 := by omega
  have hlast : P.getD (P.length - 1) (Kd.dflt .str) = [] ↔ P.getLast? = some [] := by
    have e : P.getD (P.length - 1) (Kd.dflt .str) = P[P.length - 1] := by
      show P.getD (P.length - 1) [] = _
      simp [List.getD, show P.length - 1 < P.length by omega]
    rw [e, List.getLast?_eq_getElem?, List.getElem?_eq_getElem (by omega)]
    simp
  by_cases hl : P.getLast? = some []
  · have hl' := hlast.2 hl
    rw [if_pos hl] at hR
    have hln : (P.take (P.length - 1)).length = P.length - 1 := by rw [List.length_take]; omega
    rw [hln] at hR
    have hlv : ((P.length - 1 - 0 : Nat) : Int) = ((P.length - 1 : Nat) : Int) := rfl
    generalize hnn : P.length - 1 = n at *
    by_cases h40 : 40000 < n
    · rw [if_pos h40] at hR
      subst hR
      have hgt2 : (40000 : Int) < (n : Int) := by omega
      repeat' (first | ((first | (with_reducible first | refine T.regs ?_ | refine T.cond ?_ | refine T.reg ?_ | refine T.ret ?_ | refine T.exit ?_ | refine T.skip ?_) | ((with_reducible first | refine T.dregs ?_ ?_ | refine T.dreg ?_ ?_ | refine T.dregts ?_ ?_ | refine T.dregt ?_ ?_ | refine T.danys ?_ ?_ | refine T.dany ?_ ?_); exact mix) | ((with_reducible refine Z2.gcp hglob (hSp) ?_ ?_); (focus ((simp [X3, Wl, Vc.mtR, Vc.roA, Vc.roM, Wk, Wm, Wh, Wj, Wf, Vc.fnM, Z5, St.find, Zd, Vc.del, Z3, Res.own, Vc.sg, Yh, Yd, Yg, Zp, Z9, Zr, At.sub, Vc.S1.sub, Res.sub, Kd.enc, Ins.cells, Ln.cells, Value.oneCell', X2, List.nodup_cons]); done)))); simp only [Yf, Zz, Z1, Vc.exK, Zm, Zj, Zg, Zh, Zx, Xn, Y1, Z0, Zl, Zi, Zy, Zk, Zn, Xk, Z7, Xj, Vc.ev, Vc.st, Vc.stq, Vc.gst, Xh, St.rd, St.get, St.put, St.find, Zd, St.new, Vc.gdc, Zs, Yr, Yo, Yq, Xg, Zv, Zt, Yj, Yi, Vc.S1.cells, Vc.upd, Vc.del, Zf, Vc.noV, Kd.enc, Kd.dec, Ins.cells, Ln.cells, Z5, Yc, Yn, Ya, Y0, Vc.rvs, Y6, Zc, Y4, Yx, Y3, Y5, Y9, Xa, Yk, Xe, Z8, Zw, Zb, Zu, Vc.kdL, Xm, Yz, Xf, Zq, SV.bd, Vc.S1.bd, At.bd, Value.oneCell', Int.reduceEq, Int.reduceNeg, Int.reduceLE, Int.reduceLT, Vc.lenOf, Yl, Xc, Z4, Vc.atK, Z6, Vc.unK, Vc.wfK, Yh, Yd, Yg, Zp, Yb, Z9, Zr, Ys, Vc.sg, Yw, Y2, Y7, Y8, Z3, Res.own, At.sub, Vc.S1.sub, SV.sub, Res.sub, Xi, Xo, Yt, Yp, Ym, Vc.frS, Kd.sz, Nat.reduceSub, ↓reduceIte, reduceCtorEq, Nat.reduceEqDiff, Nat.reduceAdd, Nat.reduceMul, Nat.reduceLeDiff, Nat.reduceLT, Nat.reduceBEq, Nat.reduceBNe, implies_true, Xp, X1.rs, X1.res, hgt, hw1, htn, htn2, hz, hl', hlv, hgt2]) | (with_reducible first | refine T.seq ?_ | refine T.block ?_ | assumption | refine And.intro ?_ ?_) | (intro h; first | (exfalso; omega) | exact (tf h ‹_›).elim | exact (tf ‹_› h).elim | skip))
      all_goals first | omega | skip
    rw [if_neg h40] at hR
    have hgt2 : ¬ (40000 : Int) < (n : Int) := by omega
    repeat' (first | ((first | (with_reducible first | refine T.regs ?_ | refine T.cond ?_ | refine T.reg ?_ | refine T.ret ?_ | refine T.exit ?_ | refine T.skip ?_) | ((with_reducible first | refine T.dregs ?_ ?_ | refine T.dreg ?_ ?_ | refine T.dregts ?_ ?_ | refine T.dregt ?_ ?_ | refine T.danys ?_ ?_ | refine T.dany ?_ ?_); exact mix) | ((with_reducible refine Z2.gcp hglob (hSp) ?_ ?_); (focus ((simp [X3, Wl, Vc.mtR, Vc.roA, Vc.roM, Wk, Wm, Wh, Wj, Wf, Vc.fnM, Z5, St.find, Zd, Vc.del, Z3, Res.own, Vc.sg, Yh, Yd, Yg, Zp, Z9, Zr, At.sub, Vc.S1.sub, Res.sub, Kd.enc, Ins.cells, Ln.cells, Value.oneCell', X2, List.nodup_cons]); done)))); simp only [Yf, Zz, Z1, Vc.exK, Zm, Zj, Zg, Zh, Zx, Xn, Y1, Z0, Zl, Zi, Zy, Zk, Zn, Xk, Z7, Xj, Vc.ev, Vc.st, Vc.stq, Vc.gst, Xh, St.rd, St.get, St.put, St.find, Zd, St.new, Vc.gdc, Zs, Yr, Yo, Yq, Xg, Zv, Zt, Yj, Yi, Vc.S1.cells, Vc.upd, Vc.del, Zf, Vc.noV, Kd.enc, Kd.dec, Ins.cells, Ln.cells, Z5, Yc, Yn, Ya, Y0, Vc.rvs, Y6, Zc, Y4, Yx, Y3, Y5, Y9, Xa, Yk, Xe, Z8, Zw, Zb, Zu, Vc.kdL, Xm, Yz, Xf, Zq, SV.bd, Vc.S1.bd, At.bd, Value.oneCell', Int.reduceEq, Int.reduceNeg, Int.reduceLE, Int.reduceLT, Vc.lenOf, Yl, Xc, Z4, Vc.atK, Z6, Vc.unK, Vc.wfK, Yh, Yd, Yg, Zp, Yb, Z9, Zr, Ys, Vc.sg, Yw, Y2, Y7, Y8, Z3, Res.own, At.sub, Vc.S1.sub, SV.sub, Res.sub, Xi, Xo, Yt, Yp, Ym, Vc.frS, Kd.sz, Nat.reduceSub, ↓reduceIte, reduceCtorEq, Nat.reduceEqDiff, Nat.reduceAdd, Nat.reduceMul, Nat.reduceLeDiff, Nat.reduceLT, Nat.reduceBEq, Nat.reduceBNe, implies_true, Xp, X1.rs, X1.res, hgt, hw1, htn, htn2, hz, hl', hlv, hgt2]) | (with_reducible first | refine T.seq ?_ | refine T.block ?_ | assumption | refine And.intro ?_ ?_) | (intro h; first | (exfalso; omega) | exact (tf h ‹_›).elim | exact (tf ‹_› h).elim | skip))
    all_goals first | omega | skip
    refine T.weak (Ent.nilRow (t := 5) 27 .line rfl) ?_
    refine T.weak (S2 := ⟨[(35, .one (.a (.int .i64 0))), (34, .one (.a (.int .i64 n))), (33, .one (.a (.ref 2))), (5, .one (.a (.ref 3))), (3, .one (.a (.loc 0 0)))],
      [(0, .cells 31 [.int .i64 0, .int .i64 0]), (1, .row 9 .str P), (2, .view 1 1 0 n), (3, .row 27 .line [])], 4⟩) (Ent.mk (id) (by simp [Za, Ze, Vc.bnd, St.get, St.find, Zd, SV.ren, Vc.S1.ren, At.ren, Res.ren, SV.bd, Vc.S1.bd, At.bd, Res.bd, Vc.upd, Vc.del, Kd.enc, Value.oneCell']) (by simp [Za, Ze, Vc.bnd, St.get, St.find, Zd, SV.ren, Vc.S1.ren, At.ren, Res.ren, SV.bd, Vc.S1.bd, At.bd, Res.bd, Vc.upd, Vc.del, Kd.enc, Value.oneCell']) (by simp [Za, Ze, Vc.bnd, St.get, St.find, Zd, SV.ren, Vc.S1.ren, At.ren, Res.ren, SV.bd, Vc.S1.bd, At.bd, Res.bd, Vc.upd, Vc.del, Kd.enc, Value.oneCell']) (by simp [Za, Ze, Vc.bnd, St.get, St.find, Zd, SV.ren, Vc.S1.ren, At.ren, Res.ren, SV.bd, Vc.S1.bd, At.bd, Res.bd, Vc.upd, Vc.del, Kd.enc, Value.oneCell'])) (Qt hglob hM P n (by omega) (by omega) (fun p h => Nat.le_trans (hp p h) (by omega)) (fun acc ha S' hE => ?_) (fun e k ha S' h2 h3 h0 => ?_))
    · rw [ha] at hR
      subst hR
      simp only [Yf, Zz, Z1, Vc.exK, Zm, Zj, Zg, Zh, Zx, Xn, Y1, Z0, Zl, Zi, Zy, Zk, Zn, Xk, Z7, Xj, Vc.ev, Vc.st, Vc.stq, Vc.gst, Xh, St.rd, St.get, St.put, St.find, Zd, St.new, Vc.gdc, Zs, Yr, Yo, Yq, Xg, Zv, Zt, Yj, Yi, Vc.S1.cells, Vc.upd, Vc.del, Zf, Vc.noV, Kd.enc, Kd.dec, Ins.cells, Ln.cells, Z5, Yc, Yn, Ya, Y0, Vc.rvs, Y6, Zc, Y4, Yx, Y3, Y5, Y9, Xa, Yk, Xe, Z8, Zw, Zb, Zu, Vc.kdL, Xm, Yz, Xf, Zq, SV.bd, Vc.S1.bd, At.bd, Value.oneCell', Int.reduceEq, Int.reduceNeg, Int.reduceLE, Int.reduceLT, Vc.lenOf, Yl, Xc, Z4, Vc.atK, Z6, Vc.unK, Vc.wfK, Yh, Yd, Yg, Zp, Yb, Z9, Zr, Ys, Vc.sg, Yw, Y2, Y7, Y8, Z3, Res.own, At.sub, Vc.S1.sub, SV.sub, Res.sub, Xi, Xo, Yt, Yp, Ym, Vc.frS, Kd.sz, Nat.reduceSub, ↓reduceIte, reduceCtorEq, Nat.reduceEqDiff, Nat.reduceAdd, Nat.reduceMul, Nat.reduceLeDiff, Nat.reduceLT, Nat.reduceBEq, Nat.reduceBNe, implies_true, Xp, X1.rs]
      refine T.weak hE ?_
      repeat' (first | ((first | (with_reducible first | refine T.regs ?_ | refine T.cond ?_ | refine T.reg ?_ | refine T.ret ?_ | refine T.exit ?_ | refine T.skip ?_) | ((with_reducible first | refine T.dregs ?_ ?_ | refine T.dreg ?_ ?_ | refine T.dregts ?_ ?_ | refine T.dregt ?_ ?_ | refine T.danys ?_ ?_ | refine T.dany ?_ ?_); exact mix)); simp only [Yf, Zz, Z1, Vc.exK, Zm, Zj, Zg, Zh, Zx, Xn, Y1, Z0, Zl, Zi, Zy, Zk, Zn, Xk, Z7, Xj, Vc.ev, Vc.st, Vc.stq, Vc.gst, Xh, St.rd, St.get, St.put, St.find, Zd, St.new, Vc.gdc, Zs, Yr, Yo, Yq, Xg, Zv, Zt, Yj, Yi, Vc.S1.cells, Vc.upd, Vc.del, Zf, Vc.noV, Kd.enc, Kd.dec, Ins.cells, Ln.cells, Z5, Yc, Yn, Ya, Y0, Vc.rvs, Y6, Zc, Y4, Yx, Y3, Y5, Y9, Xa, Yk, Xe, Z8, Zw, Zb, Zu, Vc.kdL, Xm, Yz, Xf, Zq, SV.bd, Vc.S1.bd, At.bd, Value.oneCell', Int.reduceEq, Int.reduceNeg, Int.reduceLE, Int.reduceLT, Vc.lenOf, Yl, Xc, Z4, Vc.atK, Z6, Vc.unK, Vc.wfK, Yh, Yd, Yg, Zp, Yb, Z9, Zr, Ys, Vc.sg, Yw, Y2, Y7, Y8, Z3, Res.own, At.sub, Vc.S1.sub, SV.sub, Res.sub, Xi, Xo, Yt, Yp, Ym, Vc.frS, Kd.sz, Nat.reduceSub, ↓reduceIte, reduceCtorEq, Nat.reduceEqDiff, Nat.reduceAdd, Nat.reduceMul, Nat.reduceLeDiff, Nat.reduceLT, Nat.reduceBEq, Nat.reduceBNe, implies_true, Xp, X1.rs, X1.res]) | (with_reducible first | refine T.seq ?_ | refine T.block ?_ | assumption | refine And.intro ?_ ?_) | (intro h; first | (exfalso; omega) | exact (tf h ‹_›).elim | exact (tf ‹_› h).elim | skip))
    · rw [ha] at hR
      subst hR
      simp only [Yf, Zz, Z1, Vc.exK, Zm, Zj, Zg, Zh, Zx, Xn, Y1, Z0, Zl, Zi, Zy, Zk, Zn, Xk, Z7, Xj, Vc.ev, Vc.st, Vc.stq, Vc.gst, Xh, St.rd, St.get, St.put, St.find, Zd, St.new, Vc.gdc, Zs, Yr, Yo, Yq, Xg, Zv, Zt, Yj, Yi, Vc.S1.cells, Vc.upd, Vc.del, Zf, Vc.noV, Kd.enc, Kd.dec, Ins.cells, Ln.cells, Z5, Yc, Yn, Ya, Y0, Vc.rvs, Y6, Zc, Y4, Yx, Y3, Y5, Y9, Xa, Yk, Xe, Z8, Zw, Zb, Zu, Vc.kdL, Xm, Yz, Xf, Zq, SV.bd, Vc.S1.bd, At.bd, Value.oneCell', Int.reduceEq, Int.reduceNeg, Int.reduceLE, Int.reduceLT, Vc.lenOf, Yl, Xc, Z4, Vc.atK, Z6, Vc.unK, Vc.wfK, Yh, Yd, Yg, Zp, Yb, Z9, Zr, Ys, Vc.sg, Yw, Y2, Y7, Y8, Z3, Res.own, At.sub, Vc.S1.sub, SV.sub, Res.sub, Xi, Xo, Yt, Yp, Ym, Vc.frS, Kd.sz, Nat.reduceSub, ↓reduceIte, reduceCtorEq, Nat.reduceEqDiff, Nat.reduceAdd, Nat.reduceMul, Nat.reduceLeDiff, Nat.reduceLT, Nat.reduceBEq, Nat.reduceBNe, implies_true, Xp, X1.rs, X1.res, h2, h3, h0]
  · have hl' : ¬ P.getD (P.length - 1) (Kd.dflt .str) = [] := fun e => hl (hlast.1 e)
    rw [if_neg hl, List.take_length] at hR
    by_cases h40 : 40000 < P.length
    · rw [if_pos h40] at hR
      subst hR
      have hgt2 : (40000 : Int) < (P.length : Int) := by omega
      repeat' (first | ((first | (with_reducible first | refine T.regs ?_ | refine T.cond ?_ | refine T.reg ?_ | refine T.ret ?_ | refine T.exit ?_ | refine T.skip ?_) | ((with_reducible first | refine T.dregs ?_ ?_ | refine T.dreg ?_ ?_ | refine T.dregts ?_ ?_ | refine T.dregt ?_ ?_ | refine T.danys ?_ ?_ | refine T.dany ?_ ?_); exact mix) | ((with_reducible refine Z2.gcp hglob (hSp) ?_ ?_); (focus ((simp [X3, Wl, Vc.mtR, Vc.roA, Vc.roM, Wk, Wm, Wh, Wj, Wf, Vc.fnM, Z5, St.find, Zd, Vc.del, Z3, Res.own, Vc.sg, Yh, Yd, Yg, Zp, Z9, Zr, At.sub, Vc.S1.sub, Res.sub, Kd.enc, Ins.cells, Ln.cells, Value.oneCell', X2, List.nodup_cons]); done)))); simp only [Yf, Zz, Z1, Vc.exK, Zm, Zj, Zg, Zh, Zx, Xn, Y1, Z0, Zl, Zi, Zy, Zk, Zn, Xk, Z7, Xj, Vc.ev, Vc.st, Vc.stq, Vc.gst, Xh, St.rd, St.get, St.put, St.find, Zd, St.new, Vc.gdc, Zs, Yr, Yo, Yq, Xg, Zv, Zt, Yj, Yi, Vc.S1.cells, Vc.upd, Vc.del, Zf, Vc.noV, Kd.enc, Kd.dec, Ins.cells, Ln.cells, Z5, Yc, Yn, Ya, Y0, Vc.rvs, Y6, Zc, Y4, Yx, Y3, Y5, Y9, Xa, Yk, Xe, Z8, Zw, Zb, Zu, Vc.kdL, Xm, Yz, Xf, Zq, SV.bd, Vc.S1.bd, At.bd, Value.oneCell', Int.reduceEq, Int.reduceNeg, Int.reduceLE, Int.reduceLT, Vc.lenOf, Yl, Xc, Z4, Vc.atK, Z6, Vc.unK, Vc.wfK, Yh, Yd, Yg, Zp, Yb, Z9, Zr, Ys, Vc.sg, Yw, Y2, Y7, Y8, Z3, Res.own, At.sub, Vc.S1.sub, SV.sub, Res.sub, Xi, Xo, Yt, Yp, Ym, Vc.frS, Kd.sz, Nat.reduceSub, ↓reduceIte, reduceCtorEq, Nat.reduceEqDiff, Nat.reduceAdd, Nat.reduceMul, Nat.reduceLeDiff, Nat.reduceLT, Nat.reduceBEq, Nat.reduceBNe, implies_true, Xp, X1.rs, X1.res, hgt, hw1, htn, hl', hgt2]) | (with_reducible first | refine T.seq ?_ | refine T.block ?_ | assumption | refine And.intro ?_ ?_) | (intro h; first | (exfalso; omega) | exact (tf h ‹_›).elim | exact (tf ‹_› h).elim | skip))
      all_goals first | omega | skip
    rw [if_neg h40] at hR
    have hgt2 : ¬ (40000 : Int) < (P.length : Int) := by omega
    repeat' (first | ((first | (with_reducible first | refine T.regs ?_ | refine T.cond ?_ | refine T.reg ?_ | refine T.ret ?_ | refine T.exit ?_ | refine T.skip ?_) | ((with_reducible first | refine T.dregs ?_ ?_ | refine T.dreg ?_ ?_ | refine T.dregts ?_ ?_ | refine T.dregt ?_ ?_ | refine T.danys ?_ ?_ | refine T.dany ?_ ?_); exact mix) | ((with_reducible refine Z2.gcp hglob (hSp) ?_ ?_); (focus ((simp [X3, Wl, Vc.mtR, Vc.roA, Vc.roM, Wk, Wm, Wh, Wj, Wf, Vc.fnM, Z5, St.find, Zd, Vc.del, Z3, Res.own, Vc.sg, Yh, Yd, Yg, Zp, Z9, Zr, At.sub, Vc.S1.sub, Res.sub, Kd.enc, Ins.cells, Ln.cells, Value.oneCell', X2, List.nodup_cons]); done)))); simp only [Yf, Zz, Z1, Vc.exK, Zm, Zj, Zg, Zh, Zx, Xn, Y1, Z0, Zl, Zi, Zy, Zk, Zn, Xk, Z7, Xj, Vc.ev, Vc.st, Vc.stq, Vc.gst, Xh, St.rd, St.get, St.put, St.find, Zd, St.new, Vc.gdc, Zs, Yr, Yo, Yq, Xg, Zv, Zt, Yj, Yi, Vc.S1.cells, Vc.upd, Vc.del, Zf, Vc.noV, Kd.enc, Kd.dec, Ins.cells, Ln.cells, Z5, Yc, Yn, Ya, Y0, Vc.rvs, Y6, Zc, Y4, Yx, Y3, Y5, Y9, Xa, Yk, Xe, Z8, Zw, Zb, Zu, Vc.kdL, Xm, Yz, Xf, Zq, SV.bd, Vc.S1.bd, At.bd, Value.oneCell', Int.reduceEq, Int.reduceNeg, Int.reduceLE, Int.reduceLT, Vc.lenOf, Yl, Xc, Z4, Vc.atK, Z6, Vc.unK, Vc.wfK, Yh, Yd, Yg, Zp, Yb, Z9, Zr, Ys, Vc.sg, Yw, Y2, Y7, Y8, Z3, Res.own, At.sub, Vc.S1.sub, SV.sub, Res.sub, Xi, Xo, Yt, Yp, Ym, Vc.frS, Kd.sz, Nat.reduceSub, ↓reduceIte, reduceCtorEq, Nat.reduceEqDiff, Nat.reduceAdd, Nat.reduceMul, Nat.reduceLeDiff, Nat.reduceLT, Nat.reduceBEq, Nat.reduceBNe, implies_true, Xp, X1.rs, X1.res, hgt, hw1, htn, hl', hgt2]) | (with_reducible first | refine T.seq ?_ | refine T.block ?_ | assumption | refine And.intro ?_ ?_) | (intro h; first | (exfalso; omega) | exact (tf h ‹_›).elim | exact (tf ‹_› h).elim | skip))
    all_goals first | omega | skip
    refine T.weak (Ent.nilRow (t := 5) 27 .line rfl) ?_
    refine T.weak (Ent.view (t := 33) 1 1 0 P.length rfl rfl trivial) ?_
    refine T.weak (S2 := ⟨[(35, .one (.a (.int .i64 0))), (34, .one (.a (.int .i64 P.length))), (33, .one (.a (.ref 2))), (5, .one (.a (.ref 3))), (3, .one (.a (.loc 0 0)))],
      [(0, .cells 31 [.int .i64 0, .int .i64 0]), (1, .row 9 .str P), (2, .view 1 1 0 P.length), (3, .row 27 .line [])], 4⟩) (Ent.mk (fun n => if n = 2 then 3 else if n = 3 then 2 else n) (by simp [Za, Ze, Vc.bnd, St.get, St.find, Zd, SV.ren, Vc.S1.ren, At.ren, Res.ren, SV.bd, Vc.S1.bd, At.bd, Res.bd, Vc.upd, Vc.del, Kd.enc, Value.oneCell']) (by simp [Za, Ze, Vc.bnd, St.get, St.find, Zd, SV.ren, Vc.S1.ren, At.ren, Res.ren, SV.bd, Vc.S1.bd, At.bd, Res.bd, Vc.upd, Vc.del, Kd.enc, Value.oneCell']) (by simp [Za, Ze, Vc.bnd, St.get, St.find, Zd, SV.ren, Vc.S1.ren, At.ren, Res.ren, SV.bd, Vc.S1.bd, At.bd, Res.bd, Vc.upd, Vc.del, Kd.enc, Value.oneCell']) (by simp [Za, Ze, Vc.bnd, St.get, St.find, Zd, SV.ren, Vc.S1.ren, At.ren, Res.ren, SV.bd, Vc.S1.bd, At.bd, Res.bd, Vc.upd, Vc.del, Kd.enc, Value.oneCell'])) (Qt hglob hM P P.length (by omega) (by omega) (fun p h => Nat.le_trans (hp p h) (by omega)) (fun acc ha S' hE => ?_) (fun e k ha S' h2 h3 h0 => ?_))
    · rw [List.take_length] at ha
      rw [ha] at hR
      subst hR
      simp only [Yf, Zz, Z1, Vc.exK, Zm, Zj, Zg, Zh, Zx, Xn, Y1, Z0, Zl, Zi, Zy, Zk, Zn, Xk, Z7, Xj, Vc.ev, Vc.st, Vc.stq, Vc.gst, Xh, St.rd, St.get, St.put, St.find, Zd, St.new, Vc.gdc, Zs, Yr, Yo, Yq, Xg, Zv, Zt, Yj, Yi, Vc.S1.cells, Vc.upd, Vc.del, Zf, Vc.noV, Kd.enc, Kd.dec, Ins.cells, Ln.cells, Z5, Yc, Yn, Ya, Y0, Vc.rvs, Y6, Zc, Y4, Yx, Y3, Y5, Y9, Xa, Yk, Xe, Z8, Zw, Zb, Zu, Vc.kdL, Xm, Yz, Xf, Zq, SV.bd, Vc.S1.bd, At.bd, Value.oneCell', Int.reduceEq, Int.reduceNeg, Int.reduceLE, Int.reduceLT, Vc.lenOf, Yl, Xc, Z4, Vc.atK, Z6, Vc.unK, Vc.wfK, Yh, Yd, Yg, Zp, Yb, Z9, Zr, Ys, Vc.sg, Yw, Y2, Y7, Y8, Z3, Res.own, At.sub, Vc.S1.sub, SV.sub, Res.sub, Xi, Xo, Yt, Yp, Ym, Vc.frS, Kd.sz, Nat.reduceSub, ↓reduceIte, reduceCtorEq, Nat.reduceEqDiff, Nat.reduceAdd, Nat.reduceMul, Nat.reduceLeDiff, Nat.reduceLT, Nat.reduceBEq, Nat.reduceBNe, implies_true, Xp, X1.rs]
      refine T.weak hE ?_
      repeat' (first | ((first | (with_reducible first | refine T.regs ?_ | refine T.cond ?_ | refine T.reg ?_ | refine T.ret ?_ | refine T.exit ?_ | refine T.skip ?_) | ((with_reducible first | refine T.dregs ?_ ?_ | refine T.dreg ?_ ?_ | refine T.dregts ?_ ?_ | refine T.dregt ?_ ?_ | refine T.danys ?_ ?_ | refine T.dany ?_ ?_); exact mix)); simp only [Yf, Zz, Z1, Vc.exK, Zm, Zj, Zg, Zh, Zx, Xn, Y1, Z0, Zl, Zi, Zy, Zk, Zn, Xk, Z7, Xj, Vc.ev, Vc.st, Vc.stq, Vc.gst, Xh, St.rd, St.get, St.put, St.find, Zd, St.new, Vc.gdc, Zs, Yr, Yo, Yq, Xg, Zv, Zt, Yj, Yi, Vc.S1.cells, Vc.upd, Vc.del, Zf, Vc.noV, Kd.enc, Kd.dec, Ins.cells, Ln.cells, Z5, Yc, Yn, Ya, Y0, Vc.rvs, Y6, Zc, Y4, Yx, Y3, Y5, Y9, Xa, Yk, Xe, Z8, Zw, Zb, Zu, Vc.kdL, Xm, Yz, Xf, Zq, SV.bd, Vc.S1.bd, At.bd, Value.oneCell', Int.reduceEq, Int.reduceNeg, Int.reduceLE, Int.reduceLT, Vc.lenOf, Yl, Xc, Z4, Vc.atK, Z6, Vc.unK, Vc.wfK, Yh, Yd, Yg, Zp, Yb, Z9, Zr, Ys, Vc.sg, Yw, Y2, Y7, Y8, Z3, Res.own, At.sub, Vc.S1.sub, SV.sub, Res.sub, Xi, Xo, Yt, Yp, Ym, Vc.frS, Kd.sz, Nat.reduceSub, ↓reduceIte, reduceCtorEq, Nat.reduceEqDiff, Nat.reduceAdd, Nat.reduceMul, Nat.reduceLeDiff, Nat.reduceLT, Nat.reduceBEq, Nat.reduceBNe, implies_true, Xp, X1.rs, X1.res]) | (with_reducible first | refine T.seq ?_ | refine T.block ?_ | assumption | refine And.intro ?_ ?_) | (intro h; first | (exfalso; omega) | exact (tf h ‹_›).elim | exact (tf ‹_› h).elim | skip))
    · rw [List.take_length] at ha
      rw [ha] at hR
      subst hR
      simp only [Yf, Zz, Z1, Vc.exK, Zm, Zj, Zg, Zh, Zx, Xn, Y1, Z0, Zl, Zi, Zy, Zk, Zn, Xk, Z7, Xj, Vc.ev, Vc.st, Vc.stq, Vc.gst, Xh, St.rd, St.get, St.put, St.find, Zd, St.new, Vc.gdc, Zs, Yr, Yo, Yq, Xg, Zv, Zt, Yj, Yi, Vc.S1.cells, Vc.upd, Vc.del, Zf, Vc.noV, Kd.enc, Kd.dec, Ins.cells, Ln.cells, Z5, Yc, Yn, Ya, Y0, Vc.rvs, Y6, Zc, Y4, Yx, Y3, Y5, Y9, Xa, Yk, Xe, Z8, Zw, Zb, Zu, Vc.kdL, Xm, Yz, Xf, Zq, SV.bd, Vc.S1.bd, At.bd, Value.oneCell', Int.reduceEq, Int.reduceNeg, Int.reduceLE, Int.reduceLT, Vc.lenOf, Yl, Xc, Z4, Vc.atK, Z6, Vc.unK, Vc.wfK, Yh, Yd, Yg, Zp, Yb, Z9, Zr, Ys, Vc.sg, Yw, Y2, Y7, Y8, Z3, Res.own, At.sub, Vc.S1.sub, SV.sub, Res.sub, Xi, Xo, Yt, Yp, Ym, Vc.frS, Kd.sz, Nat.reduceSub, ↓reduceIte, reduceCtorEq, Nat.reduceEqDiff, Nat.reduceAdd, Nat.reduceMul, Nat.reduceLeDiff, Nat.reduceLT, Nat.reduceBEq, Nat.reduceBNe, implies_true, Xp, X1.rs, X1.res, h2, h3, h0]
end Go.Proofs.YtccjjcdjgibilaaDoor
namespace Go.Proofs.YtccjjcdjgibilaaDoor
open Go Go.RowKit Vc
set_option linter.unusedVariables false
set_option linter.unusedSimpArgs false
attribute [local irreducible] T Z2 Wd Ent RdC RwC Up Ye Xt
set_option maxHeartbeats 4000000 in
theorem Pn (l : List Ln) (hf : l.length ≤ 9223372036854775807) :
    RdC Tryd.prog 18 [.ro .line l, .ro .line l] (.one (.a (.bool true))) := by
  refine Wp.fn.rd (by simp) (by repeat' (first | exact rfl | exact trivial | refine And.intro ?_ ?_ | (simp [SV.bd, Vc.S1.bd, At.bd, Zq, Yv, Ins.cells, Ln.cells]; done))) (by repeat' (first | exact rfl | exact trivial | refine And.intro ?_ ?_ | (simp [SV.bd, Vc.S1.bd, At.bd, Zq, Yv, Ins.cells, Ln.cells]; done))) fun w => ?_
  repeat' (first | ((first | (with_reducible first | refine T.regs ?_ | refine T.cond ?_ | refine T.reg ?_ | refine T.ret ?_ | refine T.exit ?_ | refine T.skip ?_) | ((with_reducible first | refine T.dregs ?_ ?_ | refine T.dreg ?_ ?_ | refine T.dregts ?_ ?_ | refine T.dregt ?_ ?_ | refine T.danys ?_ ?_ | refine T.dany ?_ ?_); exact mix)); simp only [Yf, Zz, Z1, Vc.exK, Zm, Zj, Zg, Zh, Zx, Xn, Y1, Z0, Zl, Zi, Zy, Zk, Zn, Xk, Z7, Xj, Vc.ev, Vc.st, Vc.stq, Vc.gst, Xh, St.rd, St.get, St.put, St.find, Zd, St.new, Vc.gdc, Zs, Yr, Yo, Yq, Xg, Zv, Zt, Yj, Yi, Vc.S1.cells, Vc.upd, Vc.del, Zf, Vc.noV, Kd.enc, Kd.dec, Ins.cells, Ln.cells, Z5, Yc, Yn, Ya, Y0, Vc.rvs, Y6, Zc, Y4, Yx, Y3, Y5, Y9, Xa, Yk, Xe, Z8, Zw, Zb, Zu, Vc.kdL, Xm, Yz, Xf, Zq, SV.bd, Vc.S1.bd, At.bd, Value.oneCell', Int.reduceEq, Int.reduceNeg, Int.reduceLE, Int.reduceLT, Vc.lenOf, Yl, Xc, Z4, Vc.atK, Z6, Vc.unK, Vc.wfK, Yh, Yd, Yg, Zp, Yb, Z9, Zr, Ys, Vc.sg, Yw, Y2, Y7, Y8, Z3, Res.own, At.sub, Vc.S1.sub, SV.sub, Res.sub, Xi, Xo, Yt, Yp, Ym, Vc.frS, Kd.sz, Nat.reduceSub, ↓reduceIte, reduceCtorEq, Nat.reduceEqDiff, Nat.reduceAdd, Nat.reduceMul, Nat.reduceLeDiff, Nat.reduceLT, Nat.reduceBEq, Nat.reduceBNe, implies_true, Xp, Wp.rs, Wp.res]) | (with_reducible first | refine T.seq ?_ | refine T.block ?_ | assumption | refine And.intro ?_ ?_) | (intro h; first | (exfalso; omega) | exact (tf h ‹_›).elim | exact (tf ‹_› h).elim | skip))
  all_goals first | omega | skip
  refine T.loop (ι := { k : Nat // k ≤ l.length })
    (fun x => ⟨[(13, .one (.a (.int .i64 (x.1 : Int)))), (12, .one (.a (.int .i64 l.length))), (1, .one (.a (.ref 1))), (0, .one (.a (.ref 0)))], [(0, .ro .line l), (1, .ro .line l)], 2⟩)
    (fun x => l.length - x.1) ⟨0, by simp⟩ (Ent.mk (id) (by simp [Za, Ze, Vc.bnd, St.get, St.find, Zd, SV.ren, Vc.S1.ren, At.ren, Res.ren, SV.bd, Vc.S1.bd, At.bd, Res.bd, Vc.upd, Vc.del, Kd.enc, Value.oneCell']) (by simp [Za, Ze, Vc.bnd, St.get, St.find, Zd, SV.ren, Vc.S1.ren, At.ren, Res.ren, SV.bd, Vc.S1.bd, At.bd, Res.bd, Vc.upd, Vc.del, Kd.enc, Value.oneCell']) (by simp [Za, Ze, Vc.bnd, St.get, St.find, Zd, SV.ren, Vc.S1.ren, At.ren, Res.ren, SV.bd, Vc.S1.bd, At.bd, Res.bd, Vc.upd, Vc.del, Kd.enc, Value.oneCell']) (by simp [Za, Ze, Vc.bnd, St.get, St.find, Zd, SV.ren, Vc.S1.ren, At.ren, Res.ren, SV.bd, Vc.S1.bd, At.bd, Res.bd, Vc.upd, Vc.del, Kd.enc, Value.oneCell'])) ?_
  rintro ⟨k, hk⟩
  by_cases hlt : k < l.length
  · have hw : IntKind.i64.wrap ((k : Int) + 1) = ((k + 1 : Nat) : Int) := We (by omega)
    have ht : ((k : Int)).toNat = k := by omega
    repeat' (first | ((first | (with_reducible first | refine T.regs ?_ | refine T.cond ?_ | refine T.reg ?_ | refine T.ret ?_ | refine T.exit ?_ | refine T.skip ?_) | ((with_reducible first | refine T.dregs ?_ ?_ | refine T.dreg ?_ ?_ | refine T.dregts ?_ ?_ | refine T.dregt ?_ ?_ | refine T.danys ?_ ?_ | refine T.dany ?_ ?_); exact mix)); simp only [Yf, Zz, Z1, Vc.exK, Zm, Zj, Zg, Zh, Zx, Xn, Y1, Z0, Zl, Zi, Zy, Zk, Zn, Xk, Z7, Xj, Vc.ev, Vc.st, Vc.stq, Vc.gst, Xh, St.rd, St.get, St.put, St.find, Zd, St.new, Vc.gdc, Zs, Yr, Yo, Yq, Xg, Zv, Zt, Yj, Yi, Vc.S1.cells, Vc.upd, Vc.del, Zf, Vc.noV, Kd.enc, Kd.dec, Ins.cells, Ln.cells, Z5, Yc, Yn, Ya, Y0, Vc.rvs, Y6, Zc, Y4, Yx, Y3, Y5, Y9, Xa, Yk, Xe, Z8, Zw, Zb, Zu, Vc.kdL, Xm, Yz, Xf, Zq, SV.bd, Vc.S1.bd, At.bd, Value.oneCell', Int.reduceEq, Int.reduceNeg, Int.reduceLE, Int.reduceLT, Vc.lenOf, Yl, Xc, Z4, Vc.atK, Z6, Vc.unK, Vc.wfK, Yh, Yd, Yg, Zp, Yb, Z9, Zr, Ys, Vc.sg, Yw, Y2, Y7, Y8, Z3, Res.own, At.sub, Vc.S1.sub, SV.sub, Res.sub, Xi, Xo, Yt, Yp, Ym, Vc.frS, Kd.sz, Nat.reduceSub, ↓reduceIte, reduceCtorEq, Nat.reduceEqDiff, Nat.reduceAdd, Nat.reduceMul, Nat.reduceLeDiff, Nat.reduceLT, Nat.reduceBEq, Nat.reduceBNe, implies_true, Xp, Wp.rs, Wp.res, hw, ht, Int.ofNat_lt]) | (with_reducible first | refine T.seq ?_ | refine T.block ?_ | assumption | refine And.intro ?_ ?_) | (intro h; first | (exfalso; omega) | exact (tf h ‹_›).elim | exact (tf ‹_› h).elim | skip))
    all_goals first | omega | skip
    exact ⟨⟨k + 1, hlt⟩, (Ent.mk (id) (by simp [Za, Ze, Vc.bnd, St.get, St.find, Zd, SV.ren, Vc.S1.ren, At.ren, Res.ren, SV.bd, Vc.S1.bd, At.bd, Res.bd, Vc.upd, Vc.del, Kd.enc, Value.oneCell', hw]) (by simp [Za, Ze, Vc.bnd, St.get, St.find, Zd, SV.ren, Vc.S1.ren, At.ren, Res.ren, SV.bd, Vc.S1.bd, At.bd, Res.bd, Vc.upd, Vc.del, Kd.enc, Value.oneCell', hw]) (by simp [Za, Ze, Vc.bnd, St.get, St.find, Zd, SV.ren, Vc.S1.ren, At.ren, Res.ren, SV.bd, Vc.S1.bd, At.bd, Res.bd, Vc.upd, Vc.del, Kd.enc, Value.oneCell', hw]) (by simp [Za, Ze, Vc.bnd, St.get, St.find, Zd, SV.ren, Vc.S1.ren, At.ren, Res.ren, SV.bd, Vc.S1.bd, At.bd, Res.bd, Vc.upd, Vc.del, Kd.enc, Value.oneCell', hw])), by simp only; omega⟩
  · have hk2 : k = l.length := by omega
    repeat' (first | ((first | (with_reducible first | refine T.regs ?_ | refine T.cond ?_ | refine T.reg ?_ | refine T.ret ?_ | refine T.exit ?_ | refine T.skip ?_) | ((with_reducible first | refine T.dregs ?_ ?_ | refine T.dreg ?_ ?_ | refine T.dregts ?_ ?_ | refine T.dregt ?_ ?_ | refine T.danys ?_ ?_ | refine T.dany ?_ ?_); exact mix)); simp only [Yf, Zz, Z1, Vc.exK, Zm, Zj, Zg, Zh, Zx, Xn, Y1, Z0, Zl, Zi, Zy, Zk, Zn, Xk, Z7, Xj, Vc.ev, Vc.st, Vc.stq, Vc.gst, Xh, St.rd, St.get, St.put, St.find, Zd, St.new, Vc.gdc, Zs, Yr, Yo, Yq, Xg, Zv, Zt, Yj, Yi, Vc.S1.cells, Vc.upd, Vc.del, Zf, Vc.noV, Kd.enc, Kd.dec, Ins.cells, Ln.cells, Z5, Yc, Yn, Ya, Y0, Vc.rvs, Y6, Zc, Y4, Yx, Y3, Y5, Y9, Xa, Yk, Xe, Z8, Zw, Zb, Zu, Vc.kdL, Xm, Yz, Xf, Zq, SV.bd, Vc.S1.bd, At.bd, Value.oneCell', Int.reduceEq, Int.reduceNeg, Int.reduceLE, Int.reduceLT, Vc.lenOf, Yl, Xc, Z4, Vc.atK, Z6, Vc.unK, Vc.wfK, Yh, Yd, Yg, Zp, Yb, Z9, Zr, Ys, Vc.sg, Yw, Y2, Y7, Y8, Z3, Res.own, At.sub, Vc.S1.sub, SV.sub, Res.sub, Xi, Xo, Yt, Yp, Ym, Vc.frS, Kd.sz, Nat.reduceSub, ↓reduceIte, reduceCtorEq, Nat.reduceEqDiff, Nat.reduceAdd, Nat.reduceMul, Nat.reduceLeDiff, Nat.reduceLT, Nat.reduceBEq, Nat.reduceBNe, implies_true, Xp, Wp.rs, Wp.res, hk2, Int.ofNat_lt]) | (with_reducible first | refine T.seq ?_ | refine T.block ?_ | assumption | refine And.intro ?_ ?_) | (intro h; first | (exfalso; omega) | exact (tf h ‹_›).elim | exact (tf ‹_› h).elim | skip))
    all_goals first | omega | skip
theorem Q2 : ∀ (l : List (List UInt8)) (k : Nat) (acc : List Ln), (U1 l k acc).1.length ≤ acc.length + l.length
  | [], _, acc => by simp [U1]
  | s :: l, k, acc => by
    rw [Tk]
    split
    · simp
    · split
      · have := Q2 l (k + 1) (acc ++ [(lineT s).1])
        simp only [List.length_append, List.length_cons, List.length_nil] at this ⊢; omega
      · have := Q2 l (k + 1) acc
        simp only [List.length_cons]; omega
theorem Q6 (t : List UInt8) : (readS t).1.length ≤ 40000 := by
  unfold readS
  split
  · simp
  · split
    · simp
    · have := Q2 (linesS t) 0 []
      simp only [List.length_nil] at this; omega
set_option maxHeartbeats 16000000 in
set_option maxRecDepth 100000 in
theorem AsmReads_gcp {G : Nat} {H : Nat → Option Obj} (hM : R6 G H) (t : List UInt8) (hs : t.length ≤ 9223372036854775807) :
    GCp G H Tryd.prog 4 [.a (.str t)] [] 0 [] (.one (.a (.bool true))) [] 0 := by
  refine W8.fn.gcp (by simp) (by simp [U4, Td, U8, W4, Wt, Vc.S1.okN, At.okN, SV.okN, Res.okN, Res.outOk, Zd, Res.own, Value.oneCell']) fun w X fr hglob => ?_
  have hA := Sb hM t hs
  have hB := Ly t hs
  have hl := Q6 t
  generalize readS t = R at *
  have hS := Pn R.1 (by omega)
  repeat' (first | ((first | (with_reducible first | refine T.regs ?_ | refine T.cond ?_ | refine T.reg ?_ | refine T.ret ?_ | refine T.exit ?_ | refine T.skip ?_) | ((with_reducible first | refine T.dregs ?_ ?_ | refine T.dreg ?_ ?_ | refine T.dregts ?_ ?_ | refine T.dregt ?_ ?_ | refine T.danys ?_ ?_ | refine T.dany ?_ ?_); exact mix) | ((with_reducible refine Z2.gcp hglob (hA) ?_ ?_); (focus ((simp [X3, Wl, Vc.mtR, Vc.roA, Vc.roM, Wk, Wm, Wh, Wj, Wf, Vc.fnM, Z5, St.find, Zd, Vc.del, Z3, Res.own, Vc.sg, Yh, Yd, Yg, Zp, Z9, Zr, At.sub, Vc.S1.sub, Res.sub, Kd.enc, Ins.cells, Ln.cells, Value.oneCell', X2, List.nodup_cons]); done))) | ((with_reducible apply Z2.rw (hB)); (focus ((repeat' (first | exact rfl | exact trivial | refine And.intro ?_ ?_ | (simp [SV.bd, Vc.S1.bd, At.bd, Zq, Yv, Ins.cells, Ln.cells]; done))); done))) | ((with_reducible first | apply Z2.rd (hS) | apply Ye.rd (hS)); (focus ((repeat' (first | exact rfl | exact trivial | refine And.intro ?_ ?_ | (simp [SV.bd, Vc.S1.bd, At.bd, Zq, Yv, Ins.cells, Ln.cells]; done))); done))) | (with_reducible refine Ye.split ?_ ?_) | (with_reducible refine Xt.no ?_)) <;> simp only [Yf, Zz, Z1, Vc.exK, Zm, Zj, Zg, Zh, Zx, Xn, Y1, Z0, Zl, Zi, Zy, Zk, Zn, Xk, Z7, Xj, Vc.ev, Vc.st, Vc.stq, Vc.gst, Xh, St.rd, St.get, St.put, St.find, Zd, St.new, Vc.gdc, Zs, Yr, Yo, Yq, Xg, Zv, Zt, Yj, Yi, Vc.S1.cells, Vc.upd, Vc.del, Zf, Vc.noV, Kd.enc, Kd.dec, Ins.cells, Ln.cells, Z5, Yc, Yn, Ya, Y0, Vc.rvs, Y6, Zc, Y4, Yx, Y3, Y5, Y9, Xa, Yk, Xe, Z8, Zw, Zb, Zu, Vc.kdL, Xm, Yz, Xf, Zq, SV.bd, Vc.S1.bd, At.bd, Value.oneCell', Int.reduceEq, Int.reduceNeg, Int.reduceLE, Int.reduceLT, Vc.lenOf, Yl, Xc, Z4, Vc.atK, Z6, Vc.unK, Vc.wfK, Yh, Yd, Yg, Zp, Yb, Z9, Zr, Ys, Vc.sg, Yw, Y2, Y7, Y8, Z3, Res.own, At.sub, Vc.S1.sub, SV.sub, Res.sub, Xi, Xo, Yt, Yp, Ym, Vc.frS, Kd.sz, Nat.reduceSub, ↓reduceIte, reduceCtorEq, Nat.reduceEqDiff, Nat.reduceAdd, Nat.reduceMul, Nat.reduceLeDiff, Nat.reduceLT, Nat.reduceBEq, Nat.reduceBNe, implies_true, Xp, W8.rs, W8.res]) | (with_reducible first | refine T.seq ?_ | refine T.block ?_ | assumption | refine And.intro ?_ ?_) | (intro h; first | (exfalso; omega) | exact (tf h ‹_›).elim | exact (tf ‹_› h).elim | skip))
  all_goals first | omega | skip
end Go.Proofs.YtccjjcdjgibilaaDoor
