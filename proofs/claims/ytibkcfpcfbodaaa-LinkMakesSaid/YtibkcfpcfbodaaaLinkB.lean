/-
  A part of the proofs of this seat's laws: a step on the way. It has no conditions of its own.
-/
import Derived.Test.YtibkcfpcfbodaaaLinkA
namespace Go.Proofs.Ytibkcfpcfbodaaa
open Go.RowKit Vc
set_option linter.unusedVariables false
set_option linter.unusedSimpArgs false
attribute [local irreducible] T Yi X9 Ent RdC RwC Tw Yu Xv
def M2 (s : Spot) : Prop := (0 ≤ s.at_ ∧ s.at_ ≤ 65536) ∧ Uu s.name = true ∧ s.name ≠ []
theorem P5 : ∀ (l : List Ln) (k : Nat) (a : Int) (seen : List (List UInt8)) (acc : List Spot), 0 ≤ a → a ≤ 65536 → (∀ s ∈ acc, M2 s) → (∀ s ∈ (Wy l k a seen acc).1, M2 s) ∧ (Wy l k a seen acc).1.length ≤ acc.length + l.length ∧ 0 ≤ (Wy l k a seen acc).2.1 ∧ (Wy l k a seen acc).2.1 ≤ 65536
  | [], k, a, seen, acc, h0, h1, h => ⟨h, Nat.le_refl _, h0, h1⟩
  | x :: l, k, a, seen, acc, h0, h1, h => by
    unfold Wy
    have hle := Sn x
    split
    · simp
    · rename_i hw
      have hw' : Vj x = 0 := by simpa using hw
      split
      · rename_i hlb
        split
        · simp
        · obtain ⟨g1, g2, g3⟩ := P5 l (k + 1) a (x.label :: seen) (acc ++ [⟨x.label, a⟩]) h0 h1 (fun s hs => by
            rcases List.mem_append.1 hs with hs | hs
            · exact h s hs
            · simp only [List.mem_singleton] at hs; subst hs
              exact ⟨⟨h0, h1⟩, (Sg hw' hlb).1, hlb⟩)
          refine ⟨g1, ?_, g3⟩
          simp only [List.length_append, List.length_cons, List.length_nil] at g2 ⊢; omega
      · split
        · simp
        · obtain ⟨g1, g2, g3⟩ := P5 l (k + 1) (a + W9 x) seen acc (by omega) (by omega) h
          refine ⟨g1, ?_, g3⟩
          simp only [List.length_cons]; omega
theorem Qf (l : List Ln) (a : Int) (h0 : 0 ≤ a) (h1 : a ≤ 65536) : (∀ s ∈ (Xr l a).1, M2 s) ∧ (Xr l a).1.length ≤ l.length ∧ 0 ≤ (Xr l a).2.1 ∧ (Xr l a).2.1 ≤ 65536 := by
  have := P5 l 0 a [] [] h0 h1 (by simp)
  simpa [Xr] using this
@[reducible] def Own : Type := List UInt8 → Option (Kd.ty (.int .i64))
def Wr : Own := fun _ => none
theorem V3 : (fun _ => none) = Wr := rfl
def Vo (u : Int) : List Spot → Own → Option Own
  | [], f => some f
  | s :: l, f => if W2 s.name = true then Vo u l f else if (f s.name).isSome = true then none else Vo u l fun t => if t = s.name then some u else f t
def Vp : List (List UInt8 × List Ln) → Nat → Own → Own × Int × Int
  | [], _, f => (f, 0, 0)
  | u :: l, k, f => if 40000 < u.2.length then (Wr, 5, k) else if (Xr u.2 0).2.2.1 ≠ 0 then (Wr, (Xr u.2 0).2.2.1, k) else
      match Vo k (Xr u.2 0).1 f with
      | none => (Wr, 7, k)
      | some f' => Vp l (k + 1) f'
def Yw (l : List (List UInt8 × List Ln)) : Own × Int × Int := if 400 < l.length then (Wr, 5, 0) else Vp l 0 Wr
def chV (l : List (List UInt8 × List Ln)) : SV := if (Yw l).2.1 = 0 then .tup [.a (.ref 1), .agg [.int .i64 0, .int .i64 0]] else .tup [.a (.raw (.map none)), .agg [.int .i64 (Yw l).2.1, .int .i64 (Yw l).2.2]]
noncomputable def chR (l : List (List UInt8 × List Ln)) : List (Nat × Res) := if (Yw l).2.1 = 0 then [(1, .smap Try.prog 9 3 (.int .i64) (Yw l).1 16000000)] else []
theorem Kk {l : List (List UInt8 × List Ln)} {e k : Int} {f : Own} (h : Yw l = (f, e, k)) (he : e ≠ 0) : chV l = .tup [.a (.raw (.map none)), .agg [.int .i64 e, .int .i64 k]] ∧ chR l = [] := by
  unfold chV chR; rw [h]; simp [he]
theorem ch_ok {l : List (List UInt8 × List Ln)} {k : Int} {f : Own} (h : Yw l = (f, 0, k)) : chV l = .tup [.a (.ref 1), .agg [.int .i64 0, .int .i64 0]] ∧ chR l = [(1, .smap Try.prog 9 3 (.int .i64) f 16000000)] := by
  unfold chV chR; rw [h]; simp
set_option maxHeartbeats 4000000 in
theorem Kw (l : List (List UInt8 × List Ln)) (hf : N0 l) :
    GC Try.prog 19 [.a (.ref 0)] [(0, .rou l)] 1 [] (chV l) (chR l) 2 := by
  refine X2.fn.gc (by simp) (by
    unfold chV chR
    by_cases h : (Yw l).2.1 = 0
    · rw [if_pos h, if_pos h]; exact (by simp [R4, Ro, Rk, V5, Vh, Vc.S1.okN, At.okN, SV.okN, Res.okN, Res.outOk, Zf, Res.own, Value.oneCell'])
    · rw [if_neg h, if_neg h]; exact (by simp [R4, Ro, Rk, V5, Vh, Vc.S1.okN, At.okN, SV.okN, Res.okN, Res.outOk, Zf, Res.own, Value.oneCell'])) fun w X fr => ?_
  by_cases hbig : 400 < l.length
  · have e : Yw l = (Wr, 5, 0) := if_pos hbig
    obtain ⟨e1, e2⟩ := Kk e (by decide)
    rw [e1, e2]
    repeat' (first | ((first | (with_reducible first | refine T.regs ?_ | refine T.cond ?_ | refine T.reg ?_ | refine T.ret ?_ | refine T.exit ?_ | refine T.skip ?_) | ((with_reducible first | refine T.dregs ?_ ?_ | refine T.dreg ?_ ?_ | refine T.dregts ?_ ?_ | refine T.dregt ?_ ?_ | refine T.danys ?_ ?_ | refine T.dany ?_ ?_); exact mix)); simp only [Z9, Zw, Zz, Vc.exK, Zn, Zm, Zi, Zh, Zv, Xo, Y2, Zy, Zk, Zj, Zx, Zo, Zl, Xm, Z4, Xk, Vc.ev, Vc.st, Vc.stq, Vc.gst, Xh, St.rd, St.get, St.put, St.find, Zf, St.new, Vc.gdc, Zp, Yo, Yr, Yq, Xg, Zt, Zr, Yj, Yg, Vc.S1.cells, Vc.upd, Vc.del, Zg, Vc.noV, Kd.enc, Kd.dec, Ins.cells, Ln.cells, Yb, Z6, Yn, Z7, Y4, Vc.rvs, Xa, Ze, Y6, Y0, Y5, Y7, Y9, Xb, Yk, Xf, Z5, Zu, Zc, Zs, Y1, Xe, Zq, SV.bd, Vc.S1.bd, At.bd, Value.oneCell', Int.reduceEq, Int.reduceNeg, Int.reduceLE, Int.reduceLT, Vc.lenOf, Yl, Xd, Z2, Vc.atK, Z3, Vc.unK, Vc.wfK, Yf, Yc, Ye, Z0, Z8, Yd, Z1, Ys, Vc.sg, Yz, Y3, Xc, Y8, Ya, Res.own, At.sub, Vc.S1.sub, SV.sub, Res.sub, Xi, Xn, Yt, Yp, Ym, Vc.frS, Kd.sz, Nat.reduceSub, ↓reduceIte, reduceCtorEq, Nat.reduceEqDiff, Nat.reduceAdd, Nat.reduceMul, Nat.reduceLeDiff, Nat.reduceLT, Nat.reduceBEq, Nat.reduceBNe, implies_true, Xp, X2.rs, X2.res]) | (with_reducible first | refine T.seq ?_ | refine T.block ?_ | assumption | refine And.intro ?_ ?_) | (intro h; first | (exfalso; omega) | exact (tf h ‹_›).elim | exact (tf ‹_› h).elim | skip))
    all_goals first | omega | skip
  have e : Yw l = Vp l 0 Wr := if_neg hbig
  repeat' (first | ((first | (with_reducible first | refine T.regs ?_ | refine T.cond ?_ | refine T.reg ?_ | refine T.ret ?_ | refine T.exit ?_ | refine T.skip ?_) | ((with_reducible first | refine T.dregs ?_ ?_ | refine T.dreg ?_ ?_ | refine T.dregts ?_ ?_ | refine T.dregt ?_ ?_ | refine T.danys ?_ ?_ | refine T.dany ?_ ?_); exact mix)); simp only [Z9, Zw, Zz, Vc.exK, Zn, Zm, Zi, Zh, Zv, Xo, Y2, Zy, Zk, Zj, Zx, Zo, Zl, Xm, Z4, Xk, Vc.ev, Vc.st, Vc.stq, Vc.gst, Xh, St.rd, St.get, St.put, St.find, Zf, St.new, Vc.gdc, Zp, Yo, Yr, Yq, Xg, Zt, Zr, Yj, Yg, Vc.S1.cells, Vc.upd, Vc.del, Zg, Vc.noV, Kd.enc, Kd.dec, Ins.cells, Ln.cells, Yb, Z6, Yn, Z7, Y4, Vc.rvs, Xa, Ze, Y6, Y0, Y5, Y7, Y9, Xb, Yk, Xf, Z5, Zu, Zc, Zs, Y1, Xe, Zq, SV.bd, Vc.S1.bd, At.bd, Value.oneCell', Int.reduceEq, Int.reduceNeg, Int.reduceLE, Int.reduceLT, Vc.lenOf, Yl, Xd, Z2, Vc.atK, Z3, Vc.unK, Vc.wfK, Yf, Yc, Ye, Z0, Z8, Yd, Z1, Ys, Vc.sg, Yz, Y3, Xc, Y8, Ya, Res.own, At.sub, Vc.S1.sub, SV.sub, Res.sub, Xi, Xn, Yt, Yp, Ym, Vc.frS, Kd.sz, Nat.reduceSub, ↓reduceIte, reduceCtorEq, Nat.reduceEqDiff, Nat.reduceAdd, Nat.reduceMul, Nat.reduceLeDiff, Nat.reduceLT, Nat.reduceBEq, Nat.reduceBNe, implies_true, Xp, X2.rs, X2.res]) | (with_reducible first | refine T.seq ?_ | refine T.block ?_ | assumption | refine And.intro ?_ ?_) | (intro h; first | (exfalso; omega) | exact (tf h ‹_›).elim | exact (tf ‹_› h).elim | skip))
  all_goals first | omega | skip
  refine T.loop (ι := { p : Nat × Own × Nat // p.1 ≤ l.length ∧ Vp (l.drop p.1) p.1 p.2.1 = Yw l ∧ p.2.2 ≤ 40000 * p.1 })
    (fun x => ⟨[(21, .one (.a (.int .i64 (x.1.1 : Int)))), (20, .one (.a (.int .i64 l.length))), (19, .one (.a (.ref 0))), (4, .one (.a (.ref 2))), (3, .one (.a (.loc 1 0)))],
      [(2, .smap Try.prog 9 3 (.int .i64) x.1.2.1 x.1.2.2), (1, .cells 29 [.int .i64 0, .int .i64 0]), (0, .rou l)], 3⟩)
    (fun x => l.length - x.1.1) ⟨(0, Wr, 0), by simp, by simp [e], by simp⟩ (Ent.mk (id) (by simp [Za, Zb, Vc.bnd, St.get, St.find, Zf, SV.ren, Vc.S1.ren, At.ren, Res.ren, SV.bd, Vc.S1.bd, At.bd, Res.bd, Vc.upd, Vc.del, Kd.enc, Value.oneCell', V3]) (by simp [Za, Zb, Vc.bnd, St.get, St.find, Zf, SV.ren, Vc.S1.ren, At.ren, Res.ren, SV.bd, Vc.S1.bd, At.bd, Res.bd, Vc.upd, Vc.del, Kd.enc, Value.oneCell', V3]) (by simp [Za, Zb, Vc.bnd, St.get, St.find, Zf, SV.ren, Vc.S1.ren, At.ren, Res.ren, SV.bd, Vc.S1.bd, At.bd, Res.bd, Vc.upd, Vc.del, Kd.enc, Value.oneCell', V3]) (by simp [Za, Zb, Vc.bnd, St.get, St.find, Zf, SV.ren, Vc.S1.ren, At.ren, Res.ren, SV.bd, Vc.S1.bd, At.bd, Res.bd, Vc.upd, Vc.del, Kd.enc, Value.oneCell', V3])) ?_
  rintro ⟨⟨k, f, n⟩, hk, hrun, hn⟩
  simp only at hk hrun hn
  by_cases hlt : k < l.length
  · have hdrop : l.drop k = l.getD k Vr :: l.drop (k + 1) := by
      rw [List.drop_eq_getElem_cons hlt]; simp [List.getD, hlt]
    generalize hx : l.getD k Vr = u at hdrop
    have hx' : l.getD k ([], []) = u := hx
    rw [hdrop] at hrun
    simp only [Vp] at hrun
    have hw : IntKind.i64.wrap ((k : Int) + 1) = ((k + 1 : Nat) : Int) := Wf (by omega)
    have ht : ((k : Int)).toNat = k := by omega
    by_cases hul : 40000 < u.2.length
    · rw [if_pos hul] at hrun
      obtain ⟨e1, e2⟩ := Kk hrun.symm (by decide)
      rw [e1, e2]
      repeat' (first | ((first | (with_reducible first | refine T.regs ?_ | refine T.cond ?_ | refine T.reg ?_ | refine T.ret ?_ | refine T.exit ?_ | refine T.skip ?_) | ((with_reducible first | refine T.dregs ?_ ?_ | refine T.dreg ?_ ?_ | refine T.dregts ?_ ?_ | refine T.dregt ?_ ?_ | refine T.danys ?_ ?_ | refine T.dany ?_ ?_); exact mix)); simp only [Z9, Zw, Zz, Vc.exK, Zn, Zm, Zi, Zh, Zv, Xo, Y2, Zy, Zk, Zj, Zx, Zo, Zl, Xm, Z4, Xk, Vc.ev, Vc.st, Vc.stq, Vc.gst, Xh, St.rd, St.get, St.put, St.find, Zf, St.new, Vc.gdc, Zp, Yo, Yr, Yq, Xg, Zt, Zr, Yj, Yg, Vc.S1.cells, Vc.upd, Vc.del, Zg, Vc.noV, Kd.enc, Kd.dec, Ins.cells, Ln.cells, Yb, Z6, Yn, Z7, Y4, Vc.rvs, Xa, Ze, Y6, Y0, Y5, Y7, Y9, Xb, Yk, Xf, Z5, Zu, Zc, Zs, Y1, Xe, Zq, SV.bd, Vc.S1.bd, At.bd, Value.oneCell', Int.reduceEq, Int.reduceNeg, Int.reduceLE, Int.reduceLT, Vc.lenOf, Yl, Xd, Z2, Vc.atK, Z3, Vc.unK, Vc.wfK, Yf, Yc, Ye, Z0, Z8, Yd, Z1, Ys, Vc.sg, Yz, Y3, Xc, Y8, Ya, Res.own, At.sub, Vc.S1.sub, SV.sub, Res.sub, Xi, Xn, Yt, Yp, Ym, Vc.frS, Kd.sz, Nat.reduceSub, ↓reduceIte, reduceCtorEq, Nat.reduceEqDiff, Nat.reduceAdd, Nat.reduceMul, Nat.reduceLeDiff, Nat.reduceLT, Nat.reduceBEq, Nat.reduceBNe, implies_true, Xp, X2.rs, X2.res, hx', hw, ht, Int.ofNat_lt]) | (with_reducible first | refine T.seq ?_ | refine T.block ?_ | assumption | refine And.intro ?_ ?_) | (intro h; first | (exfalso; omega) | exact (tf h ‹_›).elim | exact (tf ‹_› h).elim | skip))
      all_goals first | omega | skip
    rw [if_neg hul] at hrun
    by_cases hsp : (Xr u.2 0).2.2.1 = 0
    · rw [if_neg (by simpa using hsp)] at hrun
      obtain ⟨hsok, hslen, _, _⟩ := Qf u.2 0 (by omega) (by omega)
      have hSp := Rj u.2 0 (by omega) (by omega) (by omega)
      generalize hsp1 : (Xr u.2 0).1 = sp at hrun hsok hslen hSp
      repeat' (first | ((first | (with_reducible first | refine T.regs ?_ | refine T.cond ?_ | refine T.reg ?_ | refine T.ret ?_ | refine T.exit ?_ | refine T.skip ?_) | ((with_reducible first | refine T.dregs ?_ ?_ | refine T.dreg ?_ ?_ | refine T.dregts ?_ ?_ | refine T.dregt ?_ ?_ | refine T.danys ?_ ?_ | refine T.dany ?_ ?_); exact mix) | ((with_reducible apply Yi.rw (hSp)); (focus ((repeat' (first | exact rfl | exact trivial | refine And.intro ?_ ?_ | (simp [SV.bd, Vc.S1.bd, At.bd, Zq, Yy, Ins.cells, Ln.cells]; done))); done)))); simp only [Z9, Zw, Zz, Vc.exK, Zn, Zm, Zi, Zh, Zv, Xo, Y2, Zy, Zk, Zj, Zx, Zo, Zl, Xm, Z4, Xk, Vc.ev, Vc.st, Vc.stq, Vc.gst, Xh, St.rd, St.get, St.put, St.find, Zf, St.new, Vc.gdc, Zp, Yo, Yr, Yq, Xg, Zt, Zr, Yj, Yg, Vc.S1.cells, Vc.upd, Vc.del, Zg, Vc.noV, Kd.enc, Kd.dec, Ins.cells, Ln.cells, Yb, Z6, Yn, Z7, Y4, Vc.rvs, Xa, Ze, Y6, Y0, Y5, Y7, Y9, Xb, Yk, Xf, Z5, Zu, Zc, Zs, Y1, Xe, Zq, SV.bd, Vc.S1.bd, At.bd, Value.oneCell', Int.reduceEq, Int.reduceNeg, Int.reduceLE, Int.reduceLT, Vc.lenOf, Yl, Xd, Z2, Vc.atK, Z3, Vc.unK, Vc.wfK, Yf, Yc, Ye, Z0, Z8, Yd, Z1, Ys, Vc.sg, Yz, Y3, Xc, Y8, Ya, Res.own, At.sub, Vc.S1.sub, SV.sub, Res.sub, Xi, Xn, Yt, Yp, Ym, Vc.frS, Kd.sz, Nat.reduceSub, ↓reduceIte, reduceCtorEq, Nat.reduceEqDiff, Nat.reduceAdd, Nat.reduceMul, Nat.reduceLeDiff, Nat.reduceLT, Nat.reduceBEq, Nat.reduceBNe, implies_true, Xp, X2.rs, X2.res, hx', hw, ht, hsp, Int.ofNat_lt]) | (with_reducible first | refine T.seq ?_ | refine T.block ?_ | assumption | refine And.intro ?_ ?_) | (intro h; first | (exfalso; omega) | exact (tf h ‹_›).elim | exact (tf ‹_› h).elim | skip))
      all_goals first | omega | skip
      refine T.loop (ι := { p : Nat × Own × Nat // p.1 ≤ sp.length ∧ Vo k (sp.drop p.1) p.2.1 = Vo k sp f ∧ p.2.2 ≤ 40000 * k + p.1 })
        (fun x => ⟨[(48, .one (.a (.int .i64 (x.1.1 : Int)))), (47, .one (.a (.int .i64 sp.length))), (46, .one (.a (.ref 3))), (21, .one (.a (.int .i64 (k : Int)))), (20, .one (.a (.int .i64 l.length))), (19, .one (.a (.ref 0))), (5, .one (.a (.int .i64 (k : Int)))), (4, .one (.a (.ref 2))), (3, .one (.a (.loc 1 0)))],
          [(3, .row 54 .spot sp), (2, .smap Try.prog 9 3 (.int .i64) x.1.2.1 x.1.2.2), (1, .cells 29 [.int .i64 0, .int .i64 0]), (0, .rou l)], 4⟩)
        (fun x => sp.length - x.1.1) ⟨(0, f, n), by simp, by simp, by simpa using hn⟩ (Ent.mk (fun n => if n = 3 then 5 else n) (by simp [Za, Zb, Vc.bnd, St.get, St.find, Zf, SV.ren, Vc.S1.ren, At.ren, Res.ren, SV.bd, Vc.S1.bd, At.bd, Res.bd, Vc.upd, Vc.del, Kd.enc, Value.oneCell']) (by simp [Za, Zb, Vc.bnd, St.get, St.find, Zf, SV.ren, Vc.S1.ren, At.ren, Res.ren, SV.bd, Vc.S1.bd, At.bd, Res.bd, Vc.upd, Vc.del, Kd.enc, Value.oneCell']) (by simp [Za, Zb, Vc.bnd, St.get, St.find, Zf, SV.ren, Vc.S1.ren, At.ren, Res.ren, SV.bd, Vc.S1.bd, At.bd, Res.bd, Vc.upd, Vc.del, Kd.enc, Value.oneCell']) (by simp [Za, Zb, Vc.bnd, St.get, St.find, Zf, SV.ren, Vc.S1.ren, At.ren, Res.ren, SV.bd, Vc.S1.bd, At.bd, Res.bd, Vc.upd, Vc.del, Kd.enc, Value.oneCell'])) ?_
      rintro ⟨⟨j, f', n'⟩, hj, hrun2, hn'⟩
      simp only at hj hrun2 hn'
      by_cases hlt2 : j < sp.length
      · have hdrop2 : sp.drop j = sp.getD j Sq :: sp.drop (j + 1) := by
          rw [List.drop_eq_getElem_cons hlt2]; simp [List.getD, hlt2]
        have hmem2 : sp.getD j Sq ∈ sp := by simp [List.getD, hlt2]
        generalize hy : sp.getD j Sq = y at hdrop2 hmem2
        have hy' : sp.getD j (Kd.dflt .spot) = y := hy
        obtain ⟨⟨hy0, hy1⟩, hyn, hyne⟩ := hsok y hmem2
        have hyl := T5 hyn
        rw [hdrop2] at hrun2
        simp only [Vo] at hrun2
        have hw2 : IntKind.i64.wrap ((j : Int) + 1) = ((j + 1 : Nat) : Int) := Wf (by omega)
        have ht2 : ((j : Int)).toNat = j := by omega
        cases hown : W2 y.name with
        | true =>
          rw [if_pos hown] at hrun2
          repeat' (first | ((first | (with_reducible first | refine T.regs ?_ | refine T.cond ?_ | refine T.reg ?_ | refine T.ret ?_ | refine T.exit ?_ | refine T.skip ?_) | ((with_reducible first | refine T.dregs ?_ ?_ | refine T.dreg ?_ ?_ | refine T.dregts ?_ ?_ | refine T.dregt ?_ ?_ | refine T.danys ?_ ?_ | refine T.dany ?_ ?_); exact mix) | ((with_reducible first | apply Yi.rd (Wg y.name hyne) | apply Yu.rd (Wg y.name hyne)); (focus ((repeat' (first | exact rfl | exact trivial | refine And.intro ?_ ?_ | (simp [SV.bd, Vc.S1.bd, At.bd, Zq, Yy, Ins.cells, Ln.cells]; done))); done)))); simp only [Z9, Zw, Zz, Vc.exK, Zn, Zm, Zi, Zh, Zv, Xo, Y2, Zy, Zk, Zj, Zx, Zo, Zl, Xm, Z4, Xk, Vc.ev, Vc.st, Vc.stq, Vc.gst, Xh, St.rd, St.get, St.put, St.find, Zf, St.new, Vc.gdc, Zp, Yo, Yr, Yq, Xg, Zt, Zr, Yj, Yg, Vc.S1.cells, Vc.upd, Vc.del, Zg, Vc.noV, Kd.enc, Kd.dec, Ins.cells, Ln.cells, Yb, Z6, Yn, Z7, Y4, Vc.rvs, Xa, Ze, Y6, Y0, Y5, Y7, Y9, Xb, Yk, Xf, Z5, Zu, Zc, Zs, Y1, Xe, Zq, SV.bd, Vc.S1.bd, At.bd, Value.oneCell', Int.reduceEq, Int.reduceNeg, Int.reduceLE, Int.reduceLT, Vc.lenOf, Yl, Xd, Z2, Vc.atK, Z3, Vc.unK, Vc.wfK, Yf, Yc, Ye, Z0, Z8, Yd, Z1, Ys, Vc.sg, Yz, Y3, Xc, Y8, Ya, Res.own, At.sub, Vc.S1.sub, SV.sub, Res.sub, Xi, Xn, Yt, Yp, Ym, Vc.frS, Kd.sz, Nat.reduceSub, ↓reduceIte, reduceCtorEq, Nat.reduceEqDiff, Nat.reduceAdd, Nat.reduceMul, Nat.reduceLeDiff, Nat.reduceLT, Nat.reduceBEq, Nat.reduceBNe, implies_true, Xp, X2.rs, X2.res, hy', hw2, ht2, hown, Int.ofNat_lt]) | (with_reducible first | refine T.seq ?_ | refine T.block ?_ | assumption | refine And.intro ?_ ?_) | (intro h; first | (exfalso; omega) | exact (tf h ‹_›).elim | exact (tf ‹_› h).elim | skip))
          all_goals first | omega | skip
          exact ⟨⟨(j + 1, f', n'), hlt2, hrun2, by simp only; omega⟩, (Ent.mk (id) (by simp [Za, Zb, Vc.bnd, St.get, St.find, Zf, SV.ren, Vc.S1.ren, At.ren, Res.ren, SV.bd, Vc.S1.bd, At.bd, Res.bd, Vc.upd, Vc.del, Kd.enc, Value.oneCell', hw2]) (by simp [Za, Zb, Vc.bnd, St.get, St.find, Zf, SV.ren, Vc.S1.ren, At.ren, Res.ren, SV.bd, Vc.S1.bd, At.bd, Res.bd, Vc.upd, Vc.del, Kd.enc, Value.oneCell', hw2]) (by simp [Za, Zb, Vc.bnd, St.get, St.find, Zf, SV.ren, Vc.S1.ren, At.ren, Res.ren, SV.bd, Vc.S1.bd, At.bd, Res.bd, Vc.upd, Vc.del, Kd.enc, Value.oneCell', hw2]) (by simp [Za, Zb, Vc.bnd, St.get, St.find, Zf, SV.ren, Vc.S1.ren, At.ren, Res.ren, SV.bd, Vc.S1.bd, At.bd, Res.bd, Vc.upd, Vc.del, Kd.enc, Value.oneCell', hw2])), by simp only; omega⟩
        | false =>
          rw [if_neg (by simp [hown])] at hrun2
          cases hfy : f' y.name with
          | some v =>
            rw [if_pos (by rw [hfy]; rfl)] at hrun2
            rw [← hrun2] at hrun
            simp only at hrun
            obtain ⟨e1, e2⟩ := Kk hrun.symm (by decide)
            rw [e1, e2]
            repeat' (first | ((first | (with_reducible first | refine T.regs ?_ | refine T.cond ?_ | refine T.reg ?_ | refine T.ret ?_ | refine T.exit ?_ | refine T.skip ?_) | ((with_reducible first | refine T.dregs ?_ ?_ | refine T.dreg ?_ ?_ | refine T.dregts ?_ ?_ | refine T.dregt ?_ ?_ | refine T.danys ?_ ?_ | refine T.dany ?_ ?_); exact mix) | ((with_reducible first | apply Yi.rd (Wg y.name hyne) | apply Yu.rd (Wg y.name hyne)); (focus ((repeat' (first | exact rfl | exact trivial | refine And.intro ?_ ?_ | (simp [SV.bd, Vc.S1.bd, At.bd, Zq, Yy, Ins.cells, Ln.cells]; done))); done)))); simp only [Z9, Zw, Zz, Vc.exK, Zn, Zm, Zi, Zh, Zv, Xo, Y2, Zy, Zk, Zj, Zx, Zo, Zl, Xm, Z4, Xk, Vc.ev, Vc.st, Vc.stq, Vc.gst, Xh, St.rd, St.get, St.put, St.find, Zf, St.new, Vc.gdc, Zp, Yo, Yr, Yq, Xg, Zt, Zr, Yj, Yg, Vc.S1.cells, Vc.upd, Vc.del, Zg, Vc.noV, Kd.enc, Kd.dec, Ins.cells, Ln.cells, Yb, Z6, Yn, Z7, Y4, Vc.rvs, Xa, Ze, Y6, Y0, Y5, Y7, Y9, Xb, Yk, Xf, Z5, Zu, Zc, Zs, Y1, Xe, Zq, SV.bd, Vc.S1.bd, At.bd, Value.oneCell', Int.reduceEq, Int.reduceNeg, Int.reduceLE, Int.reduceLT, Vc.lenOf, Yl, Xd, Z2, Vc.atK, Z3, Vc.unK, Vc.wfK, Yf, Yc, Ye, Z0, Z8, Yd, Z1, Ys, Vc.sg, Yz, Y3, Xc, Y8, Ya, Res.own, At.sub, Vc.S1.sub, SV.sub, Res.sub, Xi, Xn, Yt, Yp, Ym, Vc.frS, Kd.sz, Nat.reduceSub, ↓reduceIte, reduceCtorEq, Nat.reduceEqDiff, Nat.reduceAdd, Nat.reduceMul, Nat.reduceLeDiff, Nat.reduceLT, Nat.reduceBEq, Nat.reduceBNe, implies_true, Xp, X2.rs, X2.res, hy', hw2, ht2, hown, hfy, Int.ofNat_lt]) | (with_reducible first | refine T.seq ?_ | refine T.block ?_ | assumption | refine And.intro ?_ ?_) | (intro h; first | (exfalso; omega) | exact (tf h ‹_›).elim | exact (tf ‹_› h).elim | skip))
            all_goals first | omega | skip
          | none =>
            rw [if_neg (by rw [hfy]; simp)] at hrun2
            repeat' (first | ((first | (with_reducible first | refine T.regs ?_ | refine T.cond ?_ | refine T.reg ?_ | refine T.ret ?_ | refine T.exit ?_ | refine T.skip ?_) | ((with_reducible first | refine T.dregs ?_ ?_ | refine T.dreg ?_ ?_ | refine T.dregts ?_ ?_ | refine T.dregt ?_ ?_ | refine T.danys ?_ ?_ | refine T.dany ?_ ?_); exact mix) | ((with_reducible first | apply Yi.rd (Wg y.name hyne) | apply Yu.rd (Wg y.name hyne)); (focus ((repeat' (first | exact rfl | exact trivial | refine And.intro ?_ ?_ | (simp [SV.bd, Vc.S1.bd, At.bd, Zq, Yy, Ins.cells, Ln.cells]; done))); done)))); simp only [Z9, Zw, Zz, Vc.exK, Zn, Zm, Zi, Zh, Zv, Xo, Y2, Zy, Zk, Zj, Zx, Zo, Zl, Xm, Z4, Xk, Vc.ev, Vc.st, Vc.stq, Vc.gst, Xh, St.rd, St.get, St.put, St.find, Zf, St.new, Vc.gdc, Zp, Yo, Yr, Yq, Xg, Zt, Zr, Yj, Yg, Vc.S1.cells, Vc.upd, Vc.del, Zg, Vc.noV, Kd.enc, Kd.dec, Ins.cells, Ln.cells, Yb, Z6, Yn, Z7, Y4, Vc.rvs, Xa, Ze, Y6, Y0, Y5, Y7, Y9, Xb, Yk, Xf, Z5, Zu, Zc, Zs, Y1, Xe, Zq, SV.bd, Vc.S1.bd, At.bd, Value.oneCell', Int.reduceEq, Int.reduceNeg, Int.reduceLE, Int.reduceLT, Vc.lenOf, Yl, Xd, Z2, Vc.atK, Z3, Vc.unK, Vc.wfK, Yf, Yc, Ye, Z0, Z8, Yd, Z1, Ys, Vc.sg, Yz, Y3, Xc, Y8, Ya, Res.own, At.sub, Vc.S1.sub, SV.sub, Res.sub, Xi, Xn, Yt, Yp, Ym, Vc.frS, Kd.sz, Nat.reduceSub, ↓reduceIte, reduceCtorEq, Nat.reduceEqDiff, Nat.reduceAdd, Nat.reduceMul, Nat.reduceLeDiff, Nat.reduceLT, Nat.reduceBEq, Nat.reduceBNe, implies_true, Xp, X2.rs, X2.res, hy', hw2, ht2, hown, hfy, Int.ofNat_lt]) | (with_reducible first | refine T.seq ?_ | refine T.block ?_ | assumption | refine And.intro ?_ ?_) | (intro h; first | (exfalso; omega) | exact (tf h ‹_›).elim | exact (tf ‹_› h).elim | skip))
            all_goals first | omega | skip
            all_goals try (first | (show (-9223372036854775808 : Int) ≤ (k : Int); omega) | (show (k : Int) ≤ 9223372036854775807; omega))
            exact ⟨⟨(j + 1, fun t => if t = y.name then some (k : Int) else f' t, n' + 1), hlt2, hrun2, by simp only; omega⟩, (Ent.mk (id) (by simp [Za, Zb, Vc.bnd, St.get, St.find, Zf, SV.ren, Vc.S1.ren, At.ren, Res.ren, SV.bd, Vc.S1.bd, At.bd, Res.bd, Vc.upd, Vc.del, Kd.enc, Value.oneCell', hw2]) (by simp [Za, Zb, Vc.bnd, St.get, St.find, Zf, SV.ren, Vc.S1.ren, At.ren, Res.ren, SV.bd, Vc.S1.bd, At.bd, Res.bd, Vc.upd, Vc.del, Kd.enc, Value.oneCell', hw2]) (by simp [Za, Zb, Vc.bnd, St.get, St.find, Zf, SV.ren, Vc.S1.ren, At.ren, Res.ren, SV.bd, Vc.S1.bd, At.bd, Res.bd, Vc.upd, Vc.del, Kd.enc, Value.oneCell', hw2]) (by simp [Za, Zb, Vc.bnd, St.get, St.find, Zf, SV.ren, Vc.S1.ren, At.ren, Res.ren, SV.bd, Vc.S1.bd, At.bd, Res.bd, Vc.upd, Vc.del, Kd.enc, Value.oneCell', hw2])), by simp only; omega⟩
      · have hj2 : j = sp.length := by omega
        subst hj2
        rw [List.drop_length] at hrun2
        simp only [Vo] at hrun2
        rw [← hrun2] at hrun
        simp only at hrun
        repeat' (first | ((first | (with_reducible first | refine T.regs ?_ | refine T.cond ?_ | refine T.reg ?_ | refine T.ret ?_ | refine T.exit ?_ | refine T.skip ?_) | ((with_reducible first | refine T.dregs ?_ ?_ | refine T.dreg ?_ ?_ | refine T.dregts ?_ ?_ | refine T.dregt ?_ ?_ | refine T.danys ?_ ?_ | refine T.dany ?_ ?_); exact mix)); simp only [Z9, Zw, Zz, Vc.exK, Zn, Zm, Zi, Zh, Zv, Xo, Y2, Zy, Zk, Zj, Zx, Zo, Zl, Xm, Z4, Xk, Vc.ev, Vc.st, Vc.stq, Vc.gst, Xh, St.rd, St.get, St.put, St.find, Zf, St.new, Vc.gdc, Zp, Yo, Yr, Yq, Xg, Zt, Zr, Yj, Yg, Vc.S1.cells, Vc.upd, Vc.del, Zg, Vc.noV, Kd.enc, Kd.dec, Ins.cells, Ln.cells, Yb, Z6, Yn, Z7, Y4, Vc.rvs, Xa, Ze, Y6, Y0, Y5, Y7, Y9, Xb, Yk, Xf, Z5, Zu, Zc, Zs, Y1, Xe, Zq, SV.bd, Vc.S1.bd, At.bd, Value.oneCell', Int.reduceEq, Int.reduceNeg, Int.reduceLE, Int.reduceLT, Vc.lenOf, Yl, Xd, Z2, Vc.atK, Z3, Vc.unK, Vc.wfK, Yf, Yc, Ye, Z0, Z8, Yd, Z1, Ys, Vc.sg, Yz, Y3, Xc, Y8, Ya, Res.own, At.sub, Vc.S1.sub, SV.sub, Res.sub, Xi, Xn, Yt, Yp, Ym, Vc.frS, Kd.sz, Nat.reduceSub, ↓reduceIte, reduceCtorEq, Nat.reduceEqDiff, Nat.reduceAdd, Nat.reduceMul, Nat.reduceLeDiff, Nat.reduceLT, Nat.reduceBEq, Nat.reduceBNe, implies_true, Xp, X2.rs, X2.res, hw, Int.ofNat_lt]) | (with_reducible first | refine T.seq ?_ | refine T.block ?_ | assumption | refine And.intro ?_ ?_) | (intro h; first | (exfalso; omega) | exact (tf h ‹_›).elim | exact (tf ‹_› h).elim | skip))
        all_goals first | omega | skip
        exact ⟨⟨(k + 1, f', n'), hlt, hrun, by simp only; omega⟩, (Ent.mk (id) (by simp [Za, Zb, Vc.bnd, St.get, St.find, Zf, SV.ren, Vc.S1.ren, At.ren, Res.ren, SV.bd, Vc.S1.bd, At.bd, Res.bd, Vc.upd, Vc.del, Kd.enc, Value.oneCell', hw]) (by simp [Za, Zb, Vc.bnd, St.get, St.find, Zf, SV.ren, Vc.S1.ren, At.ren, Res.ren, SV.bd, Vc.S1.bd, At.bd, Res.bd, Vc.upd, Vc.del, Kd.enc, Value.oneCell', hw]) (by simp [Za, Zb, Vc.bnd, St.get, St.find, Zf, SV.ren, Vc.S1.ren, At.ren, Res.ren, SV.bd, Vc.S1.bd, At.bd, Res.bd, Vc.upd, Vc.del, Kd.enc, Value.oneCell', hw]) (by simp [Za, Zb, Vc.bnd, St.get, St.find, Zf, SV.ren, Vc.S1.ren, At.ren, Res.ren, SV.bd, Vc.S1.bd, At.bd, Res.bd, Vc.upd, Vc.del, Kd.enc, Value.oneCell', hw])), by simp only; omega⟩
    · rw [if_pos (by simpa using hsp)] at hrun
      obtain ⟨e1, e2⟩ := Kk hrun.symm (by simpa using hsp)
      rw [e1, e2]
      repeat' (first | ((first | (with_reducible first | refine T.regs ?_ | refine T.cond ?_ | refine T.reg ?_ | refine T.ret ?_ | refine T.exit ?_ | refine T.skip ?_) | ((with_reducible first | refine T.dregs ?_ ?_ | refine T.dreg ?_ ?_ | refine T.dregts ?_ ?_ | refine T.dregt ?_ ?_ | refine T.danys ?_ ?_ | refine T.dany ?_ ?_); exact mix) | ((with_reducible apply Yi.rw (Rj u.2 0 (by omega) (by omega) (by omega))); (focus ((repeat' (first | exact rfl | exact trivial | refine And.intro ?_ ?_ | (simp [SV.bd, Vc.S1.bd, At.bd, Zq, Yy, Ins.cells, Ln.cells]; done))); done)))); simp only [Z9, Zw, Zz, Vc.exK, Zn, Zm, Zi, Zh, Zv, Xo, Y2, Zy, Zk, Zj, Zx, Zo, Zl, Xm, Z4, Xk, Vc.ev, Vc.st, Vc.stq, Vc.gst, Xh, St.rd, St.get, St.put, St.find, Zf, St.new, Vc.gdc, Zp, Yo, Yr, Yq, Xg, Zt, Zr, Yj, Yg, Vc.S1.cells, Vc.upd, Vc.del, Zg, Vc.noV, Kd.enc, Kd.dec, Ins.cells, Ln.cells, Yb, Z6, Yn, Z7, Y4, Vc.rvs, Xa, Ze, Y6, Y0, Y5, Y7, Y9, Xb, Yk, Xf, Z5, Zu, Zc, Zs, Y1, Xe, Zq, SV.bd, Vc.S1.bd, At.bd, Value.oneCell', Int.reduceEq, Int.reduceNeg, Int.reduceLE, Int.reduceLT, Vc.lenOf, Yl, Xd, Z2, Vc.atK, Z3, Vc.unK, Vc.wfK, Yf, Yc, Ye, Z0, Z8, Yd, Z1, Ys, Vc.sg, Yz, Y3, Xc, Y8, Ya, Res.own, At.sub, Vc.S1.sub, SV.sub, Res.sub, Xi, Xn, Yt, Yp, Ym, Vc.frS, Kd.sz, Nat.reduceSub, ↓reduceIte, reduceCtorEq, Nat.reduceEqDiff, Nat.reduceAdd, Nat.reduceMul, Nat.reduceLeDiff, Nat.reduceLT, Nat.reduceBEq, Nat.reduceBNe, implies_true, Xp, X2.rs, X2.res, hx', hw, ht, hsp, Int.ofNat_lt]) | (with_reducible first | refine T.seq ?_ | refine T.block ?_ | assumption | refine And.intro ?_ ?_) | (intro h; first | (exfalso; omega) | exact (tf h ‹_›).elim | exact (tf ‹_› h).elim | skip))
      all_goals first | omega | skip
  · have hk2 : k = l.length := by omega
    subst hk2
    rw [List.drop_length] at hrun
    simp only [Vp] at hrun
    obtain ⟨e1, e2⟩ := ch_ok hrun.symm
    rw [e1, e2]
    refine T.weak (Ent.smapLe (m := 2) 16000000 rfl (by simp only; omega)) ?_
    repeat' (first | ((first | (with_reducible first | refine T.regs ?_ | refine T.cond ?_ | refine T.reg ?_ | refine T.ret ?_ | refine T.exit ?_ | refine T.skip ?_) | ((with_reducible first | refine T.dregs ?_ ?_ | refine T.dreg ?_ ?_ | refine T.dregts ?_ ?_ | refine T.dregt ?_ ?_ | refine T.danys ?_ ?_ | refine T.dany ?_ ?_); exact mix)); simp only [Z9, Zw, Zz, Vc.exK, Zn, Zm, Zi, Zh, Zv, Xo, Y2, Zy, Zk, Zj, Zx, Zo, Zl, Xm, Z4, Xk, Vc.ev, Vc.st, Vc.stq, Vc.gst, Xh, St.rd, St.get, St.put, St.find, Zf, St.new, Vc.gdc, Zp, Yo, Yr, Yq, Xg, Zt, Zr, Yj, Yg, Vc.S1.cells, Vc.upd, Vc.del, Zg, Vc.noV, Kd.enc, Kd.dec, Ins.cells, Ln.cells, Yb, Z6, Yn, Z7, Y4, Vc.rvs, Xa, Ze, Y6, Y0, Y5, Y7, Y9, Xb, Yk, Xf, Z5, Zu, Zc, Zs, Y1, Xe, Zq, SV.bd, Vc.S1.bd, At.bd, Value.oneCell', Int.reduceEq, Int.reduceNeg, Int.reduceLE, Int.reduceLT, Vc.lenOf, Yl, Xd, Z2, Vc.atK, Z3, Vc.unK, Vc.wfK, Yf, Yc, Ye, Z0, Z8, Yd, Z1, Ys, Vc.sg, Yz, Y3, Xc, Y8, Ya, Res.own, At.sub, Vc.S1.sub, SV.sub, Res.sub, Xi, Xn, Yt, Yp, Ym, Vc.frS, Kd.sz, Nat.reduceSub, ↓reduceIte, reduceCtorEq, Nat.reduceEqDiff, Nat.reduceAdd, Nat.reduceMul, Nat.reduceLeDiff, Nat.reduceLT, Nat.reduceBEq, Nat.reduceBNe, implies_true, Xp, X2.rs, X2.res, Int.ofNat_lt]) | (with_reducible first | refine T.seq ?_ | refine T.block ?_ | assumption | refine And.intro ?_ ?_) | (intro h; first | (exfalso; omega) | exact (tf h ‹_›).elim | exact (tf ‹_› h).elim | skip))
    all_goals first | omega | skip
end Go.Proofs.Ytibkcfpcfbodaaa
