/-
  A part of the proofs of this seat's laws: a step on the way. It has no conditions of its own.
-/
import Derived.Test.YtibkcfpcfbodaaaLinkA
namespace Go.Proofs.Ytibkcfpcfbodaaa
open Go.RowKit Vc
set_option linter.unusedVariables false
set_option linter.unusedSimpArgs false
attribute [local irreducible] T Z9 Wm Ent RdC RwC Sb Yc Wg
def Mt (s : Spot) : Prop := (0 ≤ s.at_ ∧ s.at_ ≤ 65536) ∧ Ui s.name = true ∧ s.name ≠ []
theorem Pm : ∀ (l : List Ln) (k : Nat) (a : Int) (seen : List (List UInt8)) (acc : List Spot), 0 ≤ a → a ≤ 65536 → (∀ s ∈ acc, Mt s) → (∀ s ∈ (W0 l k a seen acc).1, Mt s) ∧ (W0 l k a seen acc).1.length ≤ acc.length + l.length ∧ 0 ≤ (W0 l k a seen acc).2.1 ∧ (W0 l k a seen acc).2.1 ≤ 65536
  | [], k, a, seen, acc, h0, h1, h => ⟨h, Nat.le_refl _, h0, h1⟩
  | x :: l, k, a, seen, acc, h0, h1, h => by
    unfold W0
    have hle := Tx x
    split
    · simp
    · rename_i hw
      have hw' : W6 x = 0 := by simpa using hw
      split
      · rename_i hlb
        split
        · simp
        · obtain ⟨g1, g2, g3⟩ := Pm l (k + 1) a (x.label :: seen) (acc ++ [⟨x.label, a⟩]) h0 h1 (fun s hs => by
            rcases List.mem_append.1 hs with hs | hs
            · exact h s hs
            · simp only [List.mem_singleton] at hs; subst hs
              exact ⟨⟨h0, h1⟩, (Th hw' hlb).1, hlb⟩)
          refine ⟨g1, ?_, g3⟩
          simp only [List.length_append, List.length_cons, List.length_nil] at g2 ⊢; omega
      · split
        · simp
        · obtain ⟨g1, g2, g3⟩ := Pm l (k + 1) (a + Wu x) seen acc (by omega) (by omega) h
          refine ⟨g1, ?_, g3⟩
          simp only [List.length_cons]; omega
theorem S9 (l : List Ln) (a : Int) (h0 : 0 ≤ a) (h1 : a ≤ 65536) : (∀ s ∈ (Y1 l a).1, Mt s) ∧ (Y1 l a).1.length ≤ l.length ∧ 0 ≤ (Y1 l a).2.1 ∧ (Y1 l a).2.1 ≤ 65536 := by
  have := Pm l 0 a [] [] h0 h1 (by simp)
  simpa [Y1] using this
@[reducible] def Own : Type := List UInt8 → Option (Kd.ty (.int .i64))
def Wk : Own := fun _ => none
theorem Ve : (fun _ => none) = Wk := rfl
def Vl (u : Int) : List Spot → Own → Option Own
  | [], f => some f
  | s :: l, f => if Wz s.name = true then Vl u l f else if (f s.name).isSome = true then none else Vl u l fun t => if t = s.name then some u else f t
def Vm : List (List UInt8 × List Ln) → Nat → Own → Own × Int × Int
  | [], _, f => (f, 0, 0)
  | u :: l, k, f => if 40000 < u.2.length then (Wk, 5, k) else if (Y1 u.2 0).2.2.1 ≠ 0 then (Wk, (Y1 u.2 0).2.2.1, k) else
      match Vl k (Y1 u.2 0).1 f with
      | none => (Wk, 7, k)
      | some f' => Vm l (k + 1) f'
def Yn (l : List (List UInt8 × List Ln)) : Own × Int × Int := if 400 < l.length then (Wk, 5, 0) else Vm l 0 Wk
def chV (l : List (List UInt8 × List Ln)) : SV := if (Yn l).2.1 = 0 then .tup [.a (.ref 1), .agg [.int .i64 0, .int .i64 0]] else .tup [.a (.raw (.map none)), .agg [.int .i64 (Yn l).2.1, .int .i64 (Yn l).2.2]]
noncomputable def chR (l : List (List UInt8 × List Ln)) : List (Nat × Res) := if (Yn l).2.1 = 0 then [(1, .smap Try.prog 9 3 (.int .i64) (Yn l).1 16000000)] else []
theorem Kn {l : List (List UInt8 × List Ln)} {e k : Int} {f : Own} (h : Yn l = (f, e, k)) (he : e ≠ 0) : chV l = .tup [.a (.raw (.map none)), .agg [.int .i64 e, .int .i64 k]] ∧ chR l = [] := by
  unfold chV chR; rw [h]; simp [he]
theorem ch_ok {l : List (List UInt8 × List Ln)} {k : Int} {f : Own} (h : Yn l = (f, 0, k)) : chV l = .tup [.a (.ref 1), .agg [.int .i64 0, .int .i64 0]] ∧ chR l = [(1, .smap Try.prog 9 3 (.int .i64) f 16000000)] := by
  unfold chV chR; rw [h]; simp
set_option maxHeartbeats 4000000 in
theorem Jf (l : List (List UInt8 × List Ln)) (hf : I7 l) :
    GC Try.prog 19 [.a (.ref 0)] [(0, .rou l)] 1 [] (chV l) (chR l) 2 := by
  refine Xy.fn.gc (by simp) (by
    unfold chV chR
    by_cases h : (Yn l).2.1 = 0
    · rw [if_pos h, if_pos h]; exact (by simp [Pt, Pb, Qt, U4, Uj, Vc.S1.okN, At.okN, SV.okN, Res.okN, Res.outOk, Ze, Res.own, Value.oneCell'])
    · rw [if_neg h, if_neg h]; exact (by simp [Pt, Pb, Qt, U4, Uj, Vc.S1.okN, At.okN, SV.okN, Res.okN, Res.outOk, Ze, Res.own, Value.oneCell'])) fun w X fr => ?_
  by_cases hbig : 400 < l.length
  · have e : Yn l = (Wk, 5, 0) := if_pos hbig
    obtain ⟨e1, e2⟩ := Kn e (by decide)
    rw [e1, e2]
    repeat' (first | ((first | (with_reducible first | refine T.regs ?_ | refine T.cond ?_ | refine T.reg ?_ | refine T.ret ?_ | refine T.exit ?_ | refine T.skip ?_) | ((with_reducible first | refine T.dregs ?_ ?_ | refine T.dreg ?_ ?_ | refine T.dregts ?_ ?_ | refine T.dregt ?_ ?_ | refine T.danys ?_ ?_ | refine T.dany ?_ ?_); exact mix)); simp only [Z8, Zx, Zy, Vc.exK, Zl, Zn, Zg, Zh, Zu, Xo, Y5, Zw, Zm, Zi, Zv, Zk, Zj, Xn, Z3, Xm, Vc.ev, Vc.st, Vc.stq, Vc.gst, Xj, St.rd, St.get, St.put, St.find, Ze, St.new, Vc.gdc, Zp, Yw, Yr, Yv, Xk, Zs, Zq, Yl, Yf, Vc.S1.cells, Vc.upd, Vc.del, Zf, Vc.noV, Kd.enc, Kd.dec, Ins.cells, Ln.cells, Yb, Z7, Yo, Z5, Y7, Vc.rvs, Xb, Zd, Xa, Y3, Y6, Y9, Xc, Xd, Ym, Xi, Z4, Zt, Zc, Zr, Y4, Xh, Zo, SV.bd, Vc.S1.bd, At.bd, Value.oneCell', Int.reduceEq, Int.reduceNeg, Int.reduceLE, Int.reduceLT, Vc.lenOf, Yq, Xf, Z1, Vc.atK, Z2, Vc.unK, Vc.wfK, Yk, Yg, Yi, Zz, Z6, Yh, Z0, Yu, Vc.sg, Y2, Y8, Xg, Xe, Ya, Res.own, At.sub, Vc.S1.sub, SV.sub, Res.sub, Xl, Xp, Ys, Yt, Yp, Vc.frS, Kd.sz, Nat.reduceSub, ↓reduceIte, reduceCtorEq, Nat.reduceEqDiff, Nat.reduceAdd, Nat.reduceMul, Nat.reduceLeDiff, Nat.reduceLT, Nat.reduceBEq, Nat.reduceBNe, implies_true, Xq, Xy.rs, Xy.res]) | (with_reducible first | refine T.seq ?_ | refine T.block ?_ | assumption | refine And.intro ?_ ?_) | (intro h; first | (exfalso; omega) | exact (tf h ‹_›).elim | exact (tf ‹_› h).elim | skip))
    all_goals first | omega | skip
  have e : Yn l = Vm l 0 Wk := if_neg hbig
  repeat' (first | ((first | (with_reducible first | refine T.regs ?_ | refine T.cond ?_ | refine T.reg ?_ | refine T.ret ?_ | refine T.exit ?_ | refine T.skip ?_) | ((with_reducible first | refine T.dregs ?_ ?_ | refine T.dreg ?_ ?_ | refine T.dregts ?_ ?_ | refine T.dregt ?_ ?_ | refine T.danys ?_ ?_ | refine T.dany ?_ ?_); exact mix)); simp only [Z8, Zx, Zy, Vc.exK, Zl, Zn, Zg, Zh, Zu, Xo, Y5, Zw, Zm, Zi, Zv, Zk, Zj, Xn, Z3, Xm, Vc.ev, Vc.st, Vc.stq, Vc.gst, Xj, St.rd, St.get, St.put, St.find, Ze, St.new, Vc.gdc, Zp, Yw, Yr, Yv, Xk, Zs, Zq, Yl, Yf, Vc.S1.cells, Vc.upd, Vc.del, Zf, Vc.noV, Kd.enc, Kd.dec, Ins.cells, Ln.cells, Yb, Z7, Yo, Z5, Y7, Vc.rvs, Xb, Zd, Xa, Y3, Y6, Y9, Xc, Xd, Ym, Xi, Z4, Zt, Zc, Zr, Y4, Xh, Zo, SV.bd, Vc.S1.bd, At.bd, Value.oneCell', Int.reduceEq, Int.reduceNeg, Int.reduceLE, Int.reduceLT, Vc.lenOf, Yq, Xf, Z1, Vc.atK, Z2, Vc.unK, Vc.wfK, Yk, Yg, Yi, Zz, Z6, Yh, Z0, Yu, Vc.sg, Y2, Y8, Xg, Xe, Ya, Res.own, At.sub, Vc.S1.sub, SV.sub, Res.sub, Xl, Xp, Ys, Yt, Yp, Vc.frS, Kd.sz, Nat.reduceSub, ↓reduceIte, reduceCtorEq, Nat.reduceEqDiff, Nat.reduceAdd, Nat.reduceMul, Nat.reduceLeDiff, Nat.reduceLT, Nat.reduceBEq, Nat.reduceBNe, implies_true, Xq, Xy.rs, Xy.res]) | (with_reducible first | refine T.seq ?_ | refine T.block ?_ | assumption | refine And.intro ?_ ?_) | (intro h; first | (exfalso; omega) | exact (tf h ‹_›).elim | exact (tf ‹_› h).elim | skip))
  all_goals first | omega | skip
  refine T.loop (ι := { p : Nat × Own × Nat // p.1 ≤ l.length ∧ Vm (l.drop p.1) p.1 p.2.1 = Yn l ∧ p.2.2 ≤ 40000 * p.1 })
    (fun x => ⟨[(21, .one (.a (.int .i64 (x.1.1 : Int)))), (20, .one (.a (.int .i64 l.length))), (19, .one (.a (.ref 0))), (4, .one (.a (.ref 2))), (3, .one (.a (.loc 1 0)))],
      [(2, .smap Try.prog 9 3 (.int .i64) x.1.2.1 x.1.2.2), (1, .cells 29 [.int .i64 0, .int .i64 0]), (0, .rou l)], 3⟩)
    (fun x => l.length - x.1.1) ⟨(0, Wk, 0), by simp, by simp [e], by simp⟩ (Ent.mk (id) (by simp [Za, Zb, Vc.bnd, St.get, St.find, Ze, SV.ren, Vc.S1.ren, At.ren, Res.ren, SV.bd, Vc.S1.bd, At.bd, Res.bd, Vc.upd, Vc.del, Kd.enc, Value.oneCell', Ve]) (by simp [Za, Zb, Vc.bnd, St.get, St.find, Ze, SV.ren, Vc.S1.ren, At.ren, Res.ren, SV.bd, Vc.S1.bd, At.bd, Res.bd, Vc.upd, Vc.del, Kd.enc, Value.oneCell', Ve]) (by simp [Za, Zb, Vc.bnd, St.get, St.find, Ze, SV.ren, Vc.S1.ren, At.ren, Res.ren, SV.bd, Vc.S1.bd, At.bd, Res.bd, Vc.upd, Vc.del, Kd.enc, Value.oneCell', Ve]) (by simp [Za, Zb, Vc.bnd, St.get, St.find, Ze, SV.ren, Vc.S1.ren, At.ren, Res.ren, SV.bd, Vc.S1.bd, At.bd, Res.bd, Vc.upd, Vc.del, Kd.enc, Value.oneCell', Ve])) ?_
  rintro ⟨⟨k, f, n⟩, hk, hrun, hn⟩
  simp only at hk hrun hn
  by_cases hlt : k < l.length
  · have hdrop : l.drop k = l.getD k Ud :: l.drop (k + 1) := by
      rw [List.drop_eq_getElem_cons hlt]; simp [List.getD, hlt]
    generalize hx : l.getD k Ud = u at hdrop
    have hx' : l.getD k ([], []) = u := hx
    rw [hdrop] at hrun
    simp only [Vm] at hrun
    have hw : IntKind.i64.wrap ((k : Int) + 1) = ((k + 1 : Nat) : Int) := Wi (by omega)
    have ht : ((k : Int)).toNat = k := by omega
    by_cases hul : 40000 < u.2.length
    · rw [if_pos hul] at hrun
      obtain ⟨e1, e2⟩ := Kn hrun.symm (by decide)
      rw [e1, e2]
      repeat' (first | ((first | (with_reducible first | refine T.regs ?_ | refine T.cond ?_ | refine T.reg ?_ | refine T.ret ?_ | refine T.exit ?_ | refine T.skip ?_) | ((with_reducible first | refine T.dregs ?_ ?_ | refine T.dreg ?_ ?_ | refine T.dregts ?_ ?_ | refine T.dregt ?_ ?_ | refine T.danys ?_ ?_ | refine T.dany ?_ ?_); exact mix)); simp only [Z8, Zx, Zy, Vc.exK, Zl, Zn, Zg, Zh, Zu, Xo, Y5, Zw, Zm, Zi, Zv, Zk, Zj, Xn, Z3, Xm, Vc.ev, Vc.st, Vc.stq, Vc.gst, Xj, St.rd, St.get, St.put, St.find, Ze, St.new, Vc.gdc, Zp, Yw, Yr, Yv, Xk, Zs, Zq, Yl, Yf, Vc.S1.cells, Vc.upd, Vc.del, Zf, Vc.noV, Kd.enc, Kd.dec, Ins.cells, Ln.cells, Yb, Z7, Yo, Z5, Y7, Vc.rvs, Xb, Zd, Xa, Y3, Y6, Y9, Xc, Xd, Ym, Xi, Z4, Zt, Zc, Zr, Y4, Xh, Zo, SV.bd, Vc.S1.bd, At.bd, Value.oneCell', Int.reduceEq, Int.reduceNeg, Int.reduceLE, Int.reduceLT, Vc.lenOf, Yq, Xf, Z1, Vc.atK, Z2, Vc.unK, Vc.wfK, Yk, Yg, Yi, Zz, Z6, Yh, Z0, Yu, Vc.sg, Y2, Y8, Xg, Xe, Ya, Res.own, At.sub, Vc.S1.sub, SV.sub, Res.sub, Xl, Xp, Ys, Yt, Yp, Vc.frS, Kd.sz, Nat.reduceSub, ↓reduceIte, reduceCtorEq, Nat.reduceEqDiff, Nat.reduceAdd, Nat.reduceMul, Nat.reduceLeDiff, Nat.reduceLT, Nat.reduceBEq, Nat.reduceBNe, implies_true, Xq, Xy.rs, Xy.res, hx', hw, ht, Int.ofNat_lt]) | (with_reducible first | refine T.seq ?_ | refine T.block ?_ | assumption | refine And.intro ?_ ?_) | (intro h; first | (exfalso; omega) | exact (tf h ‹_›).elim | exact (tf ‹_› h).elim | skip))
      all_goals first | omega | skip
    rw [if_neg hul] at hrun
    by_cases hsp : (Y1 u.2 0).2.2.1 = 0
    · rw [if_neg (by simpa using hsp)] at hrun
      obtain ⟨hsok, hslen, _, _⟩ := S9 u.2 0 (by omega) (by omega)
      have hSp := S4 u.2 0 (by omega) (by omega) (by omega)
      generalize hsp1 : (Y1 u.2 0).1 = sp at hrun hsok hslen hSp
      repeat' (first | ((first | (with_reducible first | refine T.regs ?_ | refine T.cond ?_ | refine T.reg ?_ | refine T.ret ?_ | refine T.exit ?_ | refine T.skip ?_) | ((with_reducible first | refine T.dregs ?_ ?_ | refine T.dreg ?_ ?_ | refine T.dregts ?_ ?_ | refine T.dregt ?_ ?_ | refine T.danys ?_ ?_ | refine T.dany ?_ ?_); exact mix) | ((with_reducible apply Z9.rw (hSp)); (focus ((repeat' (first | exact rfl | exact trivial | refine And.intro ?_ ?_ | (simp [SV.bd, Vc.S1.bd, At.bd, Zo, Yx, Ins.cells, Ln.cells]; done))); done)))); simp only [Z8, Zx, Zy, Vc.exK, Zl, Zn, Zg, Zh, Zu, Xo, Y5, Zw, Zm, Zi, Zv, Zk, Zj, Xn, Z3, Xm, Vc.ev, Vc.st, Vc.stq, Vc.gst, Xj, St.rd, St.get, St.put, St.find, Ze, St.new, Vc.gdc, Zp, Yw, Yr, Yv, Xk, Zs, Zq, Yl, Yf, Vc.S1.cells, Vc.upd, Vc.del, Zf, Vc.noV, Kd.enc, Kd.dec, Ins.cells, Ln.cells, Yb, Z7, Yo, Z5, Y7, Vc.rvs, Xb, Zd, Xa, Y3, Y6, Y9, Xc, Xd, Ym, Xi, Z4, Zt, Zc, Zr, Y4, Xh, Zo, SV.bd, Vc.S1.bd, At.bd, Value.oneCell', Int.reduceEq, Int.reduceNeg, Int.reduceLE, Int.reduceLT, Vc.lenOf, Yq, Xf, Z1, Vc.atK, Z2, Vc.unK, Vc.wfK, Yk, Yg, Yi, Zz, Z6, Yh, Z0, Yu, Vc.sg, Y2, Y8, Xg, Xe, Ya, Res.own, At.sub, Vc.S1.sub, SV.sub, Res.sub, Xl, Xp, Ys, Yt, Yp, Vc.frS, Kd.sz, Nat.reduceSub, ↓reduceIte, reduceCtorEq, Nat.reduceEqDiff, Nat.reduceAdd, Nat.reduceMul, Nat.reduceLeDiff, Nat.reduceLT, Nat.reduceBEq, Nat.reduceBNe, implies_true, Xq, Xy.rs, Xy.res, hx', hw, ht, hsp, Int.ofNat_lt]) | (with_reducible first | refine T.seq ?_ | refine T.block ?_ | assumption | refine And.intro ?_ ?_) | (intro h; first | (exfalso; omega) | exact (tf h ‹_›).elim | exact (tf ‹_› h).elim | skip))
      all_goals first | omega | skip
      refine T.loop (ι := { p : Nat × Own × Nat // p.1 ≤ sp.length ∧ Vl k (sp.drop p.1) p.2.1 = Vl k sp f ∧ p.2.2 ≤ 40000 * k + p.1 })
        (fun x => ⟨[(48, .one (.a (.int .i64 (x.1.1 : Int)))), (47, .one (.a (.int .i64 sp.length))), (46, .one (.a (.ref 3))), (21, .one (.a (.int .i64 (k : Int)))), (20, .one (.a (.int .i64 l.length))), (19, .one (.a (.ref 0))), (5, .one (.a (.int .i64 (k : Int)))), (4, .one (.a (.ref 2))), (3, .one (.a (.loc 1 0)))],
          [(3, .row 54 .spot sp), (2, .smap Try.prog 9 3 (.int .i64) x.1.2.1 x.1.2.2), (1, .cells 29 [.int .i64 0, .int .i64 0]), (0, .rou l)], 4⟩)
        (fun x => sp.length - x.1.1) ⟨(0, f, n), by simp, by simp, by simpa using hn⟩ (Ent.mk (fun n => if n = 3 then 5 else n) (by simp [Za, Zb, Vc.bnd, St.get, St.find, Ze, SV.ren, Vc.S1.ren, At.ren, Res.ren, SV.bd, Vc.S1.bd, At.bd, Res.bd, Vc.upd, Vc.del, Kd.enc, Value.oneCell']) (by simp [Za, Zb, Vc.bnd, St.get, St.find, Ze, SV.ren, Vc.S1.ren, At.ren, Res.ren, SV.bd, Vc.S1.bd, At.bd, Res.bd, Vc.upd, Vc.del, Kd.enc, Value.oneCell']) (by simp [Za, Zb, Vc.bnd, St.get, St.find, Ze, SV.ren, Vc.S1.ren, At.ren, Res.ren, SV.bd, Vc.S1.bd, At.bd, Res.bd, Vc.upd, Vc.del, Kd.enc, Value.oneCell']) (by simp [Za, Zb, Vc.bnd, St.get, St.find, Ze, SV.ren, Vc.S1.ren, At.ren, Res.ren, SV.bd, Vc.S1.bd, At.bd, Res.bd, Vc.upd, Vc.del, Kd.enc, Value.oneCell'])) ?_
      rintro ⟨⟨j, f', n'⟩, hj, hrun2, hn'⟩
      simp only at hj hrun2 hn'
      by_cases hlt2 : j < sp.length
      · have hdrop2 : sp.drop j = sp.getD j Tm :: sp.drop (j + 1) := by
          rw [List.drop_eq_getElem_cons hlt2]; simp [List.getD, hlt2]
        have hmem2 : sp.getD j Tm ∈ sp := by simp [List.getD, hlt2]
        generalize hy : sp.getD j Tm = y at hdrop2 hmem2
        have hy' : sp.getD j (Kd.dflt .spot) = y := hy
        obtain ⟨⟨hy0, hy1⟩, hyn, hyne⟩ := hsok y hmem2
        have hyl := Um hyn
        rw [hdrop2] at hrun2
        simp only [Vl] at hrun2
        have hw2 : IntKind.i64.wrap ((j : Int) + 1) = ((j + 1 : Nat) : Int) := Wi (by omega)
        have ht2 : ((j : Int)).toNat = j := by omega
        cases hown : Wz y.name with
        | true =>
          rw [if_pos hown] at hrun2
          repeat' (first | ((first | (with_reducible first | refine T.regs ?_ | refine T.cond ?_ | refine T.reg ?_ | refine T.ret ?_ | refine T.exit ?_ | refine T.skip ?_) | ((with_reducible first | refine T.dregs ?_ ?_ | refine T.dreg ?_ ?_ | refine T.dregts ?_ ?_ | refine T.dregt ?_ ?_ | refine T.danys ?_ ?_ | refine T.dany ?_ ?_); exact mix) | ((with_reducible first | apply Z9.rd (Wa y.name hyne) | apply Yc.rd (Wa y.name hyne)); (focus ((repeat' (first | exact rfl | exact trivial | refine And.intro ?_ ?_ | (simp [SV.bd, Vc.S1.bd, At.bd, Zo, Yx, Ins.cells, Ln.cells]; done))); done)))); simp only [Z8, Zx, Zy, Vc.exK, Zl, Zn, Zg, Zh, Zu, Xo, Y5, Zw, Zm, Zi, Zv, Zk, Zj, Xn, Z3, Xm, Vc.ev, Vc.st, Vc.stq, Vc.gst, Xj, St.rd, St.get, St.put, St.find, Ze, St.new, Vc.gdc, Zp, Yw, Yr, Yv, Xk, Zs, Zq, Yl, Yf, Vc.S1.cells, Vc.upd, Vc.del, Zf, Vc.noV, Kd.enc, Kd.dec, Ins.cells, Ln.cells, Yb, Z7, Yo, Z5, Y7, Vc.rvs, Xb, Zd, Xa, Y3, Y6, Y9, Xc, Xd, Ym, Xi, Z4, Zt, Zc, Zr, Y4, Xh, Zo, SV.bd, Vc.S1.bd, At.bd, Value.oneCell', Int.reduceEq, Int.reduceNeg, Int.reduceLE, Int.reduceLT, Vc.lenOf, Yq, Xf, Z1, Vc.atK, Z2, Vc.unK, Vc.wfK, Yk, Yg, Yi, Zz, Z6, Yh, Z0, Yu, Vc.sg, Y2, Y8, Xg, Xe, Ya, Res.own, At.sub, Vc.S1.sub, SV.sub, Res.sub, Xl, Xp, Ys, Yt, Yp, Vc.frS, Kd.sz, Nat.reduceSub, ↓reduceIte, reduceCtorEq, Nat.reduceEqDiff, Nat.reduceAdd, Nat.reduceMul, Nat.reduceLeDiff, Nat.reduceLT, Nat.reduceBEq, Nat.reduceBNe, implies_true, Xq, Xy.rs, Xy.res, hy', hw2, ht2, hown, Int.ofNat_lt]) | (with_reducible first | refine T.seq ?_ | refine T.block ?_ | assumption | refine And.intro ?_ ?_) | (intro h; first | (exfalso; omega) | exact (tf h ‹_›).elim | exact (tf ‹_› h).elim | skip))
          all_goals first | omega | skip
          exact ⟨⟨(j + 1, f', n'), hlt2, hrun2, by simp only; omega⟩, (Ent.mk (id) (by simp [Za, Zb, Vc.bnd, St.get, St.find, Ze, SV.ren, Vc.S1.ren, At.ren, Res.ren, SV.bd, Vc.S1.bd, At.bd, Res.bd, Vc.upd, Vc.del, Kd.enc, Value.oneCell', hw2]) (by simp [Za, Zb, Vc.bnd, St.get, St.find, Ze, SV.ren, Vc.S1.ren, At.ren, Res.ren, SV.bd, Vc.S1.bd, At.bd, Res.bd, Vc.upd, Vc.del, Kd.enc, Value.oneCell', hw2]) (by simp [Za, Zb, Vc.bnd, St.get, St.find, Ze, SV.ren, Vc.S1.ren, At.ren, Res.ren, SV.bd, Vc.S1.bd, At.bd, Res.bd, Vc.upd, Vc.del, Kd.enc, Value.oneCell', hw2]) (by simp [Za, Zb, Vc.bnd, St.get, St.find, Ze, SV.ren, Vc.S1.ren, At.ren, Res.ren, SV.bd, Vc.S1.bd, At.bd, Res.bd, Vc.upd, Vc.del, Kd.enc, Value.oneCell', hw2])), by simp only; omega⟩
        | false =>
          rw [if_neg (by simp [hown])] at hrun2
          cases hfy : f' y.name with
          | some v =>
            rw [if_pos (by rw [hfy]; rfl)] at hrun2
            rw [← hrun2] at hrun
            simp only at hrun
            obtain ⟨e1, e2⟩ := Kn hrun.symm (by decide)
            rw [e1, e2]
            repeat' (first | ((first | (with_reducible first | refine T.regs ?_ | refine T.cond ?_ | refine T.reg ?_ | refine T.ret ?_ | refine T.exit ?_ | refine T.skip ?_) | ((with_reducible first | refine T.dregs ?_ ?_ | refine T.dreg ?_ ?_ | refine T.dregts ?_ ?_ | refine T.dregt ?_ ?_ | refine T.danys ?_ ?_ | refine T.dany ?_ ?_); exact mix) | ((with_reducible first | apply Z9.rd (Wa y.name hyne) | apply Yc.rd (Wa y.name hyne)); (focus ((repeat' (first | exact rfl | exact trivial | refine And.intro ?_ ?_ | (simp [SV.bd, Vc.S1.bd, At.bd, Zo, Yx, Ins.cells, Ln.cells]; done))); done)))); simp only [Z8, Zx, Zy, Vc.exK, Zl, Zn, Zg, Zh, Zu, Xo, Y5, Zw, Zm, Zi, Zv, Zk, Zj, Xn, Z3, Xm, Vc.ev, Vc.st, Vc.stq, Vc.gst, Xj, St.rd, St.get, St.put, St.find, Ze, St.new, Vc.gdc, Zp, Yw, Yr, Yv, Xk, Zs, Zq, Yl, Yf, Vc.S1.cells, Vc.upd, Vc.del, Zf, Vc.noV, Kd.enc, Kd.dec, Ins.cells, Ln.cells, Yb, Z7, Yo, Z5, Y7, Vc.rvs, Xb, Zd, Xa, Y3, Y6, Y9, Xc, Xd, Ym, Xi, Z4, Zt, Zc, Zr, Y4, Xh, Zo, SV.bd, Vc.S1.bd, At.bd, Value.oneCell', Int.reduceEq, Int.reduceNeg, Int.reduceLE, Int.reduceLT, Vc.lenOf, Yq, Xf, Z1, Vc.atK, Z2, Vc.unK, Vc.wfK, Yk, Yg, Yi, Zz, Z6, Yh, Z0, Yu, Vc.sg, Y2, Y8, Xg, Xe, Ya, Res.own, At.sub, Vc.S1.sub, SV.sub, Res.sub, Xl, Xp, Ys, Yt, Yp, Vc.frS, Kd.sz, Nat.reduceSub, ↓reduceIte, reduceCtorEq, Nat.reduceEqDiff, Nat.reduceAdd, Nat.reduceMul, Nat.reduceLeDiff, Nat.reduceLT, Nat.reduceBEq, Nat.reduceBNe, implies_true, Xq, Xy.rs, Xy.res, hy', hw2, ht2, hown, hfy, Int.ofNat_lt]) | (with_reducible first | refine T.seq ?_ | refine T.block ?_ | assumption | refine And.intro ?_ ?_) | (intro h; first | (exfalso; omega) | exact (tf h ‹_›).elim | exact (tf ‹_› h).elim | skip))
            all_goals first | omega | skip
          | none =>
            rw [if_neg (by rw [hfy]; simp)] at hrun2
            repeat' (first | ((first | (with_reducible first | refine T.regs ?_ | refine T.cond ?_ | refine T.reg ?_ | refine T.ret ?_ | refine T.exit ?_ | refine T.skip ?_) | ((with_reducible first | refine T.dregs ?_ ?_ | refine T.dreg ?_ ?_ | refine T.dregts ?_ ?_ | refine T.dregt ?_ ?_ | refine T.danys ?_ ?_ | refine T.dany ?_ ?_); exact mix) | ((with_reducible first | apply Z9.rd (Wa y.name hyne) | apply Yc.rd (Wa y.name hyne)); (focus ((repeat' (first | exact rfl | exact trivial | refine And.intro ?_ ?_ | (simp [SV.bd, Vc.S1.bd, At.bd, Zo, Yx, Ins.cells, Ln.cells]; done))); done)))); simp only [Z8, Zx, Zy, Vc.exK, Zl, Zn, Zg, Zh, Zu, Xo, Y5, Zw, Zm, Zi, Zv, Zk, Zj, Xn, Z3, Xm, Vc.ev, Vc.st, Vc.stq, Vc.gst, Xj, St.rd, St.get, St.put, St.find, Ze, St.new, Vc.gdc, Zp, Yw, Yr, Yv, Xk, Zs, Zq, Yl, Yf, Vc.S1.cells, Vc.upd, Vc.del, Zf, Vc.noV, Kd.enc, Kd.dec, Ins.cells, Ln.cells, Yb, Z7, Yo, Z5, Y7, Vc.rvs, Xb, Zd, Xa, Y3, Y6, Y9, Xc, Xd, Ym, Xi, Z4, Zt, Zc, Zr, Y4, Xh, Zo, SV.bd, Vc.S1.bd, At.bd, Value.oneCell', Int.reduceEq, Int.reduceNeg, Int.reduceLE, Int.reduceLT, Vc.lenOf, Yq, Xf, Z1, Vc.atK, Z2, Vc.unK, Vc.wfK, Yk, Yg, Yi, Zz, Z6, Yh, Z0, Yu, Vc.sg, Y2, Y8, Xg, Xe, Ya, Res.own, At.sub, Vc.S1.sub, SV.sub, Res.sub, Xl, Xp, Ys, Yt, Yp, Vc.frS, Kd.sz, Nat.reduceSub, ↓reduceIte, reduceCtorEq, Nat.reduceEqDiff, Nat.reduceAdd, Nat.reduceMul, Nat.reduceLeDiff, Nat.reduceLT, Nat.reduceBEq, Nat.reduceBNe, implies_true, Xq, Xy.rs, Xy.res, hy', hw2, ht2, hown, hfy, Int.ofNat_lt]) | (with_reducible first | refine T.seq ?_ | refine T.block ?_ | assumption | refine And.intro ?_ ?_) | (intro h; first | (exfalso; omega) | exact (tf h ‹_›).elim | exact (tf ‹_› h).elim | skip))
            all_goals first | omega | skip
            all_goals try (first | (show (-9223372036854775808 : Int) ≤ (k : Int); omega) | (show (k : Int) ≤ 9223372036854775807; omega))
            exact ⟨⟨(j + 1, fun t => if t = y.name then some (k : Int) else f' t, n' + 1), hlt2, hrun2, by simp only; omega⟩, (Ent.mk (id) (by simp [Za, Zb, Vc.bnd, St.get, St.find, Ze, SV.ren, Vc.S1.ren, At.ren, Res.ren, SV.bd, Vc.S1.bd, At.bd, Res.bd, Vc.upd, Vc.del, Kd.enc, Value.oneCell', hw2]) (by simp [Za, Zb, Vc.bnd, St.get, St.find, Ze, SV.ren, Vc.S1.ren, At.ren, Res.ren, SV.bd, Vc.S1.bd, At.bd, Res.bd, Vc.upd, Vc.del, Kd.enc, Value.oneCell', hw2]) (by simp [Za, Zb, Vc.bnd, St.get, St.find, Ze, SV.ren, Vc.S1.ren, At.ren, Res.ren, SV.bd, Vc.S1.bd, At.bd, Res.bd, Vc.upd, Vc.del, Kd.enc, Value.oneCell', hw2]) (by simp [Za, Zb, Vc.bnd, St.get, St.find, Ze, SV.ren, Vc.S1.ren, At.ren, Res.ren, SV.bd, Vc.S1.bd, At.bd, Res.bd, Vc.upd, Vc.del, Kd.enc, Value.oneCell', hw2])), by simp only; omega⟩
      · have hj2 : j = sp.length := by omega
        subst hj2
        rw [List.drop_length] at hrun2
        simp only [Vl] at hrun2
        rw [← hrun2] at hrun
        simp only at hrun
        repeat' (first | ((first | (with_reducible first | refine T.regs ?_ | refine T.cond ?_ | refine T.reg ?_ | refine T.ret ?_ | refine T.exit ?_ | refine T.skip ?_) | ((with_reducible first | refine T.dregs ?_ ?_ | refine T.dreg ?_ ?_ | refine T.dregts ?_ ?_ | refine T.dregt ?_ ?_ | refine T.danys ?_ ?_ | refine T.dany ?_ ?_); exact mix)); simp only [Z8, Zx, Zy, Vc.exK, Zl, Zn, Zg, Zh, Zu, Xo, Y5, Zw, Zm, Zi, Zv, Zk, Zj, Xn, Z3, Xm, Vc.ev, Vc.st, Vc.stq, Vc.gst, Xj, St.rd, St.get, St.put, St.find, Ze, St.new, Vc.gdc, Zp, Yw, Yr, Yv, Xk, Zs, Zq, Yl, Yf, Vc.S1.cells, Vc.upd, Vc.del, Zf, Vc.noV, Kd.enc, Kd.dec, Ins.cells, Ln.cells, Yb, Z7, Yo, Z5, Y7, Vc.rvs, Xb, Zd, Xa, Y3, Y6, Y9, Xc, Xd, Ym, Xi, Z4, Zt, Zc, Zr, Y4, Xh, Zo, SV.bd, Vc.S1.bd, At.bd, Value.oneCell', Int.reduceEq, Int.reduceNeg, Int.reduceLE, Int.reduceLT, Vc.lenOf, Yq, Xf, Z1, Vc.atK, Z2, Vc.unK, Vc.wfK, Yk, Yg, Yi, Zz, Z6, Yh, Z0, Yu, Vc.sg, Y2, Y8, Xg, Xe, Ya, Res.own, At.sub, Vc.S1.sub, SV.sub, Res.sub, Xl, Xp, Ys, Yt, Yp, Vc.frS, Kd.sz, Nat.reduceSub, ↓reduceIte, reduceCtorEq, Nat.reduceEqDiff, Nat.reduceAdd, Nat.reduceMul, Nat.reduceLeDiff, Nat.reduceLT, Nat.reduceBEq, Nat.reduceBNe, implies_true, Xq, Xy.rs, Xy.res, hw, Int.ofNat_lt]) | (with_reducible first | refine T.seq ?_ | refine T.block ?_ | assumption | refine And.intro ?_ ?_) | (intro h; first | (exfalso; omega) | exact (tf h ‹_›).elim | exact (tf ‹_› h).elim | skip))
        all_goals first | omega | skip
        exact ⟨⟨(k + 1, f', n'), hlt, hrun, by simp only; omega⟩, (Ent.mk (id) (by simp [Za, Zb, Vc.bnd, St.get, St.find, Ze, SV.ren, Vc.S1.ren, At.ren, Res.ren, SV.bd, Vc.S1.bd, At.bd, Res.bd, Vc.upd, Vc.del, Kd.enc, Value.oneCell', hw]) (by simp [Za, Zb, Vc.bnd, St.get, St.find, Ze, SV.ren, Vc.S1.ren, At.ren, Res.ren, SV.bd, Vc.S1.bd, At.bd, Res.bd, Vc.upd, Vc.del, Kd.enc, Value.oneCell', hw]) (by simp [Za, Zb, Vc.bnd, St.get, St.find, Ze, SV.ren, Vc.S1.ren, At.ren, Res.ren, SV.bd, Vc.S1.bd, At.bd, Res.bd, Vc.upd, Vc.del, Kd.enc, Value.oneCell', hw]) (by simp [Za, Zb, Vc.bnd, St.get, St.find, Ze, SV.ren, Vc.S1.ren, At.ren, Res.ren, SV.bd, Vc.S1.bd, At.bd, Res.bd, Vc.upd, Vc.del, Kd.enc, Value.oneCell', hw])), by simp only; omega⟩
    · rw [if_pos (by simpa using hsp)] at hrun
      obtain ⟨e1, e2⟩ := Kn hrun.symm (by simpa using hsp)
      rw [e1, e2]
      repeat' (first | ((first | (with_reducible first | refine T.regs ?_ | refine T.cond ?_ | refine T.reg ?_ | refine T.ret ?_ | refine T.exit ?_ | refine T.skip ?_) | ((with_reducible first | refine T.dregs ?_ ?_ | refine T.dreg ?_ ?_ | refine T.dregts ?_ ?_ | refine T.dregt ?_ ?_ | refine T.danys ?_ ?_ | refine T.dany ?_ ?_); exact mix) | ((with_reducible apply Z9.rw (S4 u.2 0 (by omega) (by omega) (by omega))); (focus ((repeat' (first | exact rfl | exact trivial | refine And.intro ?_ ?_ | (simp [SV.bd, Vc.S1.bd, At.bd, Zo, Yx, Ins.cells, Ln.cells]; done))); done)))); simp only [Z8, Zx, Zy, Vc.exK, Zl, Zn, Zg, Zh, Zu, Xo, Y5, Zw, Zm, Zi, Zv, Zk, Zj, Xn, Z3, Xm, Vc.ev, Vc.st, Vc.stq, Vc.gst, Xj, St.rd, St.get, St.put, St.find, Ze, St.new, Vc.gdc, Zp, Yw, Yr, Yv, Xk, Zs, Zq, Yl, Yf, Vc.S1.cells, Vc.upd, Vc.del, Zf, Vc.noV, Kd.enc, Kd.dec, Ins.cells, Ln.cells, Yb, Z7, Yo, Z5, Y7, Vc.rvs, Xb, Zd, Xa, Y3, Y6, Y9, Xc, Xd, Ym, Xi, Z4, Zt, Zc, Zr, Y4, Xh, Zo, SV.bd, Vc.S1.bd, At.bd, Value.oneCell', Int.reduceEq, Int.reduceNeg, Int.reduceLE, Int.reduceLT, Vc.lenOf, Yq, Xf, Z1, Vc.atK, Z2, Vc.unK, Vc.wfK, Yk, Yg, Yi, Zz, Z6, Yh, Z0, Yu, Vc.sg, Y2, Y8, Xg, Xe, Ya, Res.own, At.sub, Vc.S1.sub, SV.sub, Res.sub, Xl, Xp, Ys, Yt, Yp, Vc.frS, Kd.sz, Nat.reduceSub, ↓reduceIte, reduceCtorEq, Nat.reduceEqDiff, Nat.reduceAdd, Nat.reduceMul, Nat.reduceLeDiff, Nat.reduceLT, Nat.reduceBEq, Nat.reduceBNe, implies_true, Xq, Xy.rs, Xy.res, hx', hw, ht, hsp, Int.ofNat_lt]) | (with_reducible first | refine T.seq ?_ | refine T.block ?_ | assumption | refine And.intro ?_ ?_) | (intro h; first | (exfalso; omega) | exact (tf h ‹_›).elim | exact (tf ‹_› h).elim | skip))
      all_goals first | omega | skip
  · have hk2 : k = l.length := by omega
    subst hk2
    rw [List.drop_length] at hrun
    simp only [Vm] at hrun
    obtain ⟨e1, e2⟩ := ch_ok hrun.symm
    rw [e1, e2]
    refine T.weak (Ent.smapLe (m := 2) 16000000 rfl (by simp only; omega)) ?_
    repeat' (first | ((first | (with_reducible first | refine T.regs ?_ | refine T.cond ?_ | refine T.reg ?_ | refine T.ret ?_ | refine T.exit ?_ | refine T.skip ?_) | ((with_reducible first | refine T.dregs ?_ ?_ | refine T.dreg ?_ ?_ | refine T.dregts ?_ ?_ | refine T.dregt ?_ ?_ | refine T.danys ?_ ?_ | refine T.dany ?_ ?_); exact mix)); simp only [Z8, Zx, Zy, Vc.exK, Zl, Zn, Zg, Zh, Zu, Xo, Y5, Zw, Zm, Zi, Zv, Zk, Zj, Xn, Z3, Xm, Vc.ev, Vc.st, Vc.stq, Vc.gst, Xj, St.rd, St.get, St.put, St.find, Ze, St.new, Vc.gdc, Zp, Yw, Yr, Yv, Xk, Zs, Zq, Yl, Yf, Vc.S1.cells, Vc.upd, Vc.del, Zf, Vc.noV, Kd.enc, Kd.dec, Ins.cells, Ln.cells, Yb, Z7, Yo, Z5, Y7, Vc.rvs, Xb, Zd, Xa, Y3, Y6, Y9, Xc, Xd, Ym, Xi, Z4, Zt, Zc, Zr, Y4, Xh, Zo, SV.bd, Vc.S1.bd, At.bd, Value.oneCell', Int.reduceEq, Int.reduceNeg, Int.reduceLE, Int.reduceLT, Vc.lenOf, Yq, Xf, Z1, Vc.atK, Z2, Vc.unK, Vc.wfK, Yk, Yg, Yi, Zz, Z6, Yh, Z0, Yu, Vc.sg, Y2, Y8, Xg, Xe, Ya, Res.own, At.sub, Vc.S1.sub, SV.sub, Res.sub, Xl, Xp, Ys, Yt, Yp, Vc.frS, Kd.sz, Nat.reduceSub, ↓reduceIte, reduceCtorEq, Nat.reduceEqDiff, Nat.reduceAdd, Nat.reduceMul, Nat.reduceLeDiff, Nat.reduceLT, Nat.reduceBEq, Nat.reduceBNe, implies_true, Xq, Xy.rs, Xy.res, Int.ofNat_lt]) | (with_reducible first | refine T.seq ?_ | refine T.block ?_ | assumption | refine And.intro ?_ ?_) | (intro h; first | (exfalso; omega) | exact (tf h ‹_›).elim | exact (tf ‹_› h).elim | skip))
    all_goals first | omega | skip
end Go.Proofs.Ytibkcfpcfbodaaa
