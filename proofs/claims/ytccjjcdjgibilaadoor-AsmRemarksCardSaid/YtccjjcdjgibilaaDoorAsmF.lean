/-
  A part of the proofs of this seat's laws: a step on the way. It has no conditions of its own.
-/
import Derived.Test.YtccjjcdjgibilaaDoorAsmS
import Derived.Test.YtccjjcdjgibilaaDoorEncode
namespace Go.Proofs.YtccjjcdjgibilaaDoor
open Go.RowKit Vc
set_option linter.unusedVariables false
set_option linter.unusedSimpArgs false
attribute [local irreducible] T Z2 Wi Ent RdC RwC Uj Yg Xs
def Qd : List Spot → Own → Own
  | [], g => g
  | s :: l, g => Qd l (fun t => if t = s.name then some s.at_ else g t)
def knA (g : Own) (s : List UInt8) : Int × Bool := ((g s).getD (0 : Int), (g s).isSome)
def Ie (g : Own) : List S1 → Option SV
  | [.a (.str s)] => if s.length ≤ 9223372036854775807 then some (.tup [.a (.int .i64 (knA g s).1), .a (.bool (knA g s).2)]) else none
  | _ => none
def asmS (l : List Ln) : List Int × Int × Int :=
  if 40000 < l.length then ([], 5, 0) else
  if (Vq l 0).2.2.1 ≠ 0 then ([], (Vq l 0).2.2) else
  if (Ue (knA (Qd (Vq l 0).1 Pa)) l).2.1 ≠ 0 then ([], (Ue (knA (Qd (Vq l 0).1 Pa)) l).2) else
  K8 (Ue (knA (Qd (Vq l 0).1 Pa)) l).1
set_option maxHeartbeats 2000000 in
theorem Rz (R : List (Nat × Res)) (nx mg q : Nat) (g : Own) (n : Nat) (h1 : Ze (roR R) mg = some (Res.rocells [.ref q])) (h2 : Ze (roR R) q = some (Res.rosmap Tryd.prog 9 3 (.int .i64) g n))
    (hne : mg ≠ q) : Je Tryd.prog R nx 40 [mg] (Ie g) := by
  refine ⟨Vh.enters, _, _, _, Vh.fn, fun args res hr => ?_⟩
  unfold Ie at hr
  split at hr
  · rename_i s
    split at hr
    · rename_i hs
      cases hr
      refine ⟨by simp [Zr, S1.bd, At.bd], by simp [SV.bd, S1.bd, At.bd], by simp, fun w => ?_⟩
      refine T.weak (S2 := ⟨[(0, .one (.a (.str s))), (1, .one (.a (.loc 0 0)))], [(0, .rocells [.ref 1]), (1, .rosmap Tryd.prog 9 3 (.int .i64) g n)], 2⟩)
        (Ent.mk (fun k => if k = 0 then mg else q) (by simp [Za, Zo, Vc.bnd, St.get, St.find, Ze, SV.ren, Vc.S1.ren, At.ren, Res.ren, SV.bd, Vc.S1.bd, At.bd, Res.bd, Vc.upd, Vc.del, Kd.enc, Value.oneCell', h1, h2, Zc, hne]) (by simp [Za, Zo, Vc.bnd, St.get, St.find, Ze, SV.ren, Vc.S1.ren, At.ren, Res.ren, SV.bd, Vc.S1.bd, At.bd, Res.bd, Vc.upd, Vc.del, Kd.enc, Value.oneCell', h1, h2, Zc, hne]) (by simp [Za, Zo, Vc.bnd, St.get, St.find, Ze, SV.ren, Vc.S1.ren, At.ren, Res.ren, SV.bd, Vc.S1.bd, At.bd, Res.bd, Vc.upd, Vc.del, Kd.enc, Value.oneCell', h1, h2, Zc, hne]) (by simp [Za, Zo, Vc.bnd, St.get, St.find, Ze, SV.ren, Vc.S1.ren, At.ren, Res.ren, SV.bd, Vc.S1.bd, At.bd, Res.bd, Vc.upd, Vc.del, Kd.enc, Value.oneCell', h1, h2, Zc, hne])) ?_
      have hd : (g s).getD (Kd.dflt (.int .i64)) = (g s).getD 0 := rfl
      repeat' (first | ((first | (with_reducible first | refine T.regs ?_ | refine T.cond ?_ | refine T.reg ?_ | refine T.ret ?_ | refine T.exit ?_ | refine T.skip ?_) | ((with_reducible first | refine T.dregs ?_ ?_ | refine T.dreg ?_ ?_ | refine T.dregts ?_ ?_ | refine T.dregt ?_ ?_ | refine T.danys ?_ ?_ | refine T.dany ?_ ?_); exact mix)); simp only [Yh, Z1, Zy, Vc.exK, Zm, Zj, Zh, Zg, Zx, Xp, Y7, Z0, Zn, Zl, Zz, Zk, Zi, Xm, Yc, Xn, Vc.ev, Vc.st, Vc.stq, Vc.gst, Xk, St.rd, St.get, St.put, St.find, Ze, St.new, Vc.gdc, Zs, Yt, Yp, Yr, Xl, Zw, Zt, Yj, Yi, Vc.S1.cells, Vc.upd, Vc.del, Zd, Vc.noV, Kd.enc, Kd.dec, Ins.cells, Ln.cells, Z4, Ye, Yn, Yf, Y4, Vc.rvs, Xc, Zc, Y8, Y2, Y5, Y9, Xb, Xe, Yk, Xh, Yb, Zv, Zb, Zu, Vc.kdL, Xq, Y3, Xi, Zr, SV.bd, Vc.S1.bd, At.bd, Value.oneCell', Int.reduceEq, Int.reduceNeg, Int.reduceLE, Int.reduceLT, Vc.lenOf, Yl, Xg, Z7, Vc.atK, Z8, Vc.unK, Vc.wfK, Ya, Z6, Z9, Zp, Yd, Z5, Zq, Ys, Vc.sg, Y1, Y6, Xd, Xa, Z3, Res.own, At.sub, Vc.S1.sub, SV.sub, Res.sub, Xj, Xo, Yo, Yq, Ym, Vc.frS, Kd.sz, Nat.reduceSub, ↓reduceIte, reduceCtorEq, Nat.reduceEqDiff, Nat.reduceAdd, Nat.reduceMul, Nat.reduceLeDiff, Nat.reduceLT, Nat.reduceBEq, Nat.reduceBNe, implies_true, Xr, Vh.rs, Vh.res, hd]) | (with_reducible first | refine T.seq ?_ | refine T.block ?_ | assumption | refine And.intro ?_ ?_) | (intro h; first | (exfalso; omega) | exact (tf h ‹_›).elim | exact (tf ‹_› h).elim | skip))
      all_goals first | omega | rfl | skip
    · cases hr
  · cases hr
set_option maxHeartbeats 4000000 in
theorem Ns (l : List Ln) (hf : l.length ≤ 9223372036854775807) :
    RwC Tryd.prog 13 [.ro .line l] 3 (.int .i64) (asmS l).1 [.agg [.int .i64 (asmS l).2.1, .int .i64 (asmS l).2.2]] := by
  refine X6.fn.rw (by simp) (by repeat' (first | exact rfl | exact trivial | refine And.intro ?_ ?_ | (simp [SV.bd, Vc.S1.bd, At.bd, Zr, Yw, Ins.cells, Ln.cells]; done))) (by simp [S1.bd, At.bd]) fun w => ?_
  generalize hR : asmS l = R
  unfold asmS at hR
  by_cases hlen : 40000 < l.length
  · rw [if_pos hlen] at hR
    subst hR
    repeat' (first | ((first | (with_reducible first | refine T.regs ?_ | refine T.cond ?_ | refine T.reg ?_ | refine T.ret ?_ | refine T.exit ?_ | refine T.skip ?_) | ((with_reducible first | refine T.dregs ?_ ?_ | refine T.dreg ?_ ?_ | refine T.dregts ?_ ?_ | refine T.dregt ?_ ?_ | refine T.danys ?_ ?_ | refine T.dany ?_ ?_); exact mix)); simp only [Yh, Z1, Zy, Vc.exK, Zm, Zj, Zh, Zg, Zx, Xp, Y7, Z0, Zn, Zl, Zz, Zk, Zi, Xm, Yc, Xn, Vc.ev, Vc.st, Vc.stq, Vc.gst, Xk, St.rd, St.get, St.put, St.find, Ze, St.new, Vc.gdc, Zs, Yt, Yp, Yr, Xl, Zw, Zt, Yj, Yi, Vc.S1.cells, Vc.upd, Vc.del, Zd, Vc.noV, Kd.enc, Kd.dec, Ins.cells, Ln.cells, Z4, Ye, Yn, Yf, Y4, Vc.rvs, Xc, Zc, Y8, Y2, Y5, Y9, Xb, Xe, Yk, Xh, Yb, Zv, Zb, Zu, Vc.kdL, Xq, Y3, Xi, Zr, SV.bd, Vc.S1.bd, At.bd, Value.oneCell', Int.reduceEq, Int.reduceNeg, Int.reduceLE, Int.reduceLT, Vc.lenOf, Yl, Xg, Z7, Vc.atK, Z8, Vc.unK, Vc.wfK, Ya, Z6, Z9, Zp, Yd, Z5, Zq, Ys, Vc.sg, Y1, Y6, Xd, Xa, Z3, Res.own, At.sub, Vc.S1.sub, SV.sub, Res.sub, Xj, Xo, Yo, Yq, Ym, Vc.frS, Kd.sz, Nat.reduceSub, ↓reduceIte, reduceCtorEq, Nat.reduceEqDiff, Nat.reduceAdd, Nat.reduceMul, Nat.reduceLeDiff, Nat.reduceLT, Nat.reduceBEq, Nat.reduceBNe, implies_true, Xr, X6.rs, X6.res, Int.ofNat_lt]) | (with_reducible first | refine T.seq ?_ | refine T.block ?_ | assumption | refine And.intro ?_ ?_) | (intro h; first | (exfalso; omega) | exact (tf h ‹_›).elim | exact (tf ‹_› h).elim | skip))
    all_goals first | omega | skip
  rw [if_neg hlen] at hR
  have hSp := Kn l 0 (by omega) (by omega) (by omega)
  obtain ⟨hok, hsl, _, _⟩ := Jt l 0 (by omega) (by omega)
  have hwr := T8 l 0 0 [] []
  change (Vq l 0).2.2.1 = 0 → _ at hwr
  generalize hsp : Vq l 0 = P at hSp hR hok hsl hwr
  obtain ⟨sp, end_, e, k⟩ := P
  simp only at hSp hR hok hsl hwr
  by_cases he : e = 0
  · rw [if_neg (by simpa using he)] at hR
    subst he
    have hw0 := hwr rfl
    repeat' (first | ((first | (with_reducible first | refine T.regs ?_ | refine T.cond ?_ | refine T.reg ?_ | refine T.ret ?_ | refine T.exit ?_ | refine T.skip ?_) | ((with_reducible first | refine T.dregs ?_ ?_ | refine T.dreg ?_ ?_ | refine T.dregts ?_ ?_ | refine T.dregt ?_ ?_ | refine T.danys ?_ ?_ | refine T.dany ?_ ?_); exact mix) | ((with_reducible apply Z2.rw (hSp)); (focus ((repeat' (first | exact rfl | exact trivial | refine And.intro ?_ ?_ | (simp [SV.bd, Vc.S1.bd, At.bd, Zr, Yw, Ins.cells, Ln.cells]; done))); done)))); simp only [Yh, Z1, Zy, Vc.exK, Zm, Zj, Zh, Zg, Zx, Xp, Y7, Z0, Zn, Zl, Zz, Zk, Zi, Xm, Yc, Xn, Vc.ev, Vc.st, Vc.stq, Vc.gst, Xk, St.rd, St.get, St.put, St.find, Ze, St.new, Vc.gdc, Zs, Yt, Yp, Yr, Xl, Zw, Zt, Yj, Yi, Vc.S1.cells, Vc.upd, Vc.del, Zd, Vc.noV, Kd.enc, Kd.dec, Ins.cells, Ln.cells, Z4, Ye, Yn, Yf, Y4, Vc.rvs, Xc, Zc, Y8, Y2, Y5, Y9, Xb, Xe, Yk, Xh, Yb, Zv, Zb, Zu, Vc.kdL, Xq, Y3, Xi, Zr, SV.bd, Vc.S1.bd, At.bd, Value.oneCell', Int.reduceEq, Int.reduceNeg, Int.reduceLE, Int.reduceLT, Vc.lenOf, Yl, Xg, Z7, Vc.atK, Z8, Vc.unK, Vc.wfK, Ya, Z6, Z9, Zp, Yd, Z5, Zq, Ys, Vc.sg, Y1, Y6, Xd, Xa, Z3, Res.own, At.sub, Vc.S1.sub, SV.sub, Res.sub, Xj, Xo, Yo, Yq, Ym, Vc.frS, Kd.sz, Nat.reduceSub, ↓reduceIte, reduceCtorEq, Nat.reduceEqDiff, Nat.reduceAdd, Nat.reduceMul, Nat.reduceLeDiff, Nat.reduceLT, Nat.reduceBEq, Nat.reduceBNe, implies_true, Xr, X6.rs, X6.res, Int.ofNat_lt]) | (with_reducible first | refine T.seq ?_ | refine T.block ?_ | assumption | refine And.intro ?_ ?_) | (intro h; first | (exfalso; omega) | exact (tf h ‹_›).elim | exact (tf ‹_› h).elim | skip))
    all_goals first | omega | skip
    refine T.loop (ι := { p : Nat × Own // p.1 ≤ sp.length ∧ Qd (sp.drop p.1) p.2 = Qd sp Pa })
      (fun x => ⟨[(28, .one (.a (.int .i64 (x.1.1 : Int)))), (27, .one (.a (.int .i64 sp.length))), (26, .one (.a (.ref 2))), (7, .one (.a (.loc 5 0))), (6, .one (.a (.loc 3 0))), (3, .one (.a (.loc 1 0))), (0, .one (.a (.ref 0)))],
        [(5, .cells 48 [.ref 4]), (4, .smap Tryd.prog 9 3 (.int .i64) x.1.2 x.1.1), (3, .cells 31 [.int .i64 0, .int .i64 k]), (2, .row 76 .spot sp), (1, .cells 31 [.int .i64 0, .int .i64 0]), (0, .ro .line l)], 6⟩)
      (fun x => sp.length - x.1.1) ⟨(0, Pa), by simp, by simp⟩ (Ent.mk (id) (by simp [Za, Zo, Vc.bnd, St.get, St.find, Ze, SV.ren, Vc.S1.ren, At.ren, Res.ren, SV.bd, Vc.S1.bd, At.bd, Res.bd, Vc.upd, Vc.del, Kd.enc, Value.oneCell', Qz]) (by simp [Za, Zo, Vc.bnd, St.get, St.find, Ze, SV.ren, Vc.S1.ren, At.ren, Res.ren, SV.bd, Vc.S1.bd, At.bd, Res.bd, Vc.upd, Vc.del, Kd.enc, Value.oneCell', Qz]) (by simp [Za, Zo, Vc.bnd, St.get, St.find, Ze, SV.ren, Vc.S1.ren, At.ren, Res.ren, SV.bd, Vc.S1.bd, At.bd, Res.bd, Vc.upd, Vc.del, Kd.enc, Value.oneCell', Qz]) (by simp [Za, Zo, Vc.bnd, St.get, St.find, Ze, SV.ren, Vc.S1.ren, At.ren, Res.ren, SV.bd, Vc.S1.bd, At.bd, Res.bd, Vc.upd, Vc.del, Kd.enc, Value.oneCell', Qz])) ?_
    rintro ⟨⟨j, g⟩, hj, hg⟩
    simp only at hj hg
    by_cases hlt : j < sp.length
    · have hdrop : sp.drop j = sp.getD j J0 :: sp.drop (j + 1) := by
        rw [List.drop_eq_getElem_cons hlt]; simp [List.getD, hlt]
      have hmem : sp.getD j J0 ∈ sp := by simp [List.getD, hlt]
      generalize hy : sp.getD j J0 = y at hdrop hmem
      have hy' : sp.getD j (Kd.dflt .spot) = y := hy
      obtain ⟨⟨hy0, hy1⟩, hyn, hyne⟩ := hok y hmem
      have hyl := Pv hyn
      rw [hdrop] at hg
      simp only [Qd] at hg
      have hw : IntKind.i64.wrap ((j : Int) + 1) = ((j + 1 : Nat) : Int) := Wp (by omega)
      have ht : ((j : Int)).toNat = j := by omega
      repeat' (first | ((first | (with_reducible first | refine T.regs ?_ | refine T.cond ?_ | refine T.reg ?_ | refine T.ret ?_ | refine T.exit ?_ | refine T.skip ?_) | ((with_reducible first | refine T.dregs ?_ ?_ | refine T.dreg ?_ ?_ | refine T.dregts ?_ ?_ | refine T.dregt ?_ ?_ | refine T.danys ?_ ?_ | refine T.dany ?_ ?_); exact mix)); simp only [Yh, Z1, Zy, Vc.exK, Zm, Zj, Zh, Zg, Zx, Xp, Y7, Z0, Zn, Zl, Zz, Zk, Zi, Xm, Yc, Xn, Vc.ev, Vc.st, Vc.stq, Vc.gst, Xk, St.rd, St.get, St.put, St.find, Ze, St.new, Vc.gdc, Zs, Yt, Yp, Yr, Xl, Zw, Zt, Yj, Yi, Vc.S1.cells, Vc.upd, Vc.del, Zd, Vc.noV, Kd.enc, Kd.dec, Ins.cells, Ln.cells, Z4, Ye, Yn, Yf, Y4, Vc.rvs, Xc, Zc, Y8, Y2, Y5, Y9, Xb, Xe, Yk, Xh, Yb, Zv, Zb, Zu, Vc.kdL, Xq, Y3, Xi, Zr, SV.bd, Vc.S1.bd, At.bd, Value.oneCell', Int.reduceEq, Int.reduceNeg, Int.reduceLE, Int.reduceLT, Vc.lenOf, Yl, Xg, Z7, Vc.atK, Z8, Vc.unK, Vc.wfK, Ya, Z6, Z9, Zp, Yd, Z5, Zq, Ys, Vc.sg, Y1, Y6, Xd, Xa, Z3, Res.own, At.sub, Vc.S1.sub, SV.sub, Res.sub, Xj, Xo, Yo, Yq, Ym, Vc.frS, Kd.sz, Nat.reduceSub, ↓reduceIte, reduceCtorEq, Nat.reduceEqDiff, Nat.reduceAdd, Nat.reduceMul, Nat.reduceLeDiff, Nat.reduceLT, Nat.reduceBEq, Nat.reduceBNe, implies_true, Xr, X6.rs, X6.res, hy', hw, ht, Int.ofNat_lt]) | (with_reducible first | refine T.seq ?_ | refine T.block ?_ | assumption | refine And.intro ?_ ?_) | (intro h; first | (exfalso; omega) | exact (tf h ‹_›).elim | exact (tf ‹_› h).elim | skip))
      all_goals first | omega | skip
      all_goals try (first | (show (-9223372036854775808 : Int) ≤ y.at_; omega) | (show y.at_ ≤ (9223372036854775807 : Int); omega))
      exact ⟨⟨(j + 1, fun t => if t = y.name then some y.at_ else g t), hlt, hg⟩, (Ent.mk (id) (by simp [Za, Zo, Vc.bnd, St.get, St.find, Ze, SV.ren, Vc.S1.ren, At.ren, Res.ren, SV.bd, Vc.S1.bd, At.bd, Res.bd, Vc.upd, Vc.del, Kd.enc, Value.oneCell', hw]) (by simp [Za, Zo, Vc.bnd, St.get, St.find, Ze, SV.ren, Vc.S1.ren, At.ren, Res.ren, SV.bd, Vc.S1.bd, At.bd, Res.bd, Vc.upd, Vc.del, Kd.enc, Value.oneCell', hw]) (by simp [Za, Zo, Vc.bnd, St.get, St.find, Ze, SV.ren, Vc.S1.ren, At.ren, Res.ren, SV.bd, Vc.S1.bd, At.bd, Res.bd, Vc.upd, Vc.del, Kd.enc, Value.oneCell', hw]) (by simp [Za, Zo, Vc.bnd, St.get, St.find, Ze, SV.ren, Vc.S1.ren, At.ren, Res.ren, SV.bd, Vc.S1.bd, At.bd, Res.bd, Vc.upd, Vc.del, Kd.enc, Value.oneCell', hw])), by simp only; omega⟩
    · have hk2 : j = sp.length := by omega
      subst hk2
      rw [List.drop_length] at hg
      simp only [Qd] at hg
      subst hg
      have hKn : Knows (Ie (Qd sp Pa)) (knA (Qd sp Pa)) l := by
        intro x hx hlb hrf
        have hxl := Pv ((Q3 (hw0 x hx) hlb).2 hrf).1
        unfold Ie
        simp only
        rw [if_pos (by omega)]
      have hRs := N4 l (Ie (Qd sp Pa)) (knA (Qd sp Pa)) hKn (by omega)
      generalize hrs : Ue (knA (Qd sp Pa)) l = RS at hRs hR
      obtain ⟨ri, re, rk⟩ := RS
      simp only at hRs hR
      have hEn := Lw ri
      by_cases hre : re = 0
      · rw [if_neg (by simpa using hre)] at hR
        subst hre
        rw [← hR]
        repeat' (first | ((first | (with_reducible first | refine T.regs ?_ | refine T.cond ?_ | refine T.reg ?_ | refine T.ret ?_ | refine T.exit ?_ | refine T.skip ?_) | ((with_reducible first | refine T.dregs ?_ ?_ | refine T.dreg ?_ ?_ | refine T.dregts ?_ ?_ | refine T.dregt ?_ ?_ | refine T.danys ?_ ?_ | refine T.dany ?_ ?_); exact mix) | ((with_reducible refine Z2.gc (hRs) ?_ ?_); rotate_left) | ((with_reducible apply Z2.rw (hEn)); (focus ((repeat' (first | exact rfl | exact trivial | refine And.intro ?_ ?_ | (simp [SV.bd, Vc.S1.bd, At.bd, Zr, Yw, Ins.cells, Ln.cells]; done))); done)))); simp only [Yh, Z1, Zy, Vc.exK, Zm, Zj, Zh, Zg, Zx, Xp, Y7, Z0, Zn, Zl, Zz, Zk, Zi, Xm, Yc, Xn, Vc.ev, Vc.st, Vc.stq, Vc.gst, Xk, St.rd, St.get, St.put, St.find, Ze, St.new, Vc.gdc, Zs, Yt, Yp, Yr, Xl, Zw, Zt, Yj, Yi, Vc.S1.cells, Vc.upd, Vc.del, Zd, Vc.noV, Kd.enc, Kd.dec, Ins.cells, Ln.cells, Z4, Ye, Yn, Yf, Y4, Vc.rvs, Xc, Zc, Y8, Y2, Y5, Y9, Xb, Xe, Yk, Xh, Yb, Zv, Zb, Zu, Vc.kdL, Xq, Y3, Xi, Zr, SV.bd, Vc.S1.bd, At.bd, Value.oneCell', Int.reduceEq, Int.reduceNeg, Int.reduceLE, Int.reduceLT, Vc.lenOf, Yl, Xg, Z7, Vc.atK, Z8, Vc.unK, Vc.wfK, Ya, Z6, Z9, Zp, Yd, Z5, Zq, Ys, Vc.sg, Y1, Y6, Xd, Xa, Z3, Res.own, At.sub, Vc.S1.sub, SV.sub, Res.sub, Xj, Xo, Yo, Yq, Ym, Vc.frS, Kd.sz, Nat.reduceSub, ↓reduceIte, reduceCtorEq, Nat.reduceEqDiff, Nat.reduceAdd, Nat.reduceMul, Nat.reduceLeDiff, Nat.reduceLT, Nat.reduceBEq, Nat.reduceBNe, implies_true, Xr, X6.rs, X6.res, Int.ofNat_lt]) | (with_reducible first | refine T.seq ?_ | refine T.block ?_ | assumption | refine And.intro ?_ ?_) | (intro h; first | (exfalso; omega) | exact (tf h ‹_›).elim | exact (tf ‹_› h).elim | skip))
        all_goals first | omega | skip
        exact ⟨rfl, ⟨rfl, ⟨rfl, by simp, Rz _ _ 5 4 _ sp.length rfl rfl (by decide)⟩, trivial⟩, List.nodup_nil⟩
      · rw [if_pos hre] at hR
        rw [← hR]
        repeat' (first | ((first | (with_reducible first | refine T.regs ?_ | refine T.cond ?_ | refine T.reg ?_ | refine T.ret ?_ | refine T.exit ?_ | refine T.skip ?_) | ((with_reducible first | refine T.dregs ?_ ?_ | refine T.dreg ?_ ?_ | refine T.dregts ?_ ?_ | refine T.dregt ?_ ?_ | refine T.danys ?_ ?_ | refine T.dany ?_ ?_); exact mix) | ((with_reducible refine Z2.gc (hRs) ?_ ?_); rotate_left)); simp only [Yh, Z1, Zy, Vc.exK, Zm, Zj, Zh, Zg, Zx, Xp, Y7, Z0, Zn, Zl, Zz, Zk, Zi, Xm, Yc, Xn, Vc.ev, Vc.st, Vc.stq, Vc.gst, Xk, St.rd, St.get, St.put, St.find, Ze, St.new, Vc.gdc, Zs, Yt, Yp, Yr, Xl, Zw, Zt, Yj, Yi, Vc.S1.cells, Vc.upd, Vc.del, Zd, Vc.noV, Kd.enc, Kd.dec, Ins.cells, Ln.cells, Z4, Ye, Yn, Yf, Y4, Vc.rvs, Xc, Zc, Y8, Y2, Y5, Y9, Xb, Xe, Yk, Xh, Yb, Zv, Zb, Zu, Vc.kdL, Xq, Y3, Xi, Zr, SV.bd, Vc.S1.bd, At.bd, Value.oneCell', Int.reduceEq, Int.reduceNeg, Int.reduceLE, Int.reduceLT, Vc.lenOf, Yl, Xg, Z7, Vc.atK, Z8, Vc.unK, Vc.wfK, Ya, Z6, Z9, Zp, Yd, Z5, Zq, Ys, Vc.sg, Y1, Y6, Xd, Xa, Z3, Res.own, At.sub, Vc.S1.sub, SV.sub, Res.sub, Xj, Xo, Yo, Yq, Ym, Vc.frS, Kd.sz, Nat.reduceSub, ↓reduceIte, reduceCtorEq, Nat.reduceEqDiff, Nat.reduceAdd, Nat.reduceMul, Nat.reduceLeDiff, Nat.reduceLT, Nat.reduceBEq, Nat.reduceBNe, implies_true, Xr, X6.rs, X6.res, hre, Int.ofNat_lt]) | (with_reducible first | refine T.seq ?_ | refine T.block ?_ | assumption | refine And.intro ?_ ?_) | (intro h; first | (exfalso; omega) | exact (tf h ‹_›).elim | exact (tf ‹_› h).elim | skip))
        all_goals first | omega | skip
        exact ⟨rfl, ⟨rfl, ⟨rfl, by simp, Rz _ _ 5 4 _ sp.length rfl rfl (by decide)⟩, trivial⟩, List.nodup_nil⟩
  · rw [if_pos (by simpa using he)] at hR
    subst hR
    repeat' (first | ((first | (with_reducible first | refine T.regs ?_ | refine T.cond ?_ | refine T.reg ?_ | refine T.ret ?_ | refine T.exit ?_ | refine T.skip ?_) | ((with_reducible first | refine T.dregs ?_ ?_ | refine T.dreg ?_ ?_ | refine T.dregts ?_ ?_ | refine T.dregt ?_ ?_ | refine T.danys ?_ ?_ | refine T.dany ?_ ?_); exact mix) | ((with_reducible apply Z2.rw (hSp)); (focus ((repeat' (first | exact rfl | exact trivial | refine And.intro ?_ ?_ | (simp [SV.bd, Vc.S1.bd, At.bd, Zr, Yw, Ins.cells, Ln.cells]; done))); done)))); simp only [Yh, Z1, Zy, Vc.exK, Zm, Zj, Zh, Zg, Zx, Xp, Y7, Z0, Zn, Zl, Zz, Zk, Zi, Xm, Yc, Xn, Vc.ev, Vc.st, Vc.stq, Vc.gst, Xk, St.rd, St.get, St.put, St.find, Ze, St.new, Vc.gdc, Zs, Yt, Yp, Yr, Xl, Zw, Zt, Yj, Yi, Vc.S1.cells, Vc.upd, Vc.del, Zd, Vc.noV, Kd.enc, Kd.dec, Ins.cells, Ln.cells, Z4, Ye, Yn, Yf, Y4, Vc.rvs, Xc, Zc, Y8, Y2, Y5, Y9, Xb, Xe, Yk, Xh, Yb, Zv, Zb, Zu, Vc.kdL, Xq, Y3, Xi, Zr, SV.bd, Vc.S1.bd, At.bd, Value.oneCell', Int.reduceEq, Int.reduceNeg, Int.reduceLE, Int.reduceLT, Vc.lenOf, Yl, Xg, Z7, Vc.atK, Z8, Vc.unK, Vc.wfK, Ya, Z6, Z9, Zp, Yd, Z5, Zq, Ys, Vc.sg, Y1, Y6, Xd, Xa, Z3, Res.own, At.sub, Vc.S1.sub, SV.sub, Res.sub, Xj, Xo, Yo, Yq, Ym, Vc.frS, Kd.sz, Nat.reduceSub, ↓reduceIte, reduceCtorEq, Nat.reduceEqDiff, Nat.reduceAdd, Nat.reduceMul, Nat.reduceLeDiff, Nat.reduceLT, Nat.reduceBEq, Nat.reduceBNe, implies_true, Xr, X6.rs, X6.res, he, Int.ofNat_lt]) | (with_reducible first | refine T.seq ?_ | refine T.block ?_ | assumption | refine And.intro ?_ ?_) | (intro h; first | (exfalso; omega) | exact (tf h ‹_›).elim | exact (tf ‹_› h).elim | skip))
    all_goals first | omega | skip
end Go.Proofs.YtccjjcdjgibilaaDoor
