/-
  A part of the proofs of this seat's laws: a step on the way. It has no conditions of its own.
-/
import Derived.Test.YtccjjcdjgibilaaGreatDoorAsmS
import Derived.Test.YtccjjcdjgibilaaGreatDoorEncode
namespace Go.Proofs.YtccjjcdjgibilaaGreatDoor
open Go.RowKit Vc
set_option linter.unusedVariables false
set_option linter.unusedSimpArgs false
attribute [local irreducible] T Zq Wa Ent RdC RwC V2 Yl Xt
def R4 : List Spot → Own → Own
  | [], g => g
  | s :: l, g => R4 l (fun t => if t = s.name then some s.at_ else g t)
def knA (g : Own) (s : List UInt8) : Int × Bool := ((g s).getD (0 : Int), (g s).isSome)
def I6 (g : Own) : List S1 → Option SV
  | [.a (.str s)] => if s.length ≤ 9223372036854775807 then some (.tup [.a (.int .i64 (knA g s).1), .a (.bool (knA g s).2)]) else none
  | _ => none
def asmS (l : List Ln) : List Int × Int × Int :=
  if 40000 < l.length then ([], 5, 0) else
  if (Vm l 0).2.2.1 ≠ 0 then ([], (Vm l 0).2.2) else
  if (Uf (knA (R4 (Vm l 0).1 Pm)) l).2.1 ≠ 0 then ([], (Uf (knA (R4 (Vm l 0).1 Pm)) l).2) else
  Ia (Uf (knA (R4 (Vm l 0).1 Pm)) l).1
set_option maxHeartbeats 2000000 in
theorem Rs (R : List (Nat × Res)) (nx mg q : Nat) (g : Own) (n : Nat) (h1 : Zb (roR R) mg = some (Res.rocells [.ref q])) (h2 : Zb (roR R) q = some (Res.rosmap Tryz.prog 9 3 (.int .i64) g n))
    (hne : mg ≠ q) : Ho Tryz.prog R nx 24 [mg] (I6 g) := by
  refine ⟨Vb.enters, _, _, _, Vb.fn, fun args res hr => ?_⟩
  unfold I6 at hr
  split at hr
  · rename_i s
    split at hr
    · rename_i hs
      cases hr
      refine ⟨by simp [Z7, S1.bd, At.bd], by simp [SV.bd, S1.bd, At.bd], by simp, fun w => ?_⟩
      refine T.weak (S2 := ⟨[(0, .one (.a (.str s))), (1, .one (.a (.loc 0 0)))], [(0, .rocells [.ref 1]), (1, .rosmap Tryz.prog 9 3 (.int .i64) g n)], 2⟩)
        (Ent.mk (fun k => if k = 0 then mg else q) (by simp [Za, Zp, Vc.bnd, St.get, St.find, Zb, SV.ren, Vc.S1.ren, At.ren, Res.ren, SV.bd, Vc.S1.bd, At.bd, Res.bd, Vc.upd, Vc.del, Kd.enc, Value.oneCell', h1, h2, Zf, hne]) (by simp [Za, Zp, Vc.bnd, St.get, St.find, Zb, SV.ren, Vc.S1.ren, At.ren, Res.ren, SV.bd, Vc.S1.bd, At.bd, Res.bd, Vc.upd, Vc.del, Kd.enc, Value.oneCell', h1, h2, Zf, hne]) (by simp [Za, Zp, Vc.bnd, St.get, St.find, Zb, SV.ren, Vc.S1.ren, At.ren, Res.ren, SV.bd, Vc.S1.bd, At.bd, Res.bd, Vc.upd, Vc.del, Kd.enc, Value.oneCell', h1, h2, Zf, hne]) (by simp [Za, Zp, Vc.bnd, St.get, St.find, Zb, SV.ren, Vc.S1.ren, At.ren, Res.ren, SV.bd, Vc.S1.bd, At.bd, Res.bd, Vc.upd, Vc.del, Kd.enc, Value.oneCell', h1, h2, Zf, hne])) ?_
      have hd : (g s).getD (Kd.dflt (.int .i64)) = (g s).getD 0 := rfl
      repeat' (first | ((first | (with_reducible first | refine T.regs ?_ | refine T.cond ?_ | refine T.reg ?_ | refine T.ret ?_ | refine T.exit ?_ | refine T.skip ?_) | ((with_reducible first | refine T.dregs ?_ ?_ | refine T.dreg ?_ ?_ | refine T.dregts ?_ ?_ | refine T.dregt ?_ ?_ | refine T.danys ?_ ?_ | refine T.dany ?_ ?_); exact mix)); simp only [Yg, Z3, Z6, Vc.exK, Zk, Zn, Zh, Zi, Z2, Xq, Y7, Z4, Zj, Zl, Z5, Zm, Zo, Xo, Yb, Xn, Vc.ev, Vc.st, Vc.stq, Vc.gst, Xk, St.rd, St.get, St.put, St.find, Zb, St.new, Vc.gdc, Zv, Yv, Yw, Yu, Xl, Z0, Zy, Yn, Yi, Vc.S1.cells, Vc.upd, Vc.del, Zg, Vc.noV, Kd.enc, Kd.dec, Ins.cells, Ln.cells, Zs, Yd, Yq, Ye, Y4, Vc.rvs, Xe, Zf, Xb, Y2, Y6, Xa, Xg, Xf, Yo, Xi, Ya, Z1, Zd, Zz, Vc.kdL, Xr, Y3, Xj, Z7, SV.bd, Vc.S1.bd, At.bd, Value.oneCell', Int.reduceEq, Int.reduceNeg, Int.reduceLE, Int.reduceLT, Vc.lenOf, Yp, Xh, Z8, Vc.atK, Z9, Vc.unK, Vc.wfK, Zx, Zu, Zw, Zc, Yf, Zt, Ze, Yt, Vc.sg, Y1, Y8, Xd, Xc, Zr, Res.own, At.sub, Vc.S1.sub, SV.sub, Res.sub, Xm, Xp, Ys, Yx, Yr, Vc.frS, Kd.sz, Nat.reduceSub, ↓reduceIte, reduceCtorEq, Nat.reduceEqDiff, Nat.reduceAdd, Nat.reduceMul, Nat.reduceLeDiff, Nat.reduceLT, Nat.reduceBEq, Nat.reduceBNe, implies_true, Xs, Vb.rs, Vb.res, hd]) | (with_reducible first | refine T.seq ?_ | refine T.block ?_ | assumption | refine And.intro ?_ ?_) | (intro h; first | (exfalso; omega) | exact (tf h ‹_›).elim | exact (tf ‹_› h).elim | skip))
      all_goals first | omega | rfl | skip
    · cases hr
  · cases hr
set_option maxHeartbeats 4000000 in
theorem Nw (l : List Ln) (hf : l.length ≤ 9223372036854775807) :
    RwC Tryz.prog 9 [.ro .line l] 3 (.int .i64) (asmS l).1 [.agg [.int .i64 (asmS l).2.1, .int .i64 (asmS l).2.2]] := by
  refine Wb.fn.rw (by simp) (by repeat' (first | exact rfl | exact trivial | refine And.intro ?_ ?_ | (simp [SV.bd, Vc.S1.bd, At.bd, Z7, Xu, Ins.cells, Ln.cells]; done))) (by simp [S1.bd, At.bd]) fun w => ?_
  generalize hR : asmS l = R
  unfold asmS at hR
  by_cases hlen : 40000 < l.length
  · rw [if_pos hlen] at hR
    subst hR
    repeat' (first | ((first | (with_reducible first | refine T.regs ?_ | refine T.cond ?_ | refine T.reg ?_ | refine T.ret ?_ | refine T.exit ?_ | refine T.skip ?_) | ((with_reducible first | refine T.dregs ?_ ?_ | refine T.dreg ?_ ?_ | refine T.dregts ?_ ?_ | refine T.dregt ?_ ?_ | refine T.danys ?_ ?_ | refine T.dany ?_ ?_); exact mix)); simp only [Yg, Z3, Z6, Vc.exK, Zk, Zn, Zh, Zi, Z2, Xq, Y7, Z4, Zj, Zl, Z5, Zm, Zo, Xo, Yb, Xn, Vc.ev, Vc.st, Vc.stq, Vc.gst, Xk, St.rd, St.get, St.put, St.find, Zb, St.new, Vc.gdc, Zv, Yv, Yw, Yu, Xl, Z0, Zy, Yn, Yi, Vc.S1.cells, Vc.upd, Vc.del, Zg, Vc.noV, Kd.enc, Kd.dec, Ins.cells, Ln.cells, Zs, Yd, Yq, Ye, Y4, Vc.rvs, Xe, Zf, Xb, Y2, Y6, Xa, Xg, Xf, Yo, Xi, Ya, Z1, Zd, Zz, Vc.kdL, Xr, Y3, Xj, Z7, SV.bd, Vc.S1.bd, At.bd, Value.oneCell', Int.reduceEq, Int.reduceNeg, Int.reduceLE, Int.reduceLT, Vc.lenOf, Yp, Xh, Z8, Vc.atK, Z9, Vc.unK, Vc.wfK, Zx, Zu, Zw, Zc, Yf, Zt, Ze, Yt, Vc.sg, Y1, Y8, Xd, Xc, Zr, Res.own, At.sub, Vc.S1.sub, SV.sub, Res.sub, Xm, Xp, Ys, Yx, Yr, Vc.frS, Kd.sz, Nat.reduceSub, ↓reduceIte, reduceCtorEq, Nat.reduceEqDiff, Nat.reduceAdd, Nat.reduceMul, Nat.reduceLeDiff, Nat.reduceLT, Nat.reduceBEq, Nat.reduceBNe, implies_true, Xs, Wb.rs, Wb.res, Int.ofNat_lt]) | (with_reducible first | refine T.seq ?_ | refine T.block ?_ | assumption | refine And.intro ?_ ?_) | (intro h; first | (exfalso; omega) | exact (tf h ‹_›).elim | exact (tf ‹_› h).elim | skip))
    all_goals first | omega | skip
  rw [if_neg hlen] at hR
  have hSp := J3 l 0 (by omega) (by omega) (by omega)
  obtain ⟨hok, hsl, _, _⟩ := Iv l 0 (by omega) (by omega)
  have hwr := Tw l 0 0 [] []
  change (Vm l 0).2.2.1 = 0 → _ at hwr
  generalize hsp : Vm l 0 = P at hSp hR hok hsl hwr
  obtain ⟨sp, end_, e, k⟩ := P
  simp only at hSp hR hok hsl hwr
  by_cases he : e = 0
  · rw [if_neg (by simpa using he)] at hR
    subst he
    have hw0 := hwr rfl
    repeat' (first | ((first | (with_reducible first | refine T.regs ?_ | refine T.cond ?_ | refine T.reg ?_ | refine T.ret ?_ | refine T.exit ?_ | refine T.skip ?_) | ((with_reducible first | refine T.dregs ?_ ?_ | refine T.dreg ?_ ?_ | refine T.dregts ?_ ?_ | refine T.dregt ?_ ?_ | refine T.danys ?_ ?_ | refine T.dany ?_ ?_); exact mix) | ((with_reducible apply Zq.rw (hSp)); (focus ((repeat' (first | exact rfl | exact trivial | refine And.intro ?_ ?_ | (simp [SV.bd, Vc.S1.bd, At.bd, Z7, Xu, Ins.cells, Ln.cells]; done))); done)))); simp only [Yg, Z3, Z6, Vc.exK, Zk, Zn, Zh, Zi, Z2, Xq, Y7, Z4, Zj, Zl, Z5, Zm, Zo, Xo, Yb, Xn, Vc.ev, Vc.st, Vc.stq, Vc.gst, Xk, St.rd, St.get, St.put, St.find, Zb, St.new, Vc.gdc, Zv, Yv, Yw, Yu, Xl, Z0, Zy, Yn, Yi, Vc.S1.cells, Vc.upd, Vc.del, Zg, Vc.noV, Kd.enc, Kd.dec, Ins.cells, Ln.cells, Zs, Yd, Yq, Ye, Y4, Vc.rvs, Xe, Zf, Xb, Y2, Y6, Xa, Xg, Xf, Yo, Xi, Ya, Z1, Zd, Zz, Vc.kdL, Xr, Y3, Xj, Z7, SV.bd, Vc.S1.bd, At.bd, Value.oneCell', Int.reduceEq, Int.reduceNeg, Int.reduceLE, Int.reduceLT, Vc.lenOf, Yp, Xh, Z8, Vc.atK, Z9, Vc.unK, Vc.wfK, Zx, Zu, Zw, Zc, Yf, Zt, Ze, Yt, Vc.sg, Y1, Y8, Xd, Xc, Zr, Res.own, At.sub, Vc.S1.sub, SV.sub, Res.sub, Xm, Xp, Ys, Yx, Yr, Vc.frS, Kd.sz, Nat.reduceSub, ↓reduceIte, reduceCtorEq, Nat.reduceEqDiff, Nat.reduceAdd, Nat.reduceMul, Nat.reduceLeDiff, Nat.reduceLT, Nat.reduceBEq, Nat.reduceBNe, implies_true, Xs, Wb.rs, Wb.res, Int.ofNat_lt]) | (with_reducible first | refine T.seq ?_ | refine T.block ?_ | assumption | refine And.intro ?_ ?_) | (intro h; first | (exfalso; omega) | exact (tf h ‹_›).elim | exact (tf ‹_› h).elim | skip))
    all_goals first | omega | skip
    refine T.loop (ι := { p : Nat × Own // p.1 ≤ sp.length ∧ R4 (sp.drop p.1) p.2 = R4 sp Pm })
      (fun x => ⟨[(28, .one (.a (.int .i64 (x.1.1 : Int)))), (27, .one (.a (.int .i64 sp.length))), (26, .one (.a (.ref 2))), (7, .one (.a (.loc 5 0))), (6, .one (.a (.loc 3 0))), (3, .one (.a (.loc 1 0))), (0, .one (.a (.ref 0)))],
        [(5, .cells 65 [.ref 4]), (4, .smap Tryz.prog 9 3 (.int .i64) x.1.2 x.1.1), (3, .cells 26 [.int .i64 0, .int .i64 k]), (2, .row 67 .spot sp), (1, .cells 26 [.int .i64 0, .int .i64 0]), (0, .ro .line l)], 6⟩)
      (fun x => sp.length - x.1.1) ⟨(0, Pm), by simp, by simp⟩ (Ent.mk (id) (by simp [Za, Zp, Vc.bnd, St.get, St.find, Zb, SV.ren, Vc.S1.ren, At.ren, Res.ren, SV.bd, Vc.S1.bd, At.bd, Res.bd, Vc.upd, Vc.del, Kd.enc, Value.oneCell', Pe]) (by simp [Za, Zp, Vc.bnd, St.get, St.find, Zb, SV.ren, Vc.S1.ren, At.ren, Res.ren, SV.bd, Vc.S1.bd, At.bd, Res.bd, Vc.upd, Vc.del, Kd.enc, Value.oneCell', Pe]) (by simp [Za, Zp, Vc.bnd, St.get, St.find, Zb, SV.ren, Vc.S1.ren, At.ren, Res.ren, SV.bd, Vc.S1.bd, At.bd, Res.bd, Vc.upd, Vc.del, Kd.enc, Value.oneCell', Pe]) (by simp [Za, Zp, Vc.bnd, St.get, St.find, Zb, SV.ren, Vc.S1.ren, At.ren, Res.ren, SV.bd, Vc.S1.bd, At.bd, Res.bd, Vc.upd, Vc.del, Kd.enc, Value.oneCell', Pe])) ?_
    rintro ⟨⟨j, g⟩, hj, hg⟩
    simp only at hj hg
    by_cases hlt : j < sp.length
    · have hdrop : sp.drop j = sp.getD j Hb :: sp.drop (j + 1) := by
        rw [List.drop_eq_getElem_cons hlt]; simp [List.getD, hlt]
      have hmem : sp.getD j Hb ∈ sp := by simp [List.getD, hlt]
      generalize hy : sp.getD j Hb = y at hdrop hmem
      have hy' : sp.getD j (Kd.dflt .spot) = y := hy
      obtain ⟨⟨hy0, hy1⟩, hyn, hyne⟩ := hok y hmem
      have hyl := Ta hyn
      rw [hdrop] at hg
      simp only [R4] at hg
      have hw : IntKind.i64.wrap ((j : Int) + 1) = ((j + 1 : Nat) : Int) := Va (by omega)
      have ht : ((j : Int)).toNat = j := by omega
      repeat' (first | ((first | (with_reducible first | refine T.regs ?_ | refine T.cond ?_ | refine T.reg ?_ | refine T.ret ?_ | refine T.exit ?_ | refine T.skip ?_) | ((with_reducible first | refine T.dregs ?_ ?_ | refine T.dreg ?_ ?_ | refine T.dregts ?_ ?_ | refine T.dregt ?_ ?_ | refine T.danys ?_ ?_ | refine T.dany ?_ ?_); exact mix)); simp only [Yg, Z3, Z6, Vc.exK, Zk, Zn, Zh, Zi, Z2, Xq, Y7, Z4, Zj, Zl, Z5, Zm, Zo, Xo, Yb, Xn, Vc.ev, Vc.st, Vc.stq, Vc.gst, Xk, St.rd, St.get, St.put, St.find, Zb, St.new, Vc.gdc, Zv, Yv, Yw, Yu, Xl, Z0, Zy, Yn, Yi, Vc.S1.cells, Vc.upd, Vc.del, Zg, Vc.noV, Kd.enc, Kd.dec, Ins.cells, Ln.cells, Zs, Yd, Yq, Ye, Y4, Vc.rvs, Xe, Zf, Xb, Y2, Y6, Xa, Xg, Xf, Yo, Xi, Ya, Z1, Zd, Zz, Vc.kdL, Xr, Y3, Xj, Z7, SV.bd, Vc.S1.bd, At.bd, Value.oneCell', Int.reduceEq, Int.reduceNeg, Int.reduceLE, Int.reduceLT, Vc.lenOf, Yp, Xh, Z8, Vc.atK, Z9, Vc.unK, Vc.wfK, Zx, Zu, Zw, Zc, Yf, Zt, Ze, Yt, Vc.sg, Y1, Y8, Xd, Xc, Zr, Res.own, At.sub, Vc.S1.sub, SV.sub, Res.sub, Xm, Xp, Ys, Yx, Yr, Vc.frS, Kd.sz, Nat.reduceSub, ↓reduceIte, reduceCtorEq, Nat.reduceEqDiff, Nat.reduceAdd, Nat.reduceMul, Nat.reduceLeDiff, Nat.reduceLT, Nat.reduceBEq, Nat.reduceBNe, implies_true, Xs, Wb.rs, Wb.res, hy', hw, ht, Int.ofNat_lt]) | (with_reducible first | refine T.seq ?_ | refine T.block ?_ | assumption | refine And.intro ?_ ?_) | (intro h; first | (exfalso; omega) | exact (tf h ‹_›).elim | exact (tf ‹_› h).elim | skip))
      all_goals first | omega | skip
      all_goals try (first | (show (-9223372036854775808 : Int) ≤ y.at_; omega) | (show y.at_ ≤ (9223372036854775807 : Int); omega))
      exact ⟨⟨(j + 1, fun t => if t = y.name then some y.at_ else g t), hlt, hg⟩, (Ent.mk (id) (by simp [Za, Zp, Vc.bnd, St.get, St.find, Zb, SV.ren, Vc.S1.ren, At.ren, Res.ren, SV.bd, Vc.S1.bd, At.bd, Res.bd, Vc.upd, Vc.del, Kd.enc, Value.oneCell', hw]) (by simp [Za, Zp, Vc.bnd, St.get, St.find, Zb, SV.ren, Vc.S1.ren, At.ren, Res.ren, SV.bd, Vc.S1.bd, At.bd, Res.bd, Vc.upd, Vc.del, Kd.enc, Value.oneCell', hw]) (by simp [Za, Zp, Vc.bnd, St.get, St.find, Zb, SV.ren, Vc.S1.ren, At.ren, Res.ren, SV.bd, Vc.S1.bd, At.bd, Res.bd, Vc.upd, Vc.del, Kd.enc, Value.oneCell', hw]) (by simp [Za, Zp, Vc.bnd, St.get, St.find, Zb, SV.ren, Vc.S1.ren, At.ren, Res.ren, SV.bd, Vc.S1.bd, At.bd, Res.bd, Vc.upd, Vc.del, Kd.enc, Value.oneCell', hw])), by simp only; omega⟩
    · have hk2 : j = sp.length := by omega
      subst hk2
      rw [List.drop_length] at hg
      simp only [R4] at hg
      subst hg
      have hKn : Knows (I6 (R4 sp Pm)) (knA (R4 sp Pm)) l := by
        intro x hx hlb hrf
        have hxl := Ta ((Un (hw0 x hx) hlb).2 hrf).1
        unfold I6
        simp only
        rw [if_pos (by omega)]
      have hRs := M7 l (I6 (R4 sp Pm)) (knA (R4 sp Pm)) hKn (by omega)
      generalize hrs : Uf (knA (R4 sp Pm)) l = RS at hRs hR
      obtain ⟨ri, re, rk⟩ := RS
      simp only at hRs hR
      have hEn := Kb ri
      by_cases hre : re = 0
      · rw [if_neg (by simpa using hre)] at hR
        subst hre
        rw [← hR]
        repeat' (first | ((first | (with_reducible first | refine T.regs ?_ | refine T.cond ?_ | refine T.reg ?_ | refine T.ret ?_ | refine T.exit ?_ | refine T.skip ?_) | ((with_reducible first | refine T.dregs ?_ ?_ | refine T.dreg ?_ ?_ | refine T.dregts ?_ ?_ | refine T.dregt ?_ ?_ | refine T.danys ?_ ?_ | refine T.dany ?_ ?_); exact mix) | ((with_reducible refine Zq.gc (hRs) ?_ ?_); rotate_left) | ((with_reducible apply Zq.rw (hEn)); (focus ((repeat' (first | exact rfl | exact trivial | refine And.intro ?_ ?_ | (simp [SV.bd, Vc.S1.bd, At.bd, Z7, Xu, Ins.cells, Ln.cells]; done))); done)))); simp only [Yg, Z3, Z6, Vc.exK, Zk, Zn, Zh, Zi, Z2, Xq, Y7, Z4, Zj, Zl, Z5, Zm, Zo, Xo, Yb, Xn, Vc.ev, Vc.st, Vc.stq, Vc.gst, Xk, St.rd, St.get, St.put, St.find, Zb, St.new, Vc.gdc, Zv, Yv, Yw, Yu, Xl, Z0, Zy, Yn, Yi, Vc.S1.cells, Vc.upd, Vc.del, Zg, Vc.noV, Kd.enc, Kd.dec, Ins.cells, Ln.cells, Zs, Yd, Yq, Ye, Y4, Vc.rvs, Xe, Zf, Xb, Y2, Y6, Xa, Xg, Xf, Yo, Xi, Ya, Z1, Zd, Zz, Vc.kdL, Xr, Y3, Xj, Z7, SV.bd, Vc.S1.bd, At.bd, Value.oneCell', Int.reduceEq, Int.reduceNeg, Int.reduceLE, Int.reduceLT, Vc.lenOf, Yp, Xh, Z8, Vc.atK, Z9, Vc.unK, Vc.wfK, Zx, Zu, Zw, Zc, Yf, Zt, Ze, Yt, Vc.sg, Y1, Y8, Xd, Xc, Zr, Res.own, At.sub, Vc.S1.sub, SV.sub, Res.sub, Xm, Xp, Ys, Yx, Yr, Vc.frS, Kd.sz, Nat.reduceSub, ↓reduceIte, reduceCtorEq, Nat.reduceEqDiff, Nat.reduceAdd, Nat.reduceMul, Nat.reduceLeDiff, Nat.reduceLT, Nat.reduceBEq, Nat.reduceBNe, implies_true, Xs, Wb.rs, Wb.res, Int.ofNat_lt]) | (with_reducible first | refine T.seq ?_ | refine T.block ?_ | assumption | refine And.intro ?_ ?_) | (intro h; first | (exfalso; omega) | exact (tf h ‹_›).elim | exact (tf ‹_› h).elim | skip))
        all_goals first | omega | skip
        exact ⟨rfl, ⟨rfl, ⟨rfl, by simp, Rs _ _ 5 4 _ sp.length rfl rfl (by decide)⟩, trivial⟩, List.nodup_nil⟩
      · rw [if_pos hre] at hR
        rw [← hR]
        repeat' (first | ((first | (with_reducible first | refine T.regs ?_ | refine T.cond ?_ | refine T.reg ?_ | refine T.ret ?_ | refine T.exit ?_ | refine T.skip ?_) | ((with_reducible first | refine T.dregs ?_ ?_ | refine T.dreg ?_ ?_ | refine T.dregts ?_ ?_ | refine T.dregt ?_ ?_ | refine T.danys ?_ ?_ | refine T.dany ?_ ?_); exact mix) | ((with_reducible refine Zq.gc (hRs) ?_ ?_); rotate_left)); simp only [Yg, Z3, Z6, Vc.exK, Zk, Zn, Zh, Zi, Z2, Xq, Y7, Z4, Zj, Zl, Z5, Zm, Zo, Xo, Yb, Xn, Vc.ev, Vc.st, Vc.stq, Vc.gst, Xk, St.rd, St.get, St.put, St.find, Zb, St.new, Vc.gdc, Zv, Yv, Yw, Yu, Xl, Z0, Zy, Yn, Yi, Vc.S1.cells, Vc.upd, Vc.del, Zg, Vc.noV, Kd.enc, Kd.dec, Ins.cells, Ln.cells, Zs, Yd, Yq, Ye, Y4, Vc.rvs, Xe, Zf, Xb, Y2, Y6, Xa, Xg, Xf, Yo, Xi, Ya, Z1, Zd, Zz, Vc.kdL, Xr, Y3, Xj, Z7, SV.bd, Vc.S1.bd, At.bd, Value.oneCell', Int.reduceEq, Int.reduceNeg, Int.reduceLE, Int.reduceLT, Vc.lenOf, Yp, Xh, Z8, Vc.atK, Z9, Vc.unK, Vc.wfK, Zx, Zu, Zw, Zc, Yf, Zt, Ze, Yt, Vc.sg, Y1, Y8, Xd, Xc, Zr, Res.own, At.sub, Vc.S1.sub, SV.sub, Res.sub, Xm, Xp, Ys, Yx, Yr, Vc.frS, Kd.sz, Nat.reduceSub, ↓reduceIte, reduceCtorEq, Nat.reduceEqDiff, Nat.reduceAdd, Nat.reduceMul, Nat.reduceLeDiff, Nat.reduceLT, Nat.reduceBEq, Nat.reduceBNe, implies_true, Xs, Wb.rs, Wb.res, hre, Int.ofNat_lt]) | (with_reducible first | refine T.seq ?_ | refine T.block ?_ | assumption | refine And.intro ?_ ?_) | (intro h; first | (exfalso; omega) | exact (tf h ‹_›).elim | exact (tf ‹_› h).elim | skip))
        all_goals first | omega | skip
        exact ⟨rfl, ⟨rfl, ⟨rfl, by simp, Rs _ _ 5 4 _ sp.length rfl rfl (by decide)⟩, trivial⟩, List.nodup_nil⟩
  · rw [if_pos (by simpa using he)] at hR
    subst hR
    repeat' (first | ((first | (with_reducible first | refine T.regs ?_ | refine T.cond ?_ | refine T.reg ?_ | refine T.ret ?_ | refine T.exit ?_ | refine T.skip ?_) | ((with_reducible first | refine T.dregs ?_ ?_ | refine T.dreg ?_ ?_ | refine T.dregts ?_ ?_ | refine T.dregt ?_ ?_ | refine T.danys ?_ ?_ | refine T.dany ?_ ?_); exact mix) | ((with_reducible apply Zq.rw (hSp)); (focus ((repeat' (first | exact rfl | exact trivial | refine And.intro ?_ ?_ | (simp [SV.bd, Vc.S1.bd, At.bd, Z7, Xu, Ins.cells, Ln.cells]; done))); done)))); simp only [Yg, Z3, Z6, Vc.exK, Zk, Zn, Zh, Zi, Z2, Xq, Y7, Z4, Zj, Zl, Z5, Zm, Zo, Xo, Yb, Xn, Vc.ev, Vc.st, Vc.stq, Vc.gst, Xk, St.rd, St.get, St.put, St.find, Zb, St.new, Vc.gdc, Zv, Yv, Yw, Yu, Xl, Z0, Zy, Yn, Yi, Vc.S1.cells, Vc.upd, Vc.del, Zg, Vc.noV, Kd.enc, Kd.dec, Ins.cells, Ln.cells, Zs, Yd, Yq, Ye, Y4, Vc.rvs, Xe, Zf, Xb, Y2, Y6, Xa, Xg, Xf, Yo, Xi, Ya, Z1, Zd, Zz, Vc.kdL, Xr, Y3, Xj, Z7, SV.bd, Vc.S1.bd, At.bd, Value.oneCell', Int.reduceEq, Int.reduceNeg, Int.reduceLE, Int.reduceLT, Vc.lenOf, Yp, Xh, Z8, Vc.atK, Z9, Vc.unK, Vc.wfK, Zx, Zu, Zw, Zc, Yf, Zt, Ze, Yt, Vc.sg, Y1, Y8, Xd, Xc, Zr, Res.own, At.sub, Vc.S1.sub, SV.sub, Res.sub, Xm, Xp, Ys, Yx, Yr, Vc.frS, Kd.sz, Nat.reduceSub, ↓reduceIte, reduceCtorEq, Nat.reduceEqDiff, Nat.reduceAdd, Nat.reduceMul, Nat.reduceLeDiff, Nat.reduceLT, Nat.reduceBEq, Nat.reduceBNe, implies_true, Xs, Wb.rs, Wb.res, he, Int.ofNat_lt]) | (with_reducible first | refine T.seq ?_ | refine T.block ?_ | assumption | refine And.intro ?_ ?_) | (intro h; first | (exfalso; omega) | exact (tf h ‹_›).elim | exact (tf ‹_› h).elim | skip))
    all_goals first | omega | skip
end Go.Proofs.YtccjjcdjgibilaaGreatDoor
