/-
  A part of the proofs of this seat's laws: what the reference's Encode and One compute. It has no conditions of its own.
-/
import Derived.Test.YtibkcfpcfbodaaaRefA
namespace Go.Proofs.Ytibkcfpcfbodaaa
open Go.RowKit Vc
set_option linter.unusedVariables false
set_option linter.unusedSimpArgs false
attribute [local irreducible] T Yi X9 Ent RdC RwC Tw Yu Xv
theorem Hf {x : Ins} (h : We x = 0) : 0 ≤ Vm x ∧ Vm x ≤ 65535 := by
  obtain ⟨h1, h2, h3, _⟩ := Tq x h
  unfold Vm
  split <;> split <;> simp_all <;> omega
theorem refword {x : Ins} (h : We x = 0) : IntKind.i64.wrap (IntKind.i64.wrap (IntKind.i64.wrap ((Vb x).op * 1024) + IntKind.i64.wrap ((Vb x).d * 128)) + IntKind.i64.wrap ((Vb x).s * 16)) = Vm x := by
  obtain ⟨h1, h2, h3, _⟩ := Tq x h
  have e : Vm x = (Vb x).op * 1024 + (Vb x).d * 128 + (Vb x).s * 16 := by
    unfold Vm Vb
    split <;> split <;> simp_all
  have hd : 0 ≤ (Vb x).d ∧ (Vb x).d ≤ 7 := by
    cases hD : Sa x.op <;> simp_all [Vb]
  have hs : 0 ≤ (Vb x).s ∧ (Vb x).s ≤ 7 := by
    cases hD : T9 x.op <;> simp_all [Vb]
  have ho : (Vb x).op = x.op := rfl
  rw [Tc (n := (Vb x).op * 1024) (by omega) (by omega), Tc (n := (Vb x).d * 128) (by omega) (by omega), Tc (n := (Vb x).s * 16) (by omega) (by omega),
    Tc (n := (Vb x).op * 1024 + (Vb x).d * 128) (by omega) (by omega), Tc (by omega) (by omega), e]
theorem Lt {x : Ins} (h : hasI x.op = true) : (Vb x).imm = x.imm := by simp [Vb, h]
theorem Nw (l : List Ins) : RwC Try.prog 33 [.ro .ins l] 3 (.int .i64) (Uv l).1 [.agg [.int .i64 (Uv l).2.1, .int .i64 (Uv l).2.2]] := by
  refine X7.fn.rw (by simp) (by repeat' (first | exact rfl | exact trivial | refine And.intro ?_ ?_ | (simp [SV.bd, Vc.S1.bd, At.bd, Zq, Yy, Ins.cells, Ln.cells]; done))) (by simp [S1.bd, At.bd]) fun w => ?_
  repeat' (first | ((first | (with_reducible first | refine T.regs ?_ | refine T.cond ?_ | refine T.reg ?_ | refine T.ret ?_ | refine T.exit ?_ | refine T.skip ?_) | ((with_reducible first | refine T.dregs ?_ ?_ | refine T.dreg ?_ ?_ | refine T.dregts ?_ ?_ | refine T.dregt ?_ ?_ | refine T.danys ?_ ?_ | refine T.dany ?_ ?_); exact mix)); simp only [Z9, Zw, Zz, Vc.exK, Zn, Zm, Zi, Zh, Zv, Xo, Y2, Zy, Zk, Zj, Zx, Zo, Zl, Xm, Z4, Xk, Vc.ev, Vc.st, Vc.stq, Vc.gst, Xh, St.rd, St.get, St.put, St.find, Zf, St.new, Vc.gdc, Zp, Yo, Yr, Yq, Xg, Zt, Zr, Yj, Yg, Vc.S1.cells, Vc.upd, Vc.del, Zg, Vc.noV, Kd.enc, Kd.dec, Ins.cells, Ln.cells, Yb, Z6, Yn, Z7, Y4, Vc.rvs, Xa, Ze, Y6, Y0, Y5, Y7, Y9, Xb, Yk, Xf, Z5, Zu, Zc, Zs, Y1, Xe, Zq, SV.bd, Vc.S1.bd, At.bd, Value.oneCell', Int.reduceEq, Int.reduceNeg, Int.reduceLE, Int.reduceLT, Vc.lenOf, Yl, Xd, Z2, Vc.atK, Z3, Vc.unK, Vc.wfK, Yf, Yc, Ye, Z0, Z8, Yd, Z1, Ys, Vc.sg, Yz, Y3, Xc, Y8, Ya, Res.own, At.sub, Vc.S1.sub, SV.sub, Res.sub, Xi, Xn, Yt, Yp, Ym, Vc.frS, Kd.sz, Nat.reduceSub, ↓reduceIte, reduceCtorEq, Nat.reduceEqDiff, Nat.reduceAdd, Nat.reduceMul, Nat.reduceLeDiff, Nat.reduceLT, Nat.reduceBEq, Nat.reduceBNe, implies_true, Xp, X7.rs, X7.res]) | (with_reducible first | refine T.seq ?_ | refine T.block ?_ | assumption | refine And.intro ?_ ?_) | (intro h; first | (exfalso; omega) | exact (tf h ‹_›).elim | exact (tf ‹_› h).elim | skip))
  refine T.weak (Ent.nilRow (t := 4) 3 (.int .i64) rfl) ?_
  simp only [Z9, Zw, Zz, Vc.exK, Zn, Zm, Zi, Zh, Zv, Xo, Y2, Zy, Zk, Zj, Zx, Zo, Zl, Xm, Z4, Xk, Vc.ev, Vc.st, Vc.stq, Vc.gst, Xh, St.rd, St.get, St.put, St.find, Zf, St.new, Vc.gdc, Zp, Yo, Yr, Yq, Xg, Zt, Zr, Yj, Yg, Vc.S1.cells, Vc.upd, Vc.del, Zg, Vc.noV, Kd.enc, Kd.dec, Ins.cells, Ln.cells, Yb, Z6, Yn, Z7, Y4, Vc.rvs, Xa, Ze, Y6, Y0, Y5, Y7, Y9, Xb, Yk, Xf, Z5, Zu, Zc, Zs, Y1, Xe, Zq, SV.bd, Vc.S1.bd, At.bd, Value.oneCell', Int.reduceEq, Int.reduceNeg, Int.reduceLE, Int.reduceLT, Vc.lenOf, Yl, Xd, Z2, Vc.atK, Z3, Vc.unK, Vc.wfK, Yf, Yc, Ye, Z0, Z8, Yd, Z1, Ys, Vc.sg, Yz, Y3, Xc, Y8, Ya, Res.own, At.sub, Vc.S1.sub, SV.sub, Res.sub, Xi, Xn, Yt, Yp, Ym, Vc.frS, Kd.sz, Nat.reduceSub, ↓reduceIte, reduceCtorEq, Nat.reduceEqDiff, Nat.reduceAdd, Nat.reduceMul, Nat.reduceLeDiff, Nat.reduceLT, Nat.reduceBEq, Nat.reduceBNe, implies_true, Xp]
  repeat' (first | ((first | (with_reducible first | refine T.regs ?_ | refine T.cond ?_ | refine T.reg ?_ | refine T.ret ?_ | refine T.exit ?_ | refine T.skip ?_) | ((with_reducible first | refine T.dregs ?_ ?_ | refine T.dreg ?_ ?_ | refine T.dregts ?_ ?_ | refine T.dregt ?_ ?_ | refine T.danys ?_ ?_ | refine T.dany ?_ ?_); exact mix)); simp only [Z9, Zw, Zz, Vc.exK, Zn, Zm, Zi, Zh, Zv, Xo, Y2, Zy, Zk, Zj, Zx, Zo, Zl, Xm, Z4, Xk, Vc.ev, Vc.st, Vc.stq, Vc.gst, Xh, St.rd, St.get, St.put, St.find, Zf, St.new, Vc.gdc, Zp, Yo, Yr, Yq, Xg, Zt, Zr, Yj, Yg, Vc.S1.cells, Vc.upd, Vc.del, Zg, Vc.noV, Kd.enc, Kd.dec, Ins.cells, Ln.cells, Yb, Z6, Yn, Z7, Y4, Vc.rvs, Xa, Ze, Y6, Y0, Y5, Y7, Y9, Xb, Yk, Xf, Z5, Zu, Zc, Zs, Y1, Xe, Zq, SV.bd, Vc.S1.bd, At.bd, Value.oneCell', Int.reduceEq, Int.reduceNeg, Int.reduceLE, Int.reduceLT, Vc.lenOf, Yl, Xd, Z2, Vc.atK, Z3, Vc.unK, Vc.wfK, Yf, Yc, Ye, Z0, Z8, Yd, Z1, Ys, Vc.sg, Yz, Y3, Xc, Y8, Ya, Res.own, At.sub, Vc.S1.sub, SV.sub, Res.sub, Xi, Xn, Yt, Yp, Ym, Vc.frS, Kd.sz, Nat.reduceSub, ↓reduceIte, reduceCtorEq, Nat.reduceEqDiff, Nat.reduceAdd, Nat.reduceMul, Nat.reduceLeDiff, Nat.reduceLT, Nat.reduceBEq, Nat.reduceBNe, implies_true, Xp, X7.rs, X7.res]) | (with_reducible first | refine T.seq ?_ | refine T.block ?_ | assumption | refine And.intro ?_ ?_) | (intro h; first | (exfalso; omega) | exact (tf h ‹_›).elim | exact (tf ‹_› h).elim | skip))
  refine T.loop (ι := { p : Nat × List Int // p.1 ≤ l.length ∧ R3 (l.drop p.1) p.1 p.2 = Uv l ∧ p.1 ≤ p.2.length ∧ p.2.length ≤ 65536 })
    (fun x => ⟨[(4, .one (.a (.ref 2))), (11, .one (.a (.int .i64 (x.1.1 : Int)))), (10, .one (.a (.int .i64 l.length))), (9, .one (.a (.ref 0))), (3, .one (.a (.loc 1 0)))],
      [(2, .row 3 (.int .i64) x.1.2), (1, .cells 29 [.int .i64 0, .int .i64 0]), (0, .ro .ins l)], 3⟩)
    (fun x => l.length - x.1.1) ⟨(0, []), by simp, by simp [Uv], by simp, by simp⟩ (Ent.mk (id) (by simp [Za, Zb, Vc.bnd, St.get, St.find, Zf, SV.ren, Vc.S1.ren, At.ren, Res.ren, SV.bd, Vc.S1.bd, At.bd, Res.bd, Vc.upd, Vc.del, Kd.enc, Value.oneCell']) (by simp [Za, Zb, Vc.bnd, St.get, St.find, Zf, SV.ren, Vc.S1.ren, At.ren, Res.ren, SV.bd, Vc.S1.bd, At.bd, Res.bd, Vc.upd, Vc.del, Kd.enc, Value.oneCell']) (by simp [Za, Zb, Vc.bnd, St.get, St.find, Zf, SV.ren, Vc.S1.ren, At.ren, Res.ren, SV.bd, Vc.S1.bd, At.bd, Res.bd, Vc.upd, Vc.del, Kd.enc, Value.oneCell']) (by simp [Za, Zb, Vc.bnd, St.get, St.find, Zf, SV.ren, Vc.S1.ren, At.ren, Res.ren, SV.bd, Vc.S1.bd, At.bd, Res.bd, Vc.upd, Vc.del, Kd.enc, Value.oneCell'])) ?_
  rintro ⟨⟨k, acc⟩, hk, hrun, hka, hacc⟩
  simp only at hk hrun hka hacc
  have hw : IntKind.i64.wrap ((k : Int) + 1) = ((k + 1 : Nat) : Int) := Wf (by omega)
  by_cases hlt : k < l.length
  · have hdrop : l.drop k = l.getD k ⟨0, 0, 0, 0⟩ :: l.drop (k + 1) := by
      rw [List.drop_eq_getElem_cons hlt]; simp [List.getD, hlt]
    generalize hx : l.getD k ⟨0, 0, 0, 0⟩ = x at hdrop
    have hx' : l.getD k (Kd.dflt .ins) = x := hx
    rw [hdrop] at hrun
    simp only [R3] at hrun
    repeat' (first | ((first | (with_reducible first | refine T.regs ?_ | refine T.cond ?_ | refine T.reg ?_ | refine T.ret ?_ | refine T.exit ?_ | refine T.skip ?_) | ((with_reducible first | refine T.dregs ?_ ?_ | refine T.dreg ?_ ?_ | refine T.dregts ?_ ?_ | refine T.dregt ?_ ?_ | refine T.danys ?_ ?_ | refine T.dany ?_ ?_); exact mix) | ((with_reducible first | apply Yi.rd (U1 _) | apply Yu.rd (U1 _)); (focus ((repeat' (first | exact rfl | exact trivial | refine And.intro ?_ ?_ | (simp [SV.bd, Vc.S1.bd, At.bd, Zq, Yy, Ins.cells, Ln.cells]; done))); done))) | ((with_reducible first | apply Yi.rd (Lr _) | apply Yu.rd (Lr _)); (focus ((repeat' (first | exact rfl | exact trivial | refine And.intro ?_ ?_ | (simp [SV.bd, Vc.S1.bd, At.bd, Zq, Yy, Ins.cells, Ln.cells]; done))); done))) | ((with_reducible first | apply Yi.rd (Nx _) | apply Yu.rd (Nx _)); (focus ((repeat' (first | exact rfl | exact trivial | refine And.intro ?_ ?_ | (simp [SV.bd, Vc.S1.bd, At.bd, Zq, Yy, Ins.cells, Ln.cells]; done))); done)))); simp only [Z9, Zw, Zz, Vc.exK, Zn, Zm, Zi, Zh, Zv, Xo, Y2, Zy, Zk, Zj, Zx, Zo, Zl, Xm, Z4, Xk, Vc.ev, Vc.st, Vc.stq, Vc.gst, Xh, St.rd, St.get, St.put, St.find, Zf, St.new, Vc.gdc, Zp, Yo, Yr, Yq, Xg, Zt, Zr, Yj, Yg, Vc.S1.cells, Vc.upd, Vc.del, Zg, Vc.noV, Kd.enc, Kd.dec, Ins.cells, Ln.cells, Yb, Z6, Yn, Z7, Y4, Vc.rvs, Xa, Ze, Y6, Y0, Y5, Y7, Y9, Xb, Yk, Xf, Z5, Zu, Zc, Zs, Y1, Xe, Zq, SV.bd, Vc.S1.bd, At.bd, Value.oneCell', Int.reduceEq, Int.reduceNeg, Int.reduceLE, Int.reduceLT, Vc.lenOf, Yl, Xd, Z2, Vc.atK, Z3, Vc.unK, Vc.wfK, Yf, Yc, Ye, Z0, Z8, Yd, Z1, Ys, Vc.sg, Yz, Y3, Xc, Y8, Ya, Res.own, At.sub, Vc.S1.sub, SV.sub, Res.sub, Xi, Xn, Yt, Yp, Ym, Vc.frS, Kd.sz, Nat.reduceSub, ↓reduceIte, reduceCtorEq, Nat.reduceEqDiff, Nat.reduceAdd, Nat.reduceMul, Nat.reduceLeDiff, Nat.reduceLT, Nat.reduceBEq, Nat.reduceBNe, implies_true, Xp, X7.rs, X7.res, hx', hw, Int.toNat_natCast, Int.ofNat_lt, List.length_append]) | (with_reducible first | refine T.seq ?_ | refine T.block ?_ | assumption | refine And.intro ?_ ?_) | (intro h; first | (exfalso; omega) | exact (tf h ‹_›).elim | exact (tf ‹_› h).elim | skip))
    all_goals first | omega | skip
    all_goals try rw [refword ‹We x = 0›]
    all_goals try rw [Lt ‹hasI x.op = true›]
    all_goals try (first | rw [M1 ‹_›] at hrun | rw [Mu ‹_›] at hrun)
    all_goals try simp only [List.length_append, List.length_cons, List.length_nil, Nat.zero_add] at hrun
    all_goals first
      | (rw [if_neg ‹¬ We x = 0›] at hrun; rw [← hrun]; done)
      | (rw [if_pos ‹We x = 0›, if_pos (by omega)] at hrun; rw [← hrun]; done)
      | (rw [if_pos ‹We x = 0›, if_neg (by omega)] at hrun
         first
           | exact ⟨⟨(k + 1, acc ++ [Vm x, x.imm]), hlt, hrun, by simp; omega, by simp; omega⟩, (Ent.mk (fun n => if n = 2 then 8 else n) (by simp [Za, Zb, Vc.bnd, St.get, St.find, Zf, SV.ren, Vc.S1.ren, At.ren, Res.ren, SV.bd, Vc.S1.bd, At.bd, Res.bd, Vc.upd, Vc.del, Kd.enc, Value.oneCell']) (by simp [Za, Zb, Vc.bnd, St.get, St.find, Zf, SV.ren, Vc.S1.ren, At.ren, Res.ren, SV.bd, Vc.S1.bd, At.bd, Res.bd, Vc.upd, Vc.del, Kd.enc, Value.oneCell']) (by simp [Za, Zb, Vc.bnd, St.get, St.find, Zf, SV.ren, Vc.S1.ren, At.ren, Res.ren, SV.bd, Vc.S1.bd, At.bd, Res.bd, Vc.upd, Vc.del, Kd.enc, Value.oneCell']) (by simp [Za, Zb, Vc.bnd, St.get, St.find, Zf, SV.ren, Vc.S1.ren, At.ren, Res.ren, SV.bd, Vc.S1.bd, At.bd, Res.bd, Vc.upd, Vc.del, Kd.enc, Value.oneCell'])), by simp; omega⟩
           | exact ⟨⟨(k + 1, acc ++ [Vm x]), hlt, hrun, by simp; omega, by simp; omega⟩, (Ent.mk (fun n => if n = 2 then 6 else n) (by simp [Za, Zb, Vc.bnd, St.get, St.find, Zf, SV.ren, Vc.S1.ren, At.ren, Res.ren, SV.bd, Vc.S1.bd, At.bd, Res.bd, Vc.upd, Vc.del, Kd.enc, Value.oneCell']) (by simp [Za, Zb, Vc.bnd, St.get, St.find, Zf, SV.ren, Vc.S1.ren, At.ren, Res.ren, SV.bd, Vc.S1.bd, At.bd, Res.bd, Vc.upd, Vc.del, Kd.enc, Value.oneCell']) (by simp [Za, Zb, Vc.bnd, St.get, St.find, Zf, SV.ren, Vc.S1.ren, At.ren, Res.ren, SV.bd, Vc.S1.bd, At.bd, Res.bd, Vc.upd, Vc.del, Kd.enc, Value.oneCell']) (by simp [Za, Zb, Vc.bnd, St.get, St.find, Zf, SV.ren, Vc.S1.ren, At.ren, Res.ren, SV.bd, Vc.S1.bd, At.bd, Res.bd, Vc.upd, Vc.del, Kd.enc, Value.oneCell'])), by simp; omega⟩)
  · have hk2 : k = l.length := by omega
    subst hk2
    rw [List.drop_length] at hrun
    simp only [R3] at hrun
    repeat' (first | ((first | (with_reducible first | refine T.regs ?_ | refine T.cond ?_ | refine T.reg ?_ | refine T.ret ?_ | refine T.exit ?_ | refine T.skip ?_) | ((with_reducible first | refine T.dregs ?_ ?_ | refine T.dreg ?_ ?_ | refine T.dregts ?_ ?_ | refine T.dregt ?_ ?_ | refine T.danys ?_ ?_ | refine T.dany ?_ ?_); exact mix)); simp only [Z9, Zw, Zz, Vc.exK, Zn, Zm, Zi, Zh, Zv, Xo, Y2, Zy, Zk, Zj, Zx, Zo, Zl, Xm, Z4, Xk, Vc.ev, Vc.st, Vc.stq, Vc.gst, Xh, St.rd, St.get, St.put, St.find, Zf, St.new, Vc.gdc, Zp, Yo, Yr, Yq, Xg, Zt, Zr, Yj, Yg, Vc.S1.cells, Vc.upd, Vc.del, Zg, Vc.noV, Kd.enc, Kd.dec, Ins.cells, Ln.cells, Yb, Z6, Yn, Z7, Y4, Vc.rvs, Xa, Ze, Y6, Y0, Y5, Y7, Y9, Xb, Yk, Xf, Z5, Zu, Zc, Zs, Y1, Xe, Zq, SV.bd, Vc.S1.bd, At.bd, Value.oneCell', Int.reduceEq, Int.reduceNeg, Int.reduceLE, Int.reduceLT, Vc.lenOf, Yl, Xd, Z2, Vc.atK, Z3, Vc.unK, Vc.wfK, Yf, Yc, Ye, Z0, Z8, Yd, Z1, Ys, Vc.sg, Yz, Y3, Xc, Y8, Ya, Res.own, At.sub, Vc.S1.sub, SV.sub, Res.sub, Xi, Xn, Yt, Yp, Ym, Vc.frS, Kd.sz, Nat.reduceSub, ↓reduceIte, reduceCtorEq, Nat.reduceEqDiff, Nat.reduceAdd, Nat.reduceMul, Nat.reduceLeDiff, Nat.reduceLT, Nat.reduceBEq, Nat.reduceBNe, implies_true, Xp, X7.rs, X7.res, hw, Int.toNat_natCast, Int.ofNat_lt]) | (with_reducible first | refine T.seq ?_ | refine T.block ?_ | assumption | refine And.intro ?_ ?_) | (intro h; first | (exfalso; omega) | exact (tf h ‹_›).elim | exact (tf ‹_› h).elim | skip))
    all_goals first | omega | (rw [← hrun]; done)
theorem Li (x : Ins) : Uv [x] = if We x = 0 then (W7 x, 0, 0) else ([], We x, 0) := by
  simp only [Uv, R3, List.nil_append]
  split
  · rw [if_neg]
    unfold W7; split <;> simp
  · rfl
theorem Jm {x : Int} (hwx : Ue x = true) (imm : Int) (hi : hasI (x / 1024) = true → Ue imm = true) :
    okW x = true ↔ (We (Ph x imm) = 0 ∧ Vm (Ph x imm) = x) := by
  have hb := P6 hwx
  simp only [okW, hwx, Bool.true_and, Bool.and_eq_true, Bool.or_eq_true, decide_eq_true_eq]
  unfold We Vm Ph
  simp only
  have hr : ∀ y : Int, reg (y % 8) = true := fun y => by simp [reg]; omega
  cases hk : V2 (x / 1024) <;> cases hd : Sa (x / 1024) <;> cases hs : T9 (x / 1024) <;> cases hI : hasI (x / 1024) <;> simp_all [hr] <;> omega
end Go.Proofs.Ytibkcfpcfbodaaa
