/-
  A part of the proofs of this seat's laws: what instr.Encode computes. It has no conditions of its own.
-/
import Derived.Test.YtccjjcdjgibilaaGreatDoorInstr
namespace Go.Proofs.YtccjjcdjgibilaaGreatDoor
open Go.RowKit Vc
set_option linter.unusedVariables false
set_option linter.unusedSimpArgs false
attribute [local irreducible] T Zq Wa Ent RdC RwC V2 Yl Xt
def Tn (x : Ins) : Int := x.op * 1024 + (if Uh x.op then x.d * 128 else 0) + (if Ue x.op then x.s * 16 else 0)
def Ql (x : Ins) : List Int := Tn x :: (if W7 x.op then [x.imm] else [])
def Hi : List Ins → Nat → List Int → List Int × Int × Int
  | [], _, acc => (acc, 0, 0)
  | x :: l, k, acc => if W8 x = 0 then (if 65536 < (acc ++ Ql x).length then ([], 4, k) else Hi l (k + 1) (acc ++ Ql x)) else ([], W8 x, k)
def Ia (l : List Ins) : List Int × Int × Int := Hi l 0 []
theorem R3 (n : Int) (k : Nat) (h0 : 0 ≤ n) (h1 : n ≤ 1000000) (hk : k ≤ 20) : Ra .i64 n k = n * 2 ^ k := by
  unfold Ra
  have e : min (k : Int).toNat IntKind.i64.bits = k := by simp [IntKind.bits]; omega
  rw [e]
  have hp : (2 : Int) ^ k ≤ 1048576 := by
    have : (2 : Nat) ^ k ≤ 2 ^ 20 := Nat.pow_le_pow_right (by decide) hk
    have h2 : ((2 ^ k : Nat) : Int) ≤ ((2 ^ 20 : Nat) : Int) := by exact_mod_cast this
    simpa using h2
  have hp0 : (0 : Int) ≤ 2 ^ k := Int.le_of_lt (Int.pow_pos (by decide))
  have hm : n * 2 ^ k ≤ 1000000 * 1048576 := Int.mul_le_mul h1 hp hp0 (by decide)
  have hm0 : 0 ≤ n * 2 ^ k := Int.mul_nonneg h0 hp0
  exact Ma (by omega) (by omega)
theorem or_fin : ∀ (a : Fin 33) (b c : Fin 8), orI .i64 ((a.val : Int) * 1024 + (b.val : Int) * 128) ((c.val : Int) * 16) = (a.val : Int) * 1024 + (b.val : Int) * 128 + (c.val : Int) * 16 := by decide +kernel
theorem or_fin2 : ∀ (a : Fin 33) (b : Fin 8), orI .i64 ((a.val : Int) * 1024) ((b.val : Int) * 128) = (a.val : Int) * 1024 + (b.val : Int) * 128 := by decide +kernel
theorem or3 (a b c : Int) (h1 : 0 ≤ a ∧ a ≤ 32) (h2 : 0 ≤ b ∧ b ≤ 7) (h3 : 0 ≤ c ∧ c ≤ 7) : orI .i64 (a * 1024 + b * 128) (c * 16) = a * 1024 + b * 128 + c * 16 := by
  have := or_fin ⟨a.toNat, by omega⟩ ⟨b.toNat, by omega⟩ ⟨c.toNat, by omega⟩
  simp only [Int.toNat_of_nonneg h1.1, Int.toNat_of_nonneg h2.1, Int.toNat_of_nonneg h3.1] at this
  exact this
theorem or2 (a b : Int) (h1 : 0 ≤ a ∧ a ≤ 32) (h2 : 0 ≤ b ∧ b ≤ 7) : orI .i64 (a * 1024) (b * 128) = a * 1024 + b * 128 := by
  have := or_fin2 ⟨a.toNat, by omega⟩ ⟨b.toNat, by omega⟩
  simp only [Int.toNat_of_nonneg h1.1, Int.toNat_of_nonneg h2.1] at this
  exact this
theorem Rn (x : Ins) (h : W8 x = 0) : (0 ≤ x.op ∧ x.op ≤ 32) ∧ (Uh x.op = true → 0 ≤ x.d ∧ x.d ≤ 7) ∧ (Ue x.op = true → 0 ≤ x.s ∧ x.s ≤ 7) ∧ (W7 x.op = true → 0 ≤ x.imm ∧ x.imm ≤ 65535) := by
  unfold W8 at h
  split at h
  · omega
  · rename_i hk
    split at h
    · omega
    · rename_i h2
      simp only [Bool.or_eq_true, Bool.and_eq_true, Bool.not_eq_true', not_or, not_and, Bool.not_eq_false, reg, Of, decide_eq_true_eq] at h2
      simp only [Wy, Bool.not_eq_false, decide_eq_true_eq] at hk
      exact ⟨hk, h2.1, h2.2.1, h2.2.2⟩
theorem K8 (n : Int) (h0 : 0 ≤ n) (h1 : n ≤ 1000000) : Ra .i64 n 10 = n * 1024 := R3 n 10 h0 h1 (by decide)
theorem shl7 (n : Int) (h0 : 0 ≤ n) (h1 : n ≤ 1000000) : Ra .i64 n 7 = n * 128 := R3 n 7 h0 h1 (by decide)
theorem shl4 (n : Int) (h0 : 0 ≤ n) (h1 : n ≤ 1000000) : Ra .i64 n 4 = n * 16 := R3 n 4 h0 h1 (by decide)
theorem word_11 {x : Ins} (h : W8 x = 0) (hD : Uh x.op = true) (hS : Ue x.op = true) : orI .i64 (orI .i64 (Ra .i64 x.op 10) (Ra .i64 x.d 7)) (Ra .i64 x.s 4) = Tn x := by
  obtain ⟨h1, h2, h3, _⟩ := Rn x h
  have h2 := h2 hD
  have h3 := h3 hS
  rw [K8 _ h1.1 (by omega), shl7 _ h2.1 (by omega), shl4 _ h3.1 (by omega), or2 _ _ h1 h2, or3 _ _ _ h1 h2 h3]
  simp [Tn, hD, hS]
theorem word_10 {x : Ins} (h : W8 x = 0) (hD : Uh x.op = true) (hS : Ue x.op = false) : orI .i64 (Ra .i64 x.op 10) (Ra .i64 x.d 7) = Tn x := by
  obtain ⟨h1, h2, h3, _⟩ := Rn x h
  have h2 := h2 hD
  rw [K8 _ h1.1 (by omega), shl7 _ h2.1 (by omega), or2 _ _ h1 h2]
  simp [Tn, hD, hS]
theorem word_01 {x : Ins} (h : W8 x = 0) (hD : Uh x.op = false) (hS : Ue x.op = true) : orI .i64 (Ra .i64 x.op 10) (Ra .i64 x.s 4) = Tn x := by
  obtain ⟨h1, h2, h3, _⟩ := Rn x h
  have h3 := h3 hS
  have := or3 x.op 0 x.s h1 (by omega) h3
  rw [K8 _ h1.1 (by omega), shl4 _ h3.1 (by omega)]
  simpa [Tn, hD, hS] using this
theorem word_00 {x : Ins} (h : W8 x = 0) (hD : Uh x.op = false) (hS : Ue x.op = false) : Ra .i64 x.op 10 = Tn x := by
  obtain ⟨h1, h2, h3, _⟩ := Rn x h
  rw [K8 _ h1.1 (by omega)]
  simp [Tn, hD, hS]
theorem words_I {x : Ins} (h : W7 x.op = true) : Ql x = [Tn x, x.imm] := by simp [Ql, h]
theorem words_N {x : Ins} (h : W7 x.op = false) : Ql x = [Tn x] := by simp [Ql, h]
theorem Kb (l : List Ins) : RwC Tryz.prog 25 [.ro .ins l] 3 (.int .i64) (Ia l).1 [.agg [.int .i64 (Ia l).2.1, .int .i64 (Ia l).2.2]] := by
  refine Ww.fn.rw (by simp) (by repeat' (first | exact rfl | exact trivial | refine And.intro ?_ ?_ | (simp [SV.bd, Vc.S1.bd, At.bd, Z7, Xu, Ins.cells, Ln.cells]; done))) (by simp [S1.bd, At.bd]) fun w => ?_
  repeat' (first | ((first | (with_reducible first | refine T.regs ?_ | refine T.cond ?_ | refine T.reg ?_ | refine T.ret ?_ | refine T.exit ?_ | refine T.skip ?_) | ((with_reducible first | refine T.dregs ?_ ?_ | refine T.dreg ?_ ?_ | refine T.dregts ?_ ?_ | refine T.dregt ?_ ?_ | refine T.danys ?_ ?_ | refine T.dany ?_ ?_); exact mix)); simp only [Yg, Z3, Z6, Vc.exK, Zk, Zn, Zh, Zi, Z2, Xq, Y7, Z4, Zj, Zl, Z5, Zm, Zo, Xo, Yb, Xn, Vc.ev, Vc.st, Vc.stq, Vc.gst, Xk, St.rd, St.get, St.put, St.find, Zb, St.new, Vc.gdc, Zv, Yv, Yw, Yu, Xl, Z0, Zy, Yn, Yi, Vc.S1.cells, Vc.upd, Vc.del, Zg, Vc.noV, Kd.enc, Kd.dec, Ins.cells, Ln.cells, Zs, Yd, Yq, Ye, Y4, Vc.rvs, Xe, Zf, Xb, Y2, Y6, Xa, Xg, Xf, Yo, Xi, Ya, Z1, Zd, Zz, Vc.kdL, Xr, Y3, Xj, Z7, SV.bd, Vc.S1.bd, At.bd, Value.oneCell', Int.reduceEq, Int.reduceNeg, Int.reduceLE, Int.reduceLT, Vc.lenOf, Yp, Xh, Z8, Vc.atK, Z9, Vc.unK, Vc.wfK, Zx, Zu, Zw, Zc, Yf, Zt, Ze, Yt, Vc.sg, Y1, Y8, Xd, Xc, Zr, Res.own, At.sub, Vc.S1.sub, SV.sub, Res.sub, Xm, Xp, Ys, Yx, Yr, Vc.frS, Kd.sz, Nat.reduceSub, ↓reduceIte, reduceCtorEq, Nat.reduceEqDiff, Nat.reduceAdd, Nat.reduceMul, Nat.reduceLeDiff, Nat.reduceLT, Nat.reduceBEq, Nat.reduceBNe, implies_true, Xs, Ww.rs, Ww.res]) | (with_reducible first | refine T.seq ?_ | refine T.block ?_ | assumption | refine And.intro ?_ ?_) | (intro h; first | (exfalso; omega) | exact (tf h ‹_›).elim | exact (tf ‹_› h).elim | skip))
  refine T.weak (Ent.nilRow (t := 4) 3 (.int .i64) rfl) ?_
  simp only [Yg, Z3, Z6, Vc.exK, Zk, Zn, Zh, Zi, Z2, Xq, Y7, Z4, Zj, Zl, Z5, Zm, Zo, Xo, Yb, Xn, Vc.ev, Vc.st, Vc.stq, Vc.gst, Xk, St.rd, St.get, St.put, St.find, Zb, St.new, Vc.gdc, Zv, Yv, Yw, Yu, Xl, Z0, Zy, Yn, Yi, Vc.S1.cells, Vc.upd, Vc.del, Zg, Vc.noV, Kd.enc, Kd.dec, Ins.cells, Ln.cells, Zs, Yd, Yq, Ye, Y4, Vc.rvs, Xe, Zf, Xb, Y2, Y6, Xa, Xg, Xf, Yo, Xi, Ya, Z1, Zd, Zz, Vc.kdL, Xr, Y3, Xj, Z7, SV.bd, Vc.S1.bd, At.bd, Value.oneCell', Int.reduceEq, Int.reduceNeg, Int.reduceLE, Int.reduceLT, Vc.lenOf, Yp, Xh, Z8, Vc.atK, Z9, Vc.unK, Vc.wfK, Zx, Zu, Zw, Zc, Yf, Zt, Ze, Yt, Vc.sg, Y1, Y8, Xd, Xc, Zr, Res.own, At.sub, Vc.S1.sub, SV.sub, Res.sub, Xm, Xp, Ys, Yx, Yr, Vc.frS, Kd.sz, Nat.reduceSub, ↓reduceIte, reduceCtorEq, Nat.reduceEqDiff, Nat.reduceAdd, Nat.reduceMul, Nat.reduceLeDiff, Nat.reduceLT, Nat.reduceBEq, Nat.reduceBNe, implies_true, Xs]
  refine T.loop (ι := { p : Nat × List Int // p.1 ≤ l.length ∧ Hi (l.drop p.1) p.1 p.2 = Ia l ∧ p.1 ≤ p.2.length ∧ p.2.length ≤ 65536 })
    (fun x => ⟨[(4, .one (.a (.ref 2))), (12, .one (.a (.int .i64 (x.1.1 : Int)))), (11, .one (.a (.int .i64 l.length))), (10, .one (.a (.ref 0))), (3, .one (.a (.loc 1 0)))],
      [(2, .row 3 (.int .i64) x.1.2), (1, .cells 26 [.int .i64 0, .int .i64 0]), (0, .ro .ins l)], 3⟩)
    (fun x => l.length - x.1.1) ⟨(0, []), by simp, by simp [Ia], by simp, by simp⟩ (Ent.mk (id) (by simp [Za, Zp, Vc.bnd, St.get, St.find, Zb, SV.ren, Vc.S1.ren, At.ren, Res.ren, SV.bd, Vc.S1.bd, At.bd, Res.bd, Vc.upd, Vc.del, Kd.enc, Value.oneCell']) (by simp [Za, Zp, Vc.bnd, St.get, St.find, Zb, SV.ren, Vc.S1.ren, At.ren, Res.ren, SV.bd, Vc.S1.bd, At.bd, Res.bd, Vc.upd, Vc.del, Kd.enc, Value.oneCell']) (by simp [Za, Zp, Vc.bnd, St.get, St.find, Zb, SV.ren, Vc.S1.ren, At.ren, Res.ren, SV.bd, Vc.S1.bd, At.bd, Res.bd, Vc.upd, Vc.del, Kd.enc, Value.oneCell']) (by simp [Za, Zp, Vc.bnd, St.get, St.find, Zb, SV.ren, Vc.S1.ren, At.ren, Res.ren, SV.bd, Vc.S1.bd, At.bd, Res.bd, Vc.upd, Vc.del, Kd.enc, Value.oneCell'])) ?_
  rintro ⟨⟨k, acc⟩, hk, hrun, hka, hacc⟩
  simp only at hk hrun hka hacc
  have hw : IntKind.i64.wrap ((k : Int) + 1) = ((k + 1 : Nat) : Int) := Va (by omega)
  by_cases hlt : k < l.length
  · have hdrop : l.drop k = l.getD k ⟨0, 0, 0, 0⟩ :: l.drop (k + 1) := by
      rw [List.drop_eq_getElem_cons hlt]; simp [List.getD, hlt]
    generalize hx : l.getD k ⟨0, 0, 0, 0⟩ = x at hdrop
    have hx' : l.getD k (Kd.dflt .ins) = x := hx
    rw [hdrop] at hrun
    simp only [Hi] at hrun
    repeat' (first | ((first | (with_reducible first | refine T.regs ?_ | refine T.cond ?_ | refine T.reg ?_ | refine T.ret ?_ | refine T.exit ?_ | refine T.skip ?_) | ((with_reducible first | refine T.dregs ?_ ?_ | refine T.dreg ?_ ?_ | refine T.dregts ?_ ?_ | refine T.dregt ?_ ?_ | refine T.danys ?_ ?_ | refine T.dany ?_ ?_); exact mix) | ((with_reducible first | apply Zq.rd (U4 _) | apply Yl.rd (U4 _)); (focus ((repeat' (first | exact rfl | exact trivial | refine And.intro ?_ ?_ | (simp [SV.bd, Vc.S1.bd, At.bd, Z7, Xu, Ins.cells, Ln.cells]; done))); done))) | ((with_reducible first | apply Zq.rd (U0 _) | apply Yl.rd (U0 _)); (focus ((repeat' (first | exact rfl | exact trivial | refine And.intro ?_ ?_ | (simp [SV.bd, Vc.S1.bd, At.bd, Z7, Xu, Ins.cells, Ln.cells]; done))); done)))); simp only [Yg, Z3, Z6, Vc.exK, Zk, Zn, Zh, Zi, Z2, Xq, Y7, Z4, Zj, Zl, Z5, Zm, Zo, Xo, Yb, Xn, Vc.ev, Vc.st, Vc.stq, Vc.gst, Xk, St.rd, St.get, St.put, St.find, Zb, St.new, Vc.gdc, Zv, Yv, Yw, Yu, Xl, Z0, Zy, Yn, Yi, Vc.S1.cells, Vc.upd, Vc.del, Zg, Vc.noV, Kd.enc, Kd.dec, Ins.cells, Ln.cells, Zs, Yd, Yq, Ye, Y4, Vc.rvs, Xe, Zf, Xb, Y2, Y6, Xa, Xg, Xf, Yo, Xi, Ya, Z1, Zd, Zz, Vc.kdL, Xr, Y3, Xj, Z7, SV.bd, Vc.S1.bd, At.bd, Value.oneCell', Int.reduceEq, Int.reduceNeg, Int.reduceLE, Int.reduceLT, Vc.lenOf, Yp, Xh, Z8, Vc.atK, Z9, Vc.unK, Vc.wfK, Zx, Zu, Zw, Zc, Yf, Zt, Ze, Yt, Vc.sg, Y1, Y8, Xd, Xc, Zr, Res.own, At.sub, Vc.S1.sub, SV.sub, Res.sub, Xm, Xp, Ys, Yx, Yr, Vc.frS, Kd.sz, Nat.reduceSub, ↓reduceIte, reduceCtorEq, Nat.reduceEqDiff, Nat.reduceAdd, Nat.reduceMul, Nat.reduceLeDiff, Nat.reduceLT, Nat.reduceBEq, Nat.reduceBNe, implies_true, Xs, Ww.rs, Ww.res, hx', hw, Int.toNat_natCast, Int.ofNat_lt, List.length_append]) | (with_reducible first | refine T.seq ?_ | refine T.block ?_ | assumption | refine And.intro ?_ ?_) | (intro h; first | (exfalso; omega) | exact (tf h ‹_›).elim | exact (tf ‹_› h).elim | skip))
    all_goals first | omega | skip
    all_goals try (first | rw [word_11 ‹_› ‹_› ‹_›] | rw [word_10 ‹_› ‹_› ‹_›] | rw [word_01 ‹_› ‹_› ‹_›] | rw [word_00 ‹_› ‹_› ‹_›])
    all_goals try (first | rw [words_I ‹_›] at hrun | rw [words_N ‹_›] at hrun)
    all_goals try simp only [List.length_append, List.length_cons, List.length_nil, Nat.zero_add] at hrun
    all_goals first
      | (rw [if_neg ‹¬ W8 x = 0›] at hrun; rw [← hrun]; done)
      | (rw [if_pos ‹W8 x = 0›, if_pos (by omega)] at hrun; rw [← hrun]; done)
      | (rw [if_pos ‹W8 x = 0›, if_neg (by omega)] at hrun
         first
           | exact ⟨⟨(k + 1, acc ++ [Tn x, x.imm]), hlt, hrun, by simp; omega, by simp; omega⟩, (Ent.mk (fun n => if n = 2 then 8 else n) (by simp [Za, Zp, Vc.bnd, St.get, St.find, Zb, SV.ren, Vc.S1.ren, At.ren, Res.ren, SV.bd, Vc.S1.bd, At.bd, Res.bd, Vc.upd, Vc.del, Kd.enc, Value.oneCell']) (by simp [Za, Zp, Vc.bnd, St.get, St.find, Zb, SV.ren, Vc.S1.ren, At.ren, Res.ren, SV.bd, Vc.S1.bd, At.bd, Res.bd, Vc.upd, Vc.del, Kd.enc, Value.oneCell']) (by simp [Za, Zp, Vc.bnd, St.get, St.find, Zb, SV.ren, Vc.S1.ren, At.ren, Res.ren, SV.bd, Vc.S1.bd, At.bd, Res.bd, Vc.upd, Vc.del, Kd.enc, Value.oneCell']) (by simp [Za, Zp, Vc.bnd, St.get, St.find, Zb, SV.ren, Vc.S1.ren, At.ren, Res.ren, SV.bd, Vc.S1.bd, At.bd, Res.bd, Vc.upd, Vc.del, Kd.enc, Value.oneCell'])), by simp; omega⟩
           | exact ⟨⟨(k + 1, acc ++ [Tn x]), hlt, hrun, by simp; omega, by simp; omega⟩, (Ent.mk (fun n => if n = 2 then 6 else n) (by simp [Za, Zp, Vc.bnd, St.get, St.find, Zb, SV.ren, Vc.S1.ren, At.ren, Res.ren, SV.bd, Vc.S1.bd, At.bd, Res.bd, Vc.upd, Vc.del, Kd.enc, Value.oneCell']) (by simp [Za, Zp, Vc.bnd, St.get, St.find, Zb, SV.ren, Vc.S1.ren, At.ren, Res.ren, SV.bd, Vc.S1.bd, At.bd, Res.bd, Vc.upd, Vc.del, Kd.enc, Value.oneCell']) (by simp [Za, Zp, Vc.bnd, St.get, St.find, Zb, SV.ren, Vc.S1.ren, At.ren, Res.ren, SV.bd, Vc.S1.bd, At.bd, Res.bd, Vc.upd, Vc.del, Kd.enc, Value.oneCell']) (by simp [Za, Zp, Vc.bnd, St.get, St.find, Zb, SV.ren, Vc.S1.ren, At.ren, Res.ren, SV.bd, Vc.S1.bd, At.bd, Res.bd, Vc.upd, Vc.del, Kd.enc, Value.oneCell'])), by simp; omega⟩)
  · have hk2 : k = l.length := by omega
    subst hk2
    rw [List.drop_length] at hrun
    simp only [Hi] at hrun
    repeat' (first | ((first | (with_reducible first | refine T.regs ?_ | refine T.cond ?_ | refine T.reg ?_ | refine T.ret ?_ | refine T.exit ?_ | refine T.skip ?_) | ((with_reducible first | refine T.dregs ?_ ?_ | refine T.dreg ?_ ?_ | refine T.dregts ?_ ?_ | refine T.dregt ?_ ?_ | refine T.danys ?_ ?_ | refine T.dany ?_ ?_); exact mix)); simp only [Yg, Z3, Z6, Vc.exK, Zk, Zn, Zh, Zi, Z2, Xq, Y7, Z4, Zj, Zl, Z5, Zm, Zo, Xo, Yb, Xn, Vc.ev, Vc.st, Vc.stq, Vc.gst, Xk, St.rd, St.get, St.put, St.find, Zb, St.new, Vc.gdc, Zv, Yv, Yw, Yu, Xl, Z0, Zy, Yn, Yi, Vc.S1.cells, Vc.upd, Vc.del, Zg, Vc.noV, Kd.enc, Kd.dec, Ins.cells, Ln.cells, Zs, Yd, Yq, Ye, Y4, Vc.rvs, Xe, Zf, Xb, Y2, Y6, Xa, Xg, Xf, Yo, Xi, Ya, Z1, Zd, Zz, Vc.kdL, Xr, Y3, Xj, Z7, SV.bd, Vc.S1.bd, At.bd, Value.oneCell', Int.reduceEq, Int.reduceNeg, Int.reduceLE, Int.reduceLT, Vc.lenOf, Yp, Xh, Z8, Vc.atK, Z9, Vc.unK, Vc.wfK, Zx, Zu, Zw, Zc, Yf, Zt, Ze, Yt, Vc.sg, Y1, Y8, Xd, Xc, Zr, Res.own, At.sub, Vc.S1.sub, SV.sub, Res.sub, Xm, Xp, Ys, Yx, Yr, Vc.frS, Kd.sz, Nat.reduceSub, ↓reduceIte, reduceCtorEq, Nat.reduceEqDiff, Nat.reduceAdd, Nat.reduceMul, Nat.reduceLeDiff, Nat.reduceLT, Nat.reduceBEq, Nat.reduceBNe, implies_true, Xs, Ww.rs, Ww.res, hw, Int.toNat_natCast, Int.ofNat_lt]) | (with_reducible first | refine T.seq ?_ | refine T.block ?_ | assumption | refine And.intro ?_ ?_) | (intro h; first | (exfalso; omega) | exact (tf h ‹_›).elim | exact (tf ‹_› h).elim | skip))
    all_goals first | omega | (rw [← hrun]; done)
end Go.Proofs.YtccjjcdjgibilaaGreatDoor
