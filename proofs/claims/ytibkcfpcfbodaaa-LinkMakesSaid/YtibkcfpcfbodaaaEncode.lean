/-
  A part of the proofs of this seat's laws: what instr.Encode computes. It has no conditions of its own.
-/
import Derived.Test.YtibkcfpcfbodaaaInstr
namespace Go.Proofs.Ytibkcfpcfbodaaa
open Go.RowKit Vc
set_option linter.unusedVariables false
set_option linter.unusedSimpArgs false
attribute [local irreducible] T Yi X9 Ent RdC RwC Tw Yu Xv
def Vm (x : Ins) : Int := x.op * 1024 + (if Sa x.op then x.d * 128 else 0) + (if T9 x.op then x.s * 16 else 0)
def W7 (x : Ins) : List Int := Vm x :: (if hasI x.op then [x.imm] else [])
def R3 : List Ins → Nat → List Int → List Int × Int × Int
  | [], _, acc => (acc, 0, 0)
  | x :: l, k, acc => if We x = 0 then (if 65536 < (acc ++ W7 x).length then ([], 4, k) else R3 l (k + 1) (acc ++ W7 x)) else ([], We x, k)
def Uv (l : List Ins) : List Int × Int × Int := R3 l 0 []
theorem Px (n : Int) (k : Nat) (h0 : 0 ≤ n) (h1 : n ≤ 1000000) (hk : k ≤ 20) : Q5 .i64 n k = n * 2 ^ k := by
  unfold Q5
  have e : min (k : Int).toNat IntKind.i64.bits = k := by simp [IntKind.bits]; omega
  rw [e]
  have hp : (2 : Int) ^ k ≤ 1048576 := by
    have : (2 : Nat) ^ k ≤ 2 ^ 20 := Nat.pow_le_pow_right (by decide) hk
    have h2 : ((2 ^ k : Nat) : Int) ≤ ((2 ^ 20 : Nat) : Int) := by exact_mod_cast this
    simpa using h2
  have hp0 : (0 : Int) ≤ 2 ^ k := Int.le_of_lt (Int.pow_pos (by decide))
  have hm : n * 2 ^ k ≤ 1000000 * 1048576 := Int.mul_le_mul h1 hp hp0 (by decide)
  have hm0 : 0 ≤ n * 2 ^ k := Int.mul_nonneg h0 hp0
  exact Tc (by omega) (by omega)
theorem or_fin : ∀ (a : Fin 33) (b c : Fin 8), orI .i64 ((a.val : Int) * 1024 + (b.val : Int) * 128) ((c.val : Int) * 16) = (a.val : Int) * 1024 + (b.val : Int) * 128 + (c.val : Int) * 16 := by decide +kernel
theorem or_fin2 : ∀ (a : Fin 33) (b : Fin 8), orI .i64 ((a.val : Int) * 1024) ((b.val : Int) * 128) = (a.val : Int) * 1024 + (b.val : Int) * 128 := by decide +kernel
theorem or3 (a b c : Int) (h1 : 0 ≤ a ∧ a ≤ 32) (h2 : 0 ≤ b ∧ b ≤ 7) (h3 : 0 ≤ c ∧ c ≤ 7) : orI .i64 (a * 1024 + b * 128) (c * 16) = a * 1024 + b * 128 + c * 16 := by
  have := or_fin ⟨a.toNat, by omega⟩ ⟨b.toNat, by omega⟩ ⟨c.toNat, by omega⟩
  simp only [Int.toNat_of_nonneg h1.1, Int.toNat_of_nonneg h2.1, Int.toNat_of_nonneg h3.1] at this
  exact this
theorem or2 (a b : Int) (h1 : 0 ≤ a ∧ a ≤ 32) (h2 : 0 ≤ b ∧ b ≤ 7) : orI .i64 (a * 1024) (b * 128) = a * 1024 + b * 128 := by
  have := or_fin2 ⟨a.toNat, by omega⟩ ⟨b.toNat, by omega⟩
  simp only [Int.toNat_of_nonneg h1.1, Int.toNat_of_nonneg h2.1] at this
  exact this
theorem Tq (x : Ins) (h : We x = 0) : (0 ≤ x.op ∧ x.op ≤ 32) ∧ (Sa x.op = true → 0 ≤ x.d ∧ x.d ≤ 7) ∧ (T9 x.op = true → 0 ≤ x.s ∧ x.s ≤ 7) ∧ (hasI x.op = true → 0 ≤ x.imm ∧ x.imm ≤ 65535) := by
  unfold We at h
  split at h
  · omega
  · rename_i hk
    split at h
    · omega
    · rename_i h2
      simp only [Bool.or_eq_true, Bool.and_eq_true, Bool.not_eq_true', not_or, not_and, Bool.not_eq_false, reg, Ue, decide_eq_true_eq] at h2
      simp only [V2, Bool.not_eq_false, decide_eq_true_eq] at hk
      exact ⟨hk, h2.1, h2.2.1, h2.2.2⟩
theorem Jn (n : Int) (h0 : 0 ≤ n) (h1 : n ≤ 1000000) : Q5 .i64 n 10 = n * 1024 := Px n 10 h0 h1 (by decide)
theorem shl7 (n : Int) (h0 : 0 ≤ n) (h1 : n ≤ 1000000) : Q5 .i64 n 7 = n * 128 := Px n 7 h0 h1 (by decide)
theorem shl4 (n : Int) (h0 : 0 ≤ n) (h1 : n ≤ 1000000) : Q5 .i64 n 4 = n * 16 := Px n 4 h0 h1 (by decide)
theorem word_11 {x : Ins} (h : We x = 0) (hD : Sa x.op = true) (hS : T9 x.op = true) : orI .i64 (orI .i64 (Q5 .i64 x.op 10) (Q5 .i64 x.d 7)) (Q5 .i64 x.s 4) = Vm x := by
  obtain ⟨h1, h2, h3, _⟩ := Tq x h
  have h2 := h2 hD
  have h3 := h3 hS
  rw [Jn _ h1.1 (by omega), shl7 _ h2.1 (by omega), shl4 _ h3.1 (by omega), or2 _ _ h1 h2, or3 _ _ _ h1 h2 h3]
  simp [Vm, hD, hS]
theorem word_10 {x : Ins} (h : We x = 0) (hD : Sa x.op = true) (hS : T9 x.op = false) : orI .i64 (Q5 .i64 x.op 10) (Q5 .i64 x.d 7) = Vm x := by
  obtain ⟨h1, h2, h3, _⟩ := Tq x h
  have h2 := h2 hD
  rw [Jn _ h1.1 (by omega), shl7 _ h2.1 (by omega), or2 _ _ h1 h2]
  simp [Vm, hD, hS]
theorem word_01 {x : Ins} (h : We x = 0) (hD : Sa x.op = false) (hS : T9 x.op = true) : orI .i64 (Q5 .i64 x.op 10) (Q5 .i64 x.s 4) = Vm x := by
  obtain ⟨h1, h2, h3, _⟩ := Tq x h
  have h3 := h3 hS
  have := or3 x.op 0 x.s h1 (by omega) h3
  rw [Jn _ h1.1 (by omega), shl4 _ h3.1 (by omega)]
  simpa [Vm, hD, hS] using this
theorem word_00 {x : Ins} (h : We x = 0) (hD : Sa x.op = false) (hS : T9 x.op = false) : Q5 .i64 x.op 10 = Vm x := by
  obtain ⟨h1, h2, h3, _⟩ := Tq x h
  rw [Jn _ h1.1 (by omega)]
  simp [Vm, hD, hS]
theorem M1 {x : Ins} (h : hasI x.op = true) : W7 x = [Vm x, x.imm] := by simp [W7, h]
theorem Mu {x : Ins} (h : hasI x.op = false) : W7 x = [Vm x] := by simp [W7, h]
theorem Oo (l : List Ins) : RwC Try.prog 29 [.ro .ins l] 3 (.int .i64) (Uv l).1 [.agg [.int .i64 (Uv l).2.1, .int .i64 (Uv l).2.2]] := by
  refine Ve.fn.rw (by simp) (by repeat' (first | exact rfl | exact trivial | refine And.intro ?_ ?_ | (simp [SV.bd, Vc.S1.bd, At.bd, Zq, Yy, Ins.cells, Ln.cells]; done))) (by simp [S1.bd, At.bd]) fun w => ?_
  repeat' (first | ((first | (with_reducible first | refine T.regs ?_ | refine T.cond ?_ | refine T.reg ?_ | refine T.ret ?_ | refine T.exit ?_ | refine T.skip ?_) | ((with_reducible first | refine T.dregs ?_ ?_ | refine T.dreg ?_ ?_ | refine T.dregts ?_ ?_ | refine T.dregt ?_ ?_ | refine T.danys ?_ ?_ | refine T.dany ?_ ?_); exact mix)); simp only [Z9, Zw, Zz, Vc.exK, Zn, Zm, Zi, Zh, Zv, Xo, Y2, Zy, Zk, Zj, Zx, Zo, Zl, Xm, Z4, Xk, Vc.ev, Vc.st, Vc.stq, Vc.gst, Xh, St.rd, St.get, St.put, St.find, Zf, St.new, Vc.gdc, Zp, Yo, Yr, Yq, Xg, Zt, Zr, Yj, Yg, Vc.S1.cells, Vc.upd, Vc.del, Zg, Vc.noV, Kd.enc, Kd.dec, Ins.cells, Ln.cells, Yb, Z6, Yn, Z7, Y4, Vc.rvs, Xa, Ze, Y6, Y0, Y5, Y7, Y9, Xb, Yk, Xf, Z5, Zu, Zc, Zs, Y1, Xe, Zq, SV.bd, Vc.S1.bd, At.bd, Value.oneCell', Int.reduceEq, Int.reduceNeg, Int.reduceLE, Int.reduceLT, Vc.lenOf, Yl, Xd, Z2, Vc.atK, Z3, Vc.unK, Vc.wfK, Yf, Yc, Ye, Z0, Z8, Yd, Z1, Ys, Vc.sg, Yz, Y3, Xc, Y8, Ya, Res.own, At.sub, Vc.S1.sub, SV.sub, Res.sub, Xi, Xn, Yt, Yp, Ym, Vc.frS, Kd.sz, Nat.reduceSub, ↓reduceIte, reduceCtorEq, Nat.reduceEqDiff, Nat.reduceAdd, Nat.reduceMul, Nat.reduceLeDiff, Nat.reduceLT, Nat.reduceBEq, Nat.reduceBNe, implies_true, Xp, Ve.rs, Ve.res]) | (with_reducible first | refine T.seq ?_ | refine T.block ?_ | assumption | refine And.intro ?_ ?_) | (intro h; first | (exfalso; omega) | exact (tf h ‹_›).elim | exact (tf ‹_› h).elim | skip))
  refine T.weak (Ent.nilRow (t := 4) 3 (.int .i64) rfl) ?_
  simp only [Z9, Zw, Zz, Vc.exK, Zn, Zm, Zi, Zh, Zv, Xo, Y2, Zy, Zk, Zj, Zx, Zo, Zl, Xm, Z4, Xk, Vc.ev, Vc.st, Vc.stq, Vc.gst, Xh, St.rd, St.get, St.put, St.find, Zf, St.new, Vc.gdc, Zp, Yo, Yr, Yq, Xg, Zt, Zr, Yj, Yg, Vc.S1.cells, Vc.upd, Vc.del, Zg, Vc.noV, Kd.enc, Kd.dec, Ins.cells, Ln.cells, Yb, Z6, Yn, Z7, Y4, Vc.rvs, Xa, Ze, Y6, Y0, Y5, Y7, Y9, Xb, Yk, Xf, Z5, Zu, Zc, Zs, Y1, Xe, Zq, SV.bd, Vc.S1.bd, At.bd, Value.oneCell', Int.reduceEq, Int.reduceNeg, Int.reduceLE, Int.reduceLT, Vc.lenOf, Yl, Xd, Z2, Vc.atK, Z3, Vc.unK, Vc.wfK, Yf, Yc, Ye, Z0, Z8, Yd, Z1, Ys, Vc.sg, Yz, Y3, Xc, Y8, Ya, Res.own, At.sub, Vc.S1.sub, SV.sub, Res.sub, Xi, Xn, Yt, Yp, Ym, Vc.frS, Kd.sz, Nat.reduceSub, ↓reduceIte, reduceCtorEq, Nat.reduceEqDiff, Nat.reduceAdd, Nat.reduceMul, Nat.reduceLeDiff, Nat.reduceLT, Nat.reduceBEq, Nat.reduceBNe, implies_true, Xp]
  refine T.loop (ι := { p : Nat × List Int // p.1 ≤ l.length ∧ R3 (l.drop p.1) p.1 p.2 = Uv l ∧ p.1 ≤ p.2.length ∧ p.2.length ≤ 65536 })
    (fun x => ⟨[(4, .one (.a (.ref 2))), (12, .one (.a (.int .i64 (x.1.1 : Int)))), (11, .one (.a (.int .i64 l.length))), (10, .one (.a (.ref 0))), (3, .one (.a (.loc 1 0)))],
      [(2, .row 3 (.int .i64) x.1.2), (1, .cells 29 [.int .i64 0, .int .i64 0]), (0, .ro .ins l)], 3⟩)
    (fun x => l.length - x.1.1) ⟨(0, []), by simp, by simp [Uv], by simp, by simp⟩ (Ent.mk (id) (by simp [Za, Zb, Vc.bnd, St.get, St.find, Zf, SV.ren, Vc.S1.ren, At.ren, Res.ren, SV.bd, Vc.S1.bd, At.bd, Res.bd, Vc.upd, Vc.del, Kd.enc, Value.oneCell']) (by simp [Za, Zb, Vc.bnd, St.get, St.find, Zf, SV.ren, Vc.S1.ren, At.ren, Res.ren, SV.bd, Vc.S1.bd, At.bd, Res.bd, Vc.upd, Vc.del, Kd.enc, Value.oneCell']) (by simp [Za, Zb, Vc.bnd, St.get, St.find, Zf, SV.ren, Vc.S1.ren, At.ren, Res.ren, SV.bd, Vc.S1.bd, At.bd, Res.bd, Vc.upd, Vc.del, Kd.enc, Value.oneCell']) (by simp [Za, Zb, Vc.bnd, St.get, St.find, Zf, SV.ren, Vc.S1.ren, At.ren, Res.ren, SV.bd, Vc.S1.bd, At.bd, Res.bd, Vc.upd, Vc.del, Kd.enc, Value.oneCell'])) ?_
  rintro ⟨⟨k, acc⟩, hk, hrun, hka, hacc⟩
  simp only at hk hrun hka hacc
  have hw : IntKind.i64.wrap ((k : Int) + 1) = ((k + 1 : Nat) : Int) := Wf (by omega)
  by_cases hlt : k < l.length
  · have hdrop : l.drop k = l.getD k ⟨0, 0, 0, 0⟩ :: l.drop (k + 1) := by
      rw [List.drop_eq_getElem_cons hlt]; simp [List.getD, hlt]
    generalize hx : l.getD k ⟨0, 0, 0, 0⟩ = x at hdrop
    have hx' : l.getD k (Kd.dflt .ins) = x := hx
    rw [hdrop] at hrun
    simp only [R3] at hrun
    repeat' (first | ((first | (with_reducible first | refine T.regs ?_ | refine T.cond ?_ | refine T.reg ?_ | refine T.ret ?_ | refine T.exit ?_ | refine T.skip ?_) | ((with_reducible first | refine T.dregs ?_ ?_ | refine T.dreg ?_ ?_ | refine T.dregts ?_ ?_ | refine T.dregt ?_ ?_ | refine T.danys ?_ ?_ | refine T.dany ?_ ?_); exact mix) | ((with_reducible first | apply Yi.rd (Sl _) | apply Yu.rd (Sl _)); (focus ((repeat' (first | exact rfl | exact trivial | refine And.intro ?_ ?_ | (simp [SV.bd, Vc.S1.bd, At.bd, Zq, Yy, Ins.cells, Ln.cells]; done))); done))) | ((with_reducible first | apply Yi.rd (Ur _) | apply Yu.rd (Ur _)); (focus ((repeat' (first | exact rfl | exact trivial | refine And.intro ?_ ?_ | (simp [SV.bd, Vc.S1.bd, At.bd, Zq, Yy, Ins.cells, Ln.cells]; done))); done)))); simp only [Z9, Zw, Zz, Vc.exK, Zn, Zm, Zi, Zh, Zv, Xo, Y2, Zy, Zk, Zj, Zx, Zo, Zl, Xm, Z4, Xk, Vc.ev, Vc.st, Vc.stq, Vc.gst, Xh, St.rd, St.get, St.put, St.find, Zf, St.new, Vc.gdc, Zp, Yo, Yr, Yq, Xg, Zt, Zr, Yj, Yg, Vc.S1.cells, Vc.upd, Vc.del, Zg, Vc.noV, Kd.enc, Kd.dec, Ins.cells, Ln.cells, Yb, Z6, Yn, Z7, Y4, Vc.rvs, Xa, Ze, Y6, Y0, Y5, Y7, Y9, Xb, Yk, Xf, Z5, Zu, Zc, Zs, Y1, Xe, Zq, SV.bd, Vc.S1.bd, At.bd, Value.oneCell', Int.reduceEq, Int.reduceNeg, Int.reduceLE, Int.reduceLT, Vc.lenOf, Yl, Xd, Z2, Vc.atK, Z3, Vc.unK, Vc.wfK, Yf, Yc, Ye, Z0, Z8, Yd, Z1, Ys, Vc.sg, Yz, Y3, Xc, Y8, Ya, Res.own, At.sub, Vc.S1.sub, SV.sub, Res.sub, Xi, Xn, Yt, Yp, Ym, Vc.frS, Kd.sz, Nat.reduceSub, ↓reduceIte, reduceCtorEq, Nat.reduceEqDiff, Nat.reduceAdd, Nat.reduceMul, Nat.reduceLeDiff, Nat.reduceLT, Nat.reduceBEq, Nat.reduceBNe, implies_true, Xp, Ve.rs, Ve.res, hx', hw, Int.toNat_natCast, Int.ofNat_lt, List.length_append]) | (with_reducible first | refine T.seq ?_ | refine T.block ?_ | assumption | refine And.intro ?_ ?_) | (intro h; first | (exfalso; omega) | exact (tf h ‹_›).elim | exact (tf ‹_› h).elim | skip))
    all_goals first | omega | skip
    all_goals try (first | rw [word_11 ‹_› ‹_› ‹_›] | rw [word_10 ‹_› ‹_› ‹_›] | rw [word_01 ‹_› ‹_› ‹_›] | rw [word_00 ‹_› ‹_› ‹_›])
    all_goals try (first | rw [M1 ‹_›] at hrun | rw [Mu ‹_›] at hrun)
    all_goals try simp only [List.length_append, List.length_cons, List.length_nil, Nat.zero_add] at hrun
    all_goals first
      | (rw [if_neg ‹¬ We x = 0›] at hrun; rw [← hrun]; done)
      | (rw [if_pos ‹We x = 0›, if_pos (by omega)] at hrun; rw [← hrun]; done)
      | (rw [if_pos ‹We x = 0›, if_neg (by omega)] at hrun
         first
           | exact ⟨⟨(k + 1, acc ++ [Vm x, x.imm]), hlt, hrun, by simp; omega, by simp; omega⟩, (Ent.mk (fun n => if n = 2 then 8 else n) (by simp [Za, Zb, Vc.bnd, St.get, St.find, Zf, SV.ren, Vc.S1.ren, At.ren, Res.ren, SV.bd, Vc.S1.bd, At.bd, Res.bd, Vc.upd, Vc.del, Kd.enc, Value.oneCell']) (by simp [Za, Zb, Vc.bnd, St.get, St.find, Zf, SV.ren, Vc.S1.ren, At.ren, Res.ren, SV.bd, Vc.S1.bd, At.bd, Res.bd, Vc.upd, Vc.del, Kd.enc, Value.oneCell']) (by simp [Za, Zb, Vc.bnd, St.get, St.find, Zf, SV.ren, Vc.S1.ren, At.ren, Res.ren, SV.bd, Vc.S1.bd, At.bd, Res.bd, Vc.upd, Vc.del, Kd.enc, Value.oneCell']) (by simp [Za, Zb, Vc.bnd, St.get, St.find, Zf, SV.ren, Vc.S1.ren, At.ren, Res.ren, SV.bd, Vc.S1.bd, At.bd, Res.bd, Vc.upd, Vc.del, Kd.enc, Value.oneCell'])), by simp; omega⟩
           | exact ⟨⟨(k + 1, acc ++ [Vm x]), hlt, hrun, by simp; omega, by simp; omega⟩, (Ent.mk (fun n => if n = 2 then 6 else n) (by simp [Za, Zb, Vc.bnd, St.get, St.find, Zf, SV.ren, Vc.S1.ren, At.ren, Res.ren, SV.bd, Vc.S1.bd, At.bd, Res.bd, Vc.upd, Vc.del, Kd.enc, Value.oneCell']) (by simp [Za, Zb, Vc.bnd, St.get, St.find, Zf, SV.ren, Vc.S1.ren, At.ren, Res.ren, SV.bd, Vc.S1.bd, At.bd, Res.bd, Vc.upd, Vc.del, Kd.enc, Value.oneCell']) (by simp [Za, Zb, Vc.bnd, St.get, St.find, Zf, SV.ren, Vc.S1.ren, At.ren, Res.ren, SV.bd, Vc.S1.bd, At.bd, Res.bd, Vc.upd, Vc.del, Kd.enc, Value.oneCell']) (by simp [Za, Zb, Vc.bnd, St.get, St.find, Zf, SV.ren, Vc.S1.ren, At.ren, Res.ren, SV.bd, Vc.S1.bd, At.bd, Res.bd, Vc.upd, Vc.del, Kd.enc, Value.oneCell'])), by simp; omega⟩)
  · have hk2 : k = l.length := by omega
    subst hk2
    rw [List.drop_length] at hrun
    simp only [R3] at hrun
    repeat' (first | ((first | (with_reducible first | refine T.regs ?_ | refine T.cond ?_ | refine T.reg ?_ | refine T.ret ?_ | refine T.exit ?_ | refine T.skip ?_) | ((with_reducible first | refine T.dregs ?_ ?_ | refine T.dreg ?_ ?_ | refine T.dregts ?_ ?_ | refine T.dregt ?_ ?_ | refine T.danys ?_ ?_ | refine T.dany ?_ ?_); exact mix)); simp only [Z9, Zw, Zz, Vc.exK, Zn, Zm, Zi, Zh, Zv, Xo, Y2, Zy, Zk, Zj, Zx, Zo, Zl, Xm, Z4, Xk, Vc.ev, Vc.st, Vc.stq, Vc.gst, Xh, St.rd, St.get, St.put, St.find, Zf, St.new, Vc.gdc, Zp, Yo, Yr, Yq, Xg, Zt, Zr, Yj, Yg, Vc.S1.cells, Vc.upd, Vc.del, Zg, Vc.noV, Kd.enc, Kd.dec, Ins.cells, Ln.cells, Yb, Z6, Yn, Z7, Y4, Vc.rvs, Xa, Ze, Y6, Y0, Y5, Y7, Y9, Xb, Yk, Xf, Z5, Zu, Zc, Zs, Y1, Xe, Zq, SV.bd, Vc.S1.bd, At.bd, Value.oneCell', Int.reduceEq, Int.reduceNeg, Int.reduceLE, Int.reduceLT, Vc.lenOf, Yl, Xd, Z2, Vc.atK, Z3, Vc.unK, Vc.wfK, Yf, Yc, Ye, Z0, Z8, Yd, Z1, Ys, Vc.sg, Yz, Y3, Xc, Y8, Ya, Res.own, At.sub, Vc.S1.sub, SV.sub, Res.sub, Xi, Xn, Yt, Yp, Ym, Vc.frS, Kd.sz, Nat.reduceSub, ↓reduceIte, reduceCtorEq, Nat.reduceEqDiff, Nat.reduceAdd, Nat.reduceMul, Nat.reduceLeDiff, Nat.reduceLT, Nat.reduceBEq, Nat.reduceBNe, implies_true, Xp, Ve.rs, Ve.res, hw, Int.toNat_natCast, Int.ofNat_lt]) | (with_reducible first | refine T.seq ?_ | refine T.block ?_ | assumption | refine And.intro ?_ ?_) | (intro h; first | (exfalso; omega) | exact (tf h ‹_›).elim | exact (tf ‹_› h).elim | skip))
    all_goals first | omega | (rw [← hrun]; done)
end Go.Proofs.Ytibkcfpcfbodaaa
