/-
  A part of the proofs of this seat's laws: what instr.One and instr.Decode compute. It has no conditions of its own.
-/
import Derived.Test.YtccjjcdjgibilaaDoorEncode
namespace Go.Proofs.YtccjjcdjgibilaaDoor
open Go.RowKit Vc
set_option linter.unusedVariables false
set_option linter.unusedSimpArgs false
attribute [local irreducible] T Z1 Wl Ent RdC RwC Ts Yi Wd
theorem Q6 (x : Int) (m k : Nat) (h0 : 0 ≤ x) (h1 : x < 9223372036854775808) (hm : m + 1 = 2 ^ k) (hk : k ≤ 62) : Ps .i64 x (m : Int) = x % ((m + 1 : Nat) : Int) := by
  obtain ⟨n, rfl⟩ := Int.eq_ofNat_of_zero_le h0
  have hm62 : m + 1 ≤ 4611686018427387904 := by
    rw [hm]
    have : (2 : Nat) ^ k ≤ 2 ^ 62 := Nat.pow_le_pow_right (by decide) hk
    exact this
  have hm' : m = 2 ^ k - 1 := by omega
  unfold Ps
  have e1 : BitVec.ofInt IntKind.i64.bits (n : Int) = BitVec.ofNat 64 n := BitVec.ofInt_natCast 64 n
  have e2 : BitVec.ofInt IntKind.i64.bits (m : Int) = BitVec.ofNat 64 m := BitVec.ofInt_natCast 64 m
  have e3 : (BitVec.ofNat 64 n &&& BitVec.ofNat 64 m).toNat = n % (m + 1) := by
    rw [BitVec.toNat_and, BitVec.toNat_ofNat, BitVec.toNat_ofNat, Nat.mod_eq_of_lt (by omega), Nat.mod_eq_of_lt (by omega), hm, hm', Nat.and_two_pow_sub_one_eq_mod]
  have e4 : (BitVec.ofInt IntKind.i64.bits (n : Int) &&& BitVec.ofInt IntKind.i64.bits (m : Int)).toNat = n % (m + 1) := by
    rw [e1, e2]; exact e3
  rw [e4]
  have hlt := Nat.mod_lt n (show 0 < m + 1 by omega)
  rw [Vu (by omega) (by omega)]
  omega
theorem and7 (x : Int) (h0 : 0 ≤ x) (h1 : x < 9223372036854775808) : Ps .i64 x 7 = x % 8 := Q6 x 7 3 h0 h1 (by decide) (by decide)
theorem and15 (x : Int) (h0 : 0 ≤ x) (h1 : x < 9223372036854775808) : Ps .i64 x 15 = x % 16 := Q6 x 15 4 h0 h1 (by decide) (by decide)
theorem Lq (x : Int) (h0 : 0 ≤ x) (h1 : x < 9223372036854775808) : Ps .i64 x 65535 = x % 65536 := Q6 x 65535 16 h0 h1 (by decide) (by decide)
theorem shr10 (x : Int) : Jd .i64 x 10 = x / 1024 := rfl
theorem shr7 (x : Int) : Jd .i64 x 7 = x / 128 := rfl
theorem shr4 (x : Int) : Jd .i64 x 4 = x / 16 := rfl
def Sz : Ins := ⟨0, 0, 0, 0⟩
def Rz (w imm : Int) : Ins := ⟨w / 1024, w / 128 % 8, w / 16 % 8, imm⟩
def okW (w : Int) : Bool := Vn w && Wz (w / 1024) && decide (w % 16 = 0) && (Ug (w / 1024) || decide (w / 128 % 8 = 0)) && (Uf (w / 1024) || decide (w / 16 % 8 = 0))
def Tp (ws : List Int) (p : Int) : Ins × Int :=
  if p < 0 ∨ (ws.length : Int) ≤ p then (Sz, 0) else
  if okW (ws.getD p.toNat 0) = false then (Sz, 0) else
  if hasI (ws.getD p.toNat 0 / 1024) = false then (Rz (ws.getD p.toNat 0) 0, 1) else
  if p + 1 < (ws.length : Int) ∧ Vn (ws.getD (p + 1).toNat 0) = true then (Rz (ws.getD p.toNat 0) (ws.getD (p + 1).toNat 0), 2) else (Sz, 0)
theorem Qn {x : Int} (h : Vn x = true) : 0 ≤ x ∧ x ≤ 65535 := by simpa [Vn] using h
set_option maxHeartbeats 1000000 in
theorem Lc (ws : List Int) (p : Int) (hlen : ws.length ≤ 9223372036854775807) : RdC Tryd.prog 49 [.ro (.int .i64) ws, .v (.a (.int .i64 p))] (.tup [.agg (Tp ws p).1.cells, .a (.int .i64 (Tp ws p).2)]) := by
  refine Vq.fn.rd (by simp) (by repeat' (first | exact rfl | exact trivial | refine And.intro ?_ ?_ | (simp [SV.bd, Vc.S1.bd, At.bd, Zo, Yn, Ins.cells, Ln.cells]; done))) (by repeat' (first | exact rfl | exact trivial | refine And.intro ?_ ?_ | (simp [SV.bd, Vc.S1.bd, At.bd, Zo, Yn, Ins.cells, Ln.cells]; done))) fun w => ?_
  by_cases hin : p < 0 ∨ (ws.length : Int) ≤ p
  · have e : Tp ws p = (Sz, 0) := if_pos hin
    repeat' (first | ((first | (with_reducible first | refine T.regs ?_ | refine T.cond ?_ | refine T.reg ?_ | refine T.ret ?_ | refine T.exit ?_ | refine T.skip ?_) | ((with_reducible first | refine T.dregs ?_ ?_ | refine T.dreg ?_ ?_ | refine T.dregts ?_ ?_ | refine T.dregt ?_ ?_ | refine T.danys ?_ ?_ | refine T.dany ?_ ?_); exact mix) | ((with_reducible first | apply Z1.rd (V7 _) | apply Yi.rd (V7 _)); (focus ((repeat' (first | exact rfl | exact trivial | refine And.intro ?_ ?_ | (simp [SV.bd, Vc.S1.bd, At.bd, Zo, Yn, Ins.cells, Ln.cells]; done))); done))) | ((with_reducible first | apply Z1.rd (V4 _) | apply Yi.rd (V4 _)); (focus ((repeat' (first | exact rfl | exact trivial | refine And.intro ?_ ?_ | (simp [SV.bd, Vc.S1.bd, At.bd, Zo, Yn, Ins.cells, Ln.cells]; done))); done)))); simp only [Yd, Zz, Zx, Vc.exK, Zk, Zj, Zg, Zh, Zw, Xq, Y8, Z0, Zm, Zl, Zy, Zn, Zi, Xo, Z7, Xn, Vc.ev, Vc.st, Vc.stq, Vc.gst, Xl, St.rd, St.get, St.put, St.find, Zd, St.new, Vc.gdc, Zp, Yw, Ys, Yu, Xk, Zu, Zq, Ym, Yj, Vc.S1.cells, Vc.upd, Vc.del, Zf, Vc.noV, Kd.enc, Kd.dec, Ins.cells, Ln.cells, Z9, Yc, Yp, Yb, Y5, Vc.rvs, Xf, Ze, Xb, Y2, Y9, Xa, Xc, Xd, Yo, Xi, Z8, Zt, Zc, Zs, Vc.kdL, Xp, Y3, Xj, Zo, SV.bd, Vc.S1.bd, At.bd, Value.oneCell', Int.reduceEq, Int.reduceNeg, Int.reduceLE, Int.reduceLT, Vc.lenOf, Yq, Xh, Z2, Vc.atK, Z5, Vc.unK, Vc.wfK, Yh, Yf, Yg, Zr, Ya, Ye, Zv, Yt, Vc.sg, Y1, Y7, Xe, Xg, Z6, Res.own, At.sub, Vc.S1.sub, SV.sub, Res.sub, Xm, Xr, Yx, Yv, Yr, Vc.frS, Kd.sz, Nat.reduceSub, ↓reduceIte, reduceCtorEq, Nat.reduceEqDiff, Nat.reduceAdd, Nat.reduceMul, Nat.reduceLeDiff, Nat.reduceLT, Nat.reduceBEq, Nat.reduceBNe, implies_true, Xs, Vq.rs, Vq.res, hin, e, Sz]) | (with_reducible first | refine T.seq ?_ | refine T.block ?_ | assumption | refine And.intro ?_ ?_) | (intro h; first | (exfalso; omega) | exact (tf h ‹_›).elim | exact (tf ‹_› h).elim | skip))
    all_goals omega
  · have hin2 : 0 ≤ p ∧ p < ws.length := by omega
    have hw : IntKind.i64.wrap (p + 1) = p + 1 := Vu (by omega) (by omega)
    have d0 : (Kd.int .i64).dflt = (0 : Int) := rfl
    unfold Tp
    rw [if_neg hin]
    generalize hx : ws.getD p.toNat 0 = x
    have hx' : ws.getD p.toNat (Kd.int .i64).dflt = x := hx
    generalize hy : ws.getD (p + 1).toNat 0 = y
    have hy' : ws.getD (p + 1).toNat (Kd.int .i64).dflt = y := hy
    cases hwx : Vn x with
    | false =>
      have hok : okW x = false := by simp [okW, hwx]
      repeat' (first | ((first | (with_reducible first | refine T.regs ?_ | refine T.cond ?_ | refine T.reg ?_ | refine T.ret ?_ | refine T.exit ?_ | refine T.skip ?_) | ((with_reducible first | refine T.dregs ?_ ?_ | refine T.dreg ?_ ?_ | refine T.dregts ?_ ?_ | refine T.dregt ?_ ?_ | refine T.danys ?_ ?_ | refine T.dany ?_ ?_); exact mix) | ((with_reducible first | apply Z1.rd (V7 _) | apply Yi.rd (V7 _)); (focus ((repeat' (first | exact rfl | exact trivial | refine And.intro ?_ ?_ | (simp [SV.bd, Vc.S1.bd, At.bd, Zo, Yn, Ins.cells, Ln.cells]; done))); done))) | ((with_reducible first | apply Z1.rd (V4 _) | apply Yi.rd (V4 _)); (focus ((repeat' (first | exact rfl | exact trivial | refine And.intro ?_ ?_ | (simp [SV.bd, Vc.S1.bd, At.bd, Zo, Yn, Ins.cells, Ln.cells]; done))); done)))); simp only [Yd, Zz, Zx, Vc.exK, Zk, Zj, Zg, Zh, Zw, Xq, Y8, Z0, Zm, Zl, Zy, Zn, Zi, Xo, Z7, Xn, Vc.ev, Vc.st, Vc.stq, Vc.gst, Xl, St.rd, St.get, St.put, St.find, Zd, St.new, Vc.gdc, Zp, Yw, Ys, Yu, Xk, Zu, Zq, Ym, Yj, Vc.S1.cells, Vc.upd, Vc.del, Zf, Vc.noV, Kd.enc, Kd.dec, Ins.cells, Ln.cells, Z9, Yc, Yp, Yb, Y5, Vc.rvs, Xf, Ze, Xb, Y2, Y9, Xa, Xc, Xd, Yo, Xi, Z8, Zt, Zc, Zs, Vc.kdL, Xp, Y3, Xj, Zo, SV.bd, Vc.S1.bd, At.bd, Value.oneCell', Int.reduceEq, Int.reduceNeg, Int.reduceLE, Int.reduceLT, Vc.lenOf, Yq, Xh, Z2, Vc.atK, Z5, Vc.unK, Vc.wfK, Yh, Yf, Yg, Zr, Ya, Ye, Zv, Yt, Vc.sg, Y1, Y7, Xe, Xg, Z6, Res.own, At.sub, Vc.S1.sub, SV.sub, Res.sub, Xm, Xr, Yx, Yv, Yr, Vc.frS, Kd.sz, Nat.reduceSub, ↓reduceIte, reduceCtorEq, Nat.reduceEqDiff, Nat.reduceAdd, Nat.reduceMul, Nat.reduceLeDiff, Nat.reduceLT, Nat.reduceBEq, Nat.reduceBNe, implies_true, Xs, Vq.rs, Vq.res, hin, hx', hwx, hok, Sz]) | (with_reducible first | refine T.seq ?_ | refine T.block ?_ | assumption | refine And.intro ?_ ?_) | (intro h; first | (exfalso; omega) | exact (tf h ‹_›).elim | exact (tf ‹_› h).elim | skip))
      all_goals omega
    | true =>
      have hb := Qn hwx
      have a15 := and15 x hb.1 (by omega)
      have a7 := and7 (x / 128) (by omega) (by omega)
      have a7' := and7 (x / 16) (by omega) (by omega)
      repeat' (first | ((first | (with_reducible first | refine T.regs ?_ | refine T.cond ?_ | refine T.reg ?_ | refine T.ret ?_ | refine T.exit ?_ | refine T.skip ?_) | ((with_reducible first | refine T.dregs ?_ ?_ | refine T.dreg ?_ ?_ | refine T.dregts ?_ ?_ | refine T.dregt ?_ ?_ | refine T.danys ?_ ?_ | refine T.dany ?_ ?_); exact mix) | ((with_reducible first | apply Z1.rd (V7 _) | apply Yi.rd (V7 _)); (focus ((repeat' (first | exact rfl | exact trivial | refine And.intro ?_ ?_ | (simp [SV.bd, Vc.S1.bd, At.bd, Zo, Yn, Ins.cells, Ln.cells]; done))); done))) | ((with_reducible first | apply Z1.rd (V4 _) | apply Yi.rd (V4 _)); (focus ((repeat' (first | exact rfl | exact trivial | refine And.intro ?_ ?_ | (simp [SV.bd, Vc.S1.bd, At.bd, Zo, Yn, Ins.cells, Ln.cells]; done))); done)))); simp only [Yd, Zz, Zx, Vc.exK, Zk, Zj, Zg, Zh, Zw, Xq, Y8, Z0, Zm, Zl, Zy, Zn, Zi, Xo, Z7, Xn, Vc.ev, Vc.st, Vc.stq, Vc.gst, Xl, St.rd, St.get, St.put, St.find, Zd, St.new, Vc.gdc, Zp, Yw, Ys, Yu, Xk, Zu, Zq, Ym, Yj, Vc.S1.cells, Vc.upd, Vc.del, Zf, Vc.noV, Kd.enc, Kd.dec, Ins.cells, Ln.cells, Z9, Yc, Yp, Yb, Y5, Vc.rvs, Xf, Ze, Xb, Y2, Y9, Xa, Xc, Xd, Yo, Xi, Z8, Zt, Zc, Zs, Vc.kdL, Xp, Y3, Xj, Zo, SV.bd, Vc.S1.bd, At.bd, Value.oneCell', Int.reduceEq, Int.reduceNeg, Int.reduceLE, Int.reduceLT, Vc.lenOf, Yq, Xh, Z2, Vc.atK, Z5, Vc.unK, Vc.wfK, Yh, Yf, Yg, Zr, Ya, Ye, Zv, Yt, Vc.sg, Y1, Y7, Xe, Xg, Z6, Res.own, At.sub, Vc.S1.sub, SV.sub, Res.sub, Xm, Xr, Yx, Yv, Yr, Vc.frS, Kd.sz, Nat.reduceSub, ↓reduceIte, reduceCtorEq, Nat.reduceEqDiff, Nat.reduceAdd, Nat.reduceMul, Nat.reduceLeDiff, Nat.reduceLT, Nat.reduceBEq, Nat.reduceBNe, implies_true, Xs, Vq.rs, Vq.res, hin, hx', hy', hwx, hw, shr10, shr7, shr4, a15, a7, a7']) | (with_reducible first | refine T.seq ?_ | refine T.block ?_ | assumption | refine And.intro ?_ ?_) | (intro h; first | (exfalso; omega) | exact (tf h ‹_›).elim | exact (tf ‹_› h).elim | skip))
      all_goals first | omega | skip
      · have hok : okW x = false := by
          rcases h with ((h | h) | h) | h <;> simp [okW, hwx, h]
        rw [if_pos hok]; rfl
      · have hok : ¬ okW x = false := by
          rename_i h1
          obtain ⟨⟨⟨h2, h3⟩, h4⟩, h5⟩ := h1
          cases hd : Ug (x / 1024) <;> cases hs : Uf (x / 1024) <;> simp_all [okW]
        rw [if_neg hok, if_pos h]; rfl
      · have hok : ¬ okW x = false := by
          rename_i h1 h0
          obtain ⟨⟨⟨h2, h3⟩, h4⟩, h5⟩ := h1
          cases hd : Ug (x / 1024) <;> cases hs : Uf (x / 1024) <;> simp_all [okW]
        have hni : ¬ hasI (x / 1024) = false := by simp_all
        have hno : ¬ (p + 1 < (ws.length : Int) ∧ Vn y = true) := by
          rintro ⟨g1, g2⟩
          rcases h with h | h
          · omega
          · simp [g2] at h
        rw [if_neg hok, if_neg hni, if_neg hno]; rfl
      · have hok : ¬ okW x = false := by
          rename_i h1 h0
          obtain ⟨⟨⟨h2, h3⟩, h4⟩, h5⟩ := h1
          cases hd : Ug (x / 1024) <;> cases hs : Uf (x / 1024) <;> simp_all [okW]
        have hni : ¬ hasI (x / 1024) = false := by simp_all
        have hyes : p + 1 < (ws.length : Int) ∧ Vn y = true := ⟨by omega, h.2⟩
        rw [if_neg hok, if_neg hni, if_pos hyes]; rfl
      all_goals omega
def Qd (ws : List Int) : Nat → Nat → List Ins → List Ins × Int × Int
  | 0, _, acc => (acc, 0, 0)
  | f + 1, a, acc => if ws.length ≤ a then (acc, 0, 0) else
      if (Tp ws a).2 = 0 then ([], 2, (a : Int)) else Qd ws f (a + (Tp ws a).2.toNat) (acc ++ [(Tp ws a).1])
def Pn (ws : List Int) : List Ins × Int × Int := if 65536 < ws.length then ([], 4, 0) else Qd ws (ws.length + 2) 0 []
theorem N7 (ws : List Int) (p : Int) : (Tp ws p).2 = 0 ∨ (Tp ws p).2 = 1 ∨ (Tp ws p).2 = 2 := by
  unfold Tp
  repeat' split
  all_goals simp
set_option maxHeartbeats 1000000 in
theorem Decode_any (ws : List Int) : RwC Tryd.prog 20 [.ro (.int .i64) ws] 25 .ins (Pn ws).1 [.agg [.int .i64 (Pn ws).2.1, .int .i64 (Pn ws).2.2]] := by
  refine Wo.fn.rw (by simp) (by repeat' (first | exact rfl | exact trivial | refine And.intro ?_ ?_ | (simp [SV.bd, Vc.S1.bd, At.bd, Zo, Yn, Ins.cells, Ln.cells]; done))) (by simp [S1.bd, At.bd]) fun w => ?_
  by_cases hbig : 65536 < ws.length
  · have e : Pn ws = ([], 4, 0) := if_pos hbig
    rw [e]
    repeat' (first | ((first | (with_reducible first | refine T.regs ?_ | refine T.cond ?_ | refine T.reg ?_ | refine T.ret ?_ | refine T.exit ?_ | refine T.skip ?_) | ((with_reducible first | refine T.dregs ?_ ?_ | refine T.dreg ?_ ?_ | refine T.dregts ?_ ?_ | refine T.dregt ?_ ?_ | refine T.danys ?_ ?_ | refine T.dany ?_ ?_); exact mix)); simp only [Yd, Zz, Zx, Vc.exK, Zk, Zj, Zg, Zh, Zw, Xq, Y8, Z0, Zm, Zl, Zy, Zn, Zi, Xo, Z7, Xn, Vc.ev, Vc.st, Vc.stq, Vc.gst, Xl, St.rd, St.get, St.put, St.find, Zd, St.new, Vc.gdc, Zp, Yw, Ys, Yu, Xk, Zu, Zq, Ym, Yj, Vc.S1.cells, Vc.upd, Vc.del, Zf, Vc.noV, Kd.enc, Kd.dec, Ins.cells, Ln.cells, Z9, Yc, Yp, Yb, Y5, Vc.rvs, Xf, Ze, Xb, Y2, Y9, Xa, Xc, Xd, Yo, Xi, Z8, Zt, Zc, Zs, Vc.kdL, Xp, Y3, Xj, Zo, SV.bd, Vc.S1.bd, At.bd, Value.oneCell', Int.reduceEq, Int.reduceNeg, Int.reduceLE, Int.reduceLT, Vc.lenOf, Yq, Xh, Z2, Vc.atK, Z5, Vc.unK, Vc.wfK, Yh, Yf, Yg, Zr, Ya, Ye, Zv, Yt, Vc.sg, Y1, Y7, Xe, Xg, Z6, Res.own, At.sub, Vc.S1.sub, SV.sub, Res.sub, Xm, Xr, Yx, Yv, Yr, Vc.frS, Kd.sz, Nat.reduceSub, ↓reduceIte, reduceCtorEq, Nat.reduceEqDiff, Nat.reduceAdd, Nat.reduceMul, Nat.reduceLeDiff, Nat.reduceLT, Nat.reduceBEq, Nat.reduceBNe, implies_true, Xs, Wo.rs, Wo.res]) | (with_reducible first | refine T.seq ?_ | refine T.block ?_ | assumption | refine And.intro ?_ ?_) | (intro h; first | (exfalso; omega) | exact (tf h ‹_›).elim | exact (tf ‹_› h).elim | skip))
    all_goals omega
  have e : Pn ws = Qd ws (ws.length + 2) 0 [] := if_neg hbig
  repeat' (first | ((first | (with_reducible first | refine T.regs ?_ | refine T.cond ?_ | refine T.reg ?_ | refine T.ret ?_ | refine T.exit ?_ | refine T.skip ?_) | ((with_reducible first | refine T.dregs ?_ ?_ | refine T.dreg ?_ ?_ | refine T.dregts ?_ ?_ | refine T.dregt ?_ ?_ | refine T.danys ?_ ?_ | refine T.dany ?_ ?_); exact mix)); simp only [Yd, Zz, Zx, Vc.exK, Zk, Zj, Zg, Zh, Zw, Xq, Y8, Z0, Zm, Zl, Zy, Zn, Zi, Xo, Z7, Xn, Vc.ev, Vc.st, Vc.stq, Vc.gst, Xl, St.rd, St.get, St.put, St.find, Zd, St.new, Vc.gdc, Zp, Yw, Ys, Yu, Xk, Zu, Zq, Ym, Yj, Vc.S1.cells, Vc.upd, Vc.del, Zf, Vc.noV, Kd.enc, Kd.dec, Ins.cells, Ln.cells, Z9, Yc, Yp, Yb, Y5, Vc.rvs, Xf, Ze, Xb, Y2, Y9, Xa, Xc, Xd, Yo, Xi, Z8, Zt, Zc, Zs, Vc.kdL, Xp, Y3, Xj, Zo, SV.bd, Vc.S1.bd, At.bd, Value.oneCell', Int.reduceEq, Int.reduceNeg, Int.reduceLE, Int.reduceLT, Vc.lenOf, Yq, Xh, Z2, Vc.atK, Z5, Vc.unK, Vc.wfK, Yh, Yf, Yg, Zr, Ya, Ye, Zv, Yt, Vc.sg, Y1, Y7, Xe, Xg, Z6, Res.own, At.sub, Vc.S1.sub, SV.sub, Res.sub, Xm, Xr, Yx, Yv, Yr, Vc.frS, Kd.sz, Nat.reduceSub, ↓reduceIte, reduceCtorEq, Nat.reduceEqDiff, Nat.reduceAdd, Nat.reduceMul, Nat.reduceLeDiff, Nat.reduceLT, Nat.reduceBEq, Nat.reduceBNe, implies_true, Xs, Wo.rs, Wo.res]) | (with_reducible first | refine T.seq ?_ | refine T.block ?_ | assumption | refine And.intro ?_ ?_) | (intro h; first | (exfalso; omega) | exact (tf h ‹_›).elim | exact (tf ‹_› h).elim | skip))
  all_goals first | omega | skip
  refine T.weak (Ent.nilRow (t := 4) 25 .ins rfl) ?_
  simp only [Yd, Zz, Zx, Vc.exK, Zk, Zj, Zg, Zh, Zw, Xq, Y8, Z0, Zm, Zl, Zy, Zn, Zi, Xo, Z7, Xn, Vc.ev, Vc.st, Vc.stq, Vc.gst, Xl, St.rd, St.get, St.put, St.find, Zd, St.new, Vc.gdc, Zp, Yw, Ys, Yu, Xk, Zu, Zq, Ym, Yj, Vc.S1.cells, Vc.upd, Vc.del, Zf, Vc.noV, Kd.enc, Kd.dec, Ins.cells, Ln.cells, Z9, Yc, Yp, Yb, Y5, Vc.rvs, Xf, Ze, Xb, Y2, Y9, Xa, Xc, Xd, Yo, Xi, Z8, Zt, Zc, Zs, Vc.kdL, Xp, Y3, Xj, Zo, SV.bd, Vc.S1.bd, At.bd, Value.oneCell', Int.reduceEq, Int.reduceNeg, Int.reduceLE, Int.reduceLT, Vc.lenOf, Yq, Xh, Z2, Vc.atK, Z5, Vc.unK, Vc.wfK, Yh, Yf, Yg, Zr, Ya, Ye, Zv, Yt, Vc.sg, Y1, Y7, Xe, Xg, Z6, Res.own, At.sub, Vc.S1.sub, SV.sub, Res.sub, Xm, Xr, Yx, Yv, Yr, Vc.frS, Kd.sz, Nat.reduceSub, ↓reduceIte, reduceCtorEq, Nat.reduceEqDiff, Nat.reduceAdd, Nat.reduceMul, Nat.reduceLeDiff, Nat.reduceLT, Nat.reduceBEq, Nat.reduceBNe, implies_true, Xs]
  refine T.loop (ι := { p : Nat × Nat × List Ins // ws.length + 1 < p.2.1 + p.1 ∧ p.2.2.length ≤ p.2.1 ∧ p.2.1 ≤ ws.length + 1 ∧ Qd ws p.1 p.2.1 p.2.2 = Pn ws })
    (fun x => ⟨[(5, .one (.a (.int .i64 (x.1.2.1 : Int)))), (4, .one (.a (.ref 2))), (3, .one (.a (.loc 1 0))), (0, .one (.a (.ref 0)))],
      [(2, .row 25 .ins x.1.2.2), (1, .cells 31 [.int .i64 0, .int .i64 0]), (0, .ro (.int .i64) ws)], 3⟩)
    (fun x => x.1.1) ⟨(ws.length + 2, 0, []), by simp, by simp, by simp, e.symm⟩ (Ent.mk (id) (by simp [Za, Zb, Vc.bnd, St.get, St.find, Zd, SV.ren, Vc.S1.ren, At.ren, Res.ren, SV.bd, Vc.S1.bd, At.bd, Res.bd, Vc.upd, Vc.del, Kd.enc, Value.oneCell']) (by simp [Za, Zb, Vc.bnd, St.get, St.find, Zd, SV.ren, Vc.S1.ren, At.ren, Res.ren, SV.bd, Vc.S1.bd, At.bd, Res.bd, Vc.upd, Vc.del, Kd.enc, Value.oneCell']) (by simp [Za, Zb, Vc.bnd, St.get, St.find, Zd, SV.ren, Vc.S1.ren, At.ren, Res.ren, SV.bd, Vc.S1.bd, At.bd, Res.bd, Vc.upd, Vc.del, Kd.enc, Value.oneCell']) (by simp [Za, Zb, Vc.bnd, St.get, St.find, Zd, SV.ren, Vc.S1.ren, At.ren, Res.ren, SV.bd, Vc.S1.bd, At.bd, Res.bd, Vc.upd, Vc.del, Kd.enc, Value.oneCell'])) ?_
  rintro ⟨⟨f, k, acc⟩, hf, hka, hk, hrun⟩
  simp only at hf hrun hka hk
  obtain ⟨f, rfl⟩ : ∃ g, f = g + 1 := ⟨f - 1, by omega⟩
  by_cases hlt : k < ws.length
  · have hk' : ¬ ws.length ≤ k := by omega
    simp only [Qd, if_neg hk'] at hrun
    have hone := N7 ws k
    generalize hx : Tp ws k = x at hrun hone
    repeat' (first | ((first | (with_reducible first | refine T.regs ?_ | refine T.cond ?_ | refine T.reg ?_ | refine T.ret ?_ | refine T.exit ?_ | refine T.skip ?_) | ((with_reducible first | refine T.dregs ?_ ?_ | refine T.dreg ?_ ?_ | refine T.dregts ?_ ?_ | refine T.dregt ?_ ?_ | refine T.danys ?_ ?_ | refine T.dany ?_ ?_); exact mix) | ((with_reducible first | apply Z1.rd (Lc ws k (by omega)) | apply Yi.rd (Lc ws k (by omega))); (focus ((repeat' (first | exact rfl | exact trivial | refine And.intro ?_ ?_ | (simp [SV.bd, Vc.S1.bd, At.bd, Zo, Yn, Ins.cells, Ln.cells]; done))); done)))); simp only [Yd, Zz, Zx, Vc.exK, Zk, Zj, Zg, Zh, Zw, Xq, Y8, Z0, Zm, Zl, Zy, Zn, Zi, Xo, Z7, Xn, Vc.ev, Vc.st, Vc.stq, Vc.gst, Xl, St.rd, St.get, St.put, St.find, Zd, St.new, Vc.gdc, Zp, Yw, Ys, Yu, Xk, Zu, Zq, Ym, Yj, Vc.S1.cells, Vc.upd, Vc.del, Zf, Vc.noV, Kd.enc, Kd.dec, Ins.cells, Ln.cells, Z9, Yc, Yp, Yb, Y5, Vc.rvs, Xf, Ze, Xb, Y2, Y9, Xa, Xc, Xd, Yo, Xi, Z8, Zt, Zc, Zs, Vc.kdL, Xp, Y3, Xj, Zo, SV.bd, Vc.S1.bd, At.bd, Value.oneCell', Int.reduceEq, Int.reduceNeg, Int.reduceLE, Int.reduceLT, Vc.lenOf, Yq, Xh, Z2, Vc.atK, Z5, Vc.unK, Vc.wfK, Yh, Yf, Yg, Zr, Ya, Ye, Zv, Yt, Vc.sg, Y1, Y7, Xe, Xg, Z6, Res.own, At.sub, Vc.S1.sub, SV.sub, Res.sub, Xm, Xr, Yx, Yv, Yr, Vc.frS, Kd.sz, Nat.reduceSub, ↓reduceIte, reduceCtorEq, Nat.reduceEqDiff, Nat.reduceAdd, Nat.reduceMul, Nat.reduceLeDiff, Nat.reduceLT, Nat.reduceBEq, Nat.reduceBNe, implies_true, Xs, Wo.rs, Wo.res, hx, Int.toNat_natCast, Int.ofNat_lt, List.length_append]) | (with_reducible first | refine T.seq ?_ | refine T.block ?_ | assumption | refine And.intro ?_ ?_) | (intro h; first | (exfalso; omega) | exact (tf h ‹_›).elim | exact (tf ‹_› h).elim | skip))
    all_goals first | omega | (rw [if_pos ‹x.2 = 0›] at hrun; rw [← hrun]; done) | skip
    have hn := h
    have hx2 : 0 ≤ x.2 ∧ x.2 ≤ 2 ∧ 1 ≤ x.2.toNat ∧ ((x.2.toNat : Nat) : Int) = x.2 := by omega
    have hw : IntKind.i64.wrap ((k : Int) + x.2) = (((k + x.2.toNat : Nat)) : Int) := by
      rw [Vu (by omega) (by omega)]; omega
    rw [if_neg hn] at hrun
    exact ⟨⟨(f, k + x.2.toNat, acc ++ [x.1]), by simp only; omega, by simp only [List.length_append, List.length_cons, List.length_nil]; omega, by simp only; omega, hrun⟩,
      (Ent.mk (fun n => if n = 2 then 5 else n) (by simp [Za, Zb, Vc.bnd, St.get, St.find, Zd, SV.ren, Vc.S1.ren, At.ren, Res.ren, SV.bd, Vc.S1.bd, At.bd, Res.bd, Vc.upd, Vc.del, Kd.enc, Value.oneCell', hw]) (by simp [Za, Zb, Vc.bnd, St.get, St.find, Zd, SV.ren, Vc.S1.ren, At.ren, Res.ren, SV.bd, Vc.S1.bd, At.bd, Res.bd, Vc.upd, Vc.del, Kd.enc, Value.oneCell', hw]) (by simp [Za, Zb, Vc.bnd, St.get, St.find, Zd, SV.ren, Vc.S1.ren, At.ren, Res.ren, SV.bd, Vc.S1.bd, At.bd, Res.bd, Vc.upd, Vc.del, Kd.enc, Value.oneCell', hw]) (by simp [Za, Zb, Vc.bnd, St.get, St.find, Zd, SV.ren, Vc.S1.ren, At.ren, Res.ren, SV.bd, Vc.S1.bd, At.bd, Res.bd, Vc.upd, Vc.del, Kd.enc, Value.oneCell', hw])), by simp⟩
  · have hk' : ws.length ≤ k := by omega
    simp only [Qd, if_pos hk'] at hrun
    repeat' (first | ((first | (with_reducible first | refine T.regs ?_ | refine T.cond ?_ | refine T.reg ?_ | refine T.ret ?_ | refine T.exit ?_ | refine T.skip ?_) | ((with_reducible first | refine T.dregs ?_ ?_ | refine T.dreg ?_ ?_ | refine T.dregts ?_ ?_ | refine T.dregt ?_ ?_ | refine T.danys ?_ ?_ | refine T.dany ?_ ?_); exact mix)); simp only [Yd, Zz, Zx, Vc.exK, Zk, Zj, Zg, Zh, Zw, Xq, Y8, Z0, Zm, Zl, Zy, Zn, Zi, Xo, Z7, Xn, Vc.ev, Vc.st, Vc.stq, Vc.gst, Xl, St.rd, St.get, St.put, St.find, Zd, St.new, Vc.gdc, Zp, Yw, Ys, Yu, Xk, Zu, Zq, Ym, Yj, Vc.S1.cells, Vc.upd, Vc.del, Zf, Vc.noV, Kd.enc, Kd.dec, Ins.cells, Ln.cells, Z9, Yc, Yp, Yb, Y5, Vc.rvs, Xf, Ze, Xb, Y2, Y9, Xa, Xc, Xd, Yo, Xi, Z8, Zt, Zc, Zs, Vc.kdL, Xp, Y3, Xj, Zo, SV.bd, Vc.S1.bd, At.bd, Value.oneCell', Int.reduceEq, Int.reduceNeg, Int.reduceLE, Int.reduceLT, Vc.lenOf, Yq, Xh, Z2, Vc.atK, Z5, Vc.unK, Vc.wfK, Yh, Yf, Yg, Zr, Ya, Ye, Zv, Yt, Vc.sg, Y1, Y7, Xe, Xg, Z6, Res.own, At.sub, Vc.S1.sub, SV.sub, Res.sub, Xm, Xr, Yx, Yv, Yr, Vc.frS, Kd.sz, Nat.reduceSub, ↓reduceIte, reduceCtorEq, Nat.reduceEqDiff, Nat.reduceAdd, Nat.reduceMul, Nat.reduceLeDiff, Nat.reduceLT, Nat.reduceBEq, Nat.reduceBNe, implies_true, Xs, Wo.rs, Wo.res, Int.toNat_natCast, Int.ofNat_lt]) | (with_reducible first | refine T.seq ?_ | refine T.block ?_ | assumption | refine And.intro ?_ ?_) | (intro h; first | (exfalso; omega) | exact (tf h ‹_›).elim | exact (tf ‹_› h).elim | skip))
    all_goals first | omega | (rw [← hrun]; done)
end Go.Proofs.YtccjjcdjgibilaaDoor
