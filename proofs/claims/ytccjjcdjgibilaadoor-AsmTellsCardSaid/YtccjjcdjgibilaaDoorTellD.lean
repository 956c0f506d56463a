/-
  A part of the proofs of this seat's laws: a step on the way. It has no conditions of its own.
-/
import Derived.Test.YtccjjcdjgibilaaDoorTellC
namespace Go.Proofs.YtccjjcdjgibilaaDoor
open Go Go.RowKit Vc
set_option linter.unusedVariables false
set_option linter.unusedSimpArgs false
attribute [local irreducible] T Z1 Wl Ent RdC RwC Ts Yi Wd
theorem L0 (s : List UInt8) : (Xu s).map toB = s := by
  induction s with
  | nil => rfl
  | cons x s ih =>
    have : toB ((x.toNat : Nat) : Int) = x := by simp [toB]
    simp only [Xu, List.map_cons] at ih ⊢
    rw [this, ih]
theorem Rk (n : Int) (h0 : 0 ≤ n) (h1 : n ≤ 65535) : RdC Tryd.prog 37 [.v (.a (.int .i64 n))] (.one (.a (.str (Lib.itoa n)))) := by
  obtain ⟨u, rfl⟩ : ∃ u : Nat, n = u := ⟨n.toNat, by omega⟩
  rw [Lib.itoa_nonneg]
  exact Mu u (by omega)
def Pa (x : Ln) : Nat → Option (List UInt8)
  | 0 => if Ug x.ins.op then some (T5 x.ins.d) else none
  | 1 => if Uf x.ins.op then some (T5 x.ins.s) else none
  | _ => if hasI x.ins.op then some (V0 x) else none
def accS (x : Ln) : Nat → List UInt8 × List UInt8
  | 0 => (9 :: wordS x.ins.op, [32])
  | j + 1 => match Pa x j with
    | some t => (((accS x j).1 ++ (accS x j).2) ++ t, [44, 32])
    | none => accS x j
theorem Kw (x : Ln) (h : x.label = []) : (accS x 3).1 ++ [10] = U0 x := by
  unfold U0
  rw [if_pos h]
  by_cases hd : Ug x.ins.op = true <;> by_cases hs : Uf x.ins.op = true <;> by_cases hi : hasI x.ins.op = true <;> simp [accS, Pa, Xw, hd, hs, hi, Lib.join, List.intercalate]
theorem Lk {x : Ln} (h : Wt x = 0) (hl : x.label = []) : ∀ j, j ≤ 3 → (accS x j).1.length ≤ 5 + 34 * j ∧ (accS x j).2.length ≤ 2 := by
  obtain ⟨h1, h2, h3, _, h5⟩ := Ul h hl
  have hf : ∀ j t, Pa x j = some t → t.length ≤ 32 := by
    intro j t ht
    unfold Pa at ht
    split at ht
    · split at ht
      · rename_i hd
        cases ht
        have := V6 (h1 hd).1 (by have := (h1 hd).2; omega)
        simp [T5]; omega
      · cases ht
    · split at ht
      · rename_i hd
        cases ht
        have := V6 (h2 hd).1 (by have := (h2 hd).2; omega)
        simp [T5]; omega
      · cases ht
    · split at ht
      · rename_i hd
        cases ht
        have := V6 (h3 hd).1 (h3 hd).2
        unfold V0
        split <;> omega
      · cases ht
  intro j
  induction j with
  | zero =>
    intro _
    have := Tz x.ins.op
    simp [accS]; omega
  | succ j ih =>
    intro hj
    obtain ⟨i1, i2⟩ := ih (by omega)
    simp only [accS]
    split
    · rename_i t ht
      have := hf j t ht
      simp only [List.length_append, List.length_cons, List.length_nil]
      omega
    · omega
def dsi : List (Kd.ty (.int .u8)) := [100, 115, 105]
set_option maxHeartbeats 16000000 in
set_option maxRecDepth 100000 in
theorem Ox {w : World} {X : List Nat} {fr : List Value} {Q : Exit → St → Prop} (l : List Ln) (x : Ln) (acc : List UInt8) (k m : Nat) (hm : m = 3) (hlb : x.label = []) (hwx : Wt x = 0)
    (hQ : ∀ S', Ent ⟨Tryd.prog, w, X, 103, fr⟩ S' ⟨[(8, .one (.a (.str (accS x 3).1))), (18, .one (.a (.int .i64 (k : Int)))), (17, .one (.a (.int .i64 l.length))), (16, .one (.a (.ref 0))), (4, .one (.a (.ref 2))), (3, .one (.a (.loc 1 0)))],
      [(0, .ro .line l), (1, .cells 31 [.int .i64 0, .int .i64 0]), (2, .row 5 (.int .u8) (Xu acc))], 3⟩ → Q (.exit 2) S') :
    T ⟨Tryd.prog, w, X, 103, fr⟩ (.loop Z3.c28) Q ⟨[(46, .one (.a (.int .i64 0))), (45, .one (.a (.int .i64 3))), (44, .one (.a (.ref 4))), (9, .one (.a (.str (accS x 0).2))), (8, .one (.a (.str (accS x 0).1))), (6, .one (.a (.loc 3 0))), (18, .one (.a (.int .i64 (k : Int)))), (17, .one (.a (.int .i64 l.length))), (16, .one (.a (.ref 0))), (4, .one (.a (.ref 2))), (3, .one (.a (.loc 1 0)))],
      [(0, .ro .line l), (1, .cells 31 [.int .i64 0, .int .i64 0]), (2, .row 5 (.int .u8) (Xu acc)), (3, .cells 27 x.cells), (4, .ro (.int .u8) [100, 115, 105])], 5⟩ := by
  refine T.loop (ι := { j : Nat // j ≤ 3 })
    (fun y => ⟨[(46, .one (.a (.int .i64 (y.1 : Int)))), (45, .one (.a (.int .i64 3))), (44, .one (.a (.ref 4))), (9, .one (.a (.str (accS x y.1).2))), (8, .one (.a (.str (accS x y.1).1))), (6, .one (.a (.loc 3 0))), (18, .one (.a (.int .i64 (k : Int)))), (17, .one (.a (.int .i64 l.length))), (16, .one (.a (.ref 0))), (4, .one (.a (.ref 2))), (3, .one (.a (.loc 1 0)))],
      [(0, .ro .line l), (1, .cells 31 [.int .i64 0, .int .i64 0]), (2, .row 5 (.int .u8) (Xu acc)), (3, .cells 27 x.cells), (4, .ro (.int .u8) [100, 115, 105])], 5⟩) (fun y => 3 - y.1) ⟨0, by simp⟩ (Ent.mk (id) (by simp [Za, Zb, Vc.bnd, St.get, St.find, Zd, SV.ren, Vc.S1.ren, At.ren, Res.ren, SV.bd, Vc.S1.bd, At.bd, Res.bd, Vc.upd, Vc.del, Kd.enc, Value.oneCell', Ln.cells]) (by simp [Za, Zb, Vc.bnd, St.get, St.find, Zd, SV.ren, Vc.S1.ren, At.ren, Res.ren, SV.bd, Vc.S1.bd, At.bd, Res.bd, Vc.upd, Vc.del, Kd.enc, Value.oneCell', Ln.cells]) (by simp [Za, Zb, Vc.bnd, St.get, St.find, Zd, SV.ren, Vc.S1.ren, At.ren, Res.ren, SV.bd, Vc.S1.bd, At.bd, Res.bd, Vc.upd, Vc.del, Kd.enc, Value.oneCell', Ln.cells]) (by simp [Za, Zb, Vc.bnd, St.get, St.find, Zd, SV.ren, Vc.S1.ren, At.ren, Res.ren, SV.bd, Vc.S1.bd, At.bd, Res.bd, Vc.upd, Vc.del, Kd.enc, Value.oneCell', Ln.cells])) ?_
  rintro ⟨j, hj⟩
  simp only
  obtain ⟨hd7, hs7, hi7, hkn, hrl⟩ := Ul hwx hlb
  obtain ⟨hl1, hl2⟩ := Lk hwx hlb j hj
  have hDd := fun h => Rk x.ins.d (hd7 h).1 (by have := (hd7 h).2; omega)
  have hDs := fun h => Rk x.ins.s (hs7 h).1 (by have := (hs7 h).2; omega)
  have hDi := fun h => Rk x.ins.imm (hi7 h).1 (hi7 h).2
  have hLd := fun h => V6 (hd7 h).1 (by have := (hd7 h).2; omega)
  have hLs := fun h => V6 (hs7 h).1 (by have := (hs7 h).2; omega)
  have hLi := fun h => V6 (hi7 h).1 (hi7 h).2
  by_cases h0 : j = 0
  · subst h0
    have hg : ([100, 115, 105] : List (Kd.ty (.int .u8))).getD (((0 : Nat) : Int)).toNat (Kd.dflt (.int .u8)) = (100 : Int) := rfl
    have hw : IntKind.i64.wrap (((0 : Nat) : Int) + 1) = ((1 : Nat) : Int) := Wy (by omega)
    cases hd : Ug x.ins.op
    · have he : accS x 1 = accS x 0 := by simp [accS, Pa, hd]
      generalize accS x 0 = A at *
      have hH := L4 x.ins.op
      rw [hd] at hH
      repeat' (first | ((first | (with_reducible first | refine T.regs ?_ | refine T.cond ?_ | refine T.reg ?_ | refine T.ret ?_ | refine T.exit ?_ | refine T.skip ?_) | ((with_reducible first | refine T.dregs ?_ ?_ | refine T.dreg ?_ ?_ | refine T.dregts ?_ ?_ | refine T.dregt ?_ ?_ | refine T.danys ?_ ?_ | refine T.dany ?_ ?_); exact mix) | ((with_reducible first | apply Z1.rd (hH) | apply Yi.rd (hH)); (focus ((repeat' (first | exact rfl | exact trivial | refine And.intro ?_ ?_ | (simp [SV.bd, Vc.S1.bd, At.bd, Zo, Yn, Ins.cells, Ln.cells]; done))); done)))); simp only [Yd, Zz, Zx, Vc.exK, Zk, Zj, Zg, Zh, Zw, Xq, Y8, Z0, Zm, Zl, Zy, Zn, Zi, Xo, Z7, Xn, Vc.ev, Vc.st, Vc.stq, Vc.gst, Xl, St.rd, St.get, St.put, St.find, Zd, St.new, Vc.gdc, Zp, Yw, Ys, Yu, Xk, Zu, Zq, Ym, Yj, Vc.S1.cells, Vc.upd, Vc.del, Zf, Vc.noV, Kd.enc, Kd.dec, Ins.cells, Ln.cells, Z9, Yc, Yp, Yb, Y5, Vc.rvs, Xf, Ze, Xb, Y2, Y9, Xa, Xc, Xd, Yo, Xi, Z8, Zt, Zc, Zs, Vc.kdL, Xp, Y3, Xj, Zo, SV.bd, Vc.S1.bd, At.bd, Value.oneCell', Int.reduceEq, Int.reduceNeg, Int.reduceLE, Int.reduceLT, Vc.lenOf, Yq, Xh, Z2, Vc.atK, Z5, Vc.unK, Vc.wfK, Yh, Yf, Yg, Zr, Ya, Ye, Zv, Yt, Vc.sg, Y1, Y7, Xe, Xg, Z6, Res.own, At.sub, Vc.S1.sub, SV.sub, Res.sub, Xm, Xr, Yx, Yv, Yr, Vc.frS, Kd.sz, Nat.reduceSub, ↓reduceIte, reduceCtorEq, Nat.reduceEqDiff, Nat.reduceAdd, Nat.reduceMul, Nat.reduceLeDiff, Nat.reduceLT, Nat.reduceBEq, Nat.reduceBNe, implies_true, Xs, Z3.rs, Z3.res, hd, hg, hw, Int.ofNat_lt]) | (with_reducible first | refine T.seq ?_ | refine T.block ?_ | assumption | refine And.intro ?_ ?_) | (intro h; first | (exfalso; omega) | exact (tf h ‹_›).elim | exact (tf ‹_› h).elim | skip))
      all_goals first | omega | skip
      exact ⟨⟨1, by omega⟩, (Ent.mk (id) (by simp [Za, Zb, Vc.bnd, St.get, St.find, Zd, SV.ren, Vc.S1.ren, At.ren, Res.ren, SV.bd, Vc.S1.bd, At.bd, Res.bd, Vc.upd, Vc.del, Kd.enc, Value.oneCell', he, Ln.cells]) (by simp [Za, Zb, Vc.bnd, St.get, St.find, Zd, SV.ren, Vc.S1.ren, At.ren, Res.ren, SV.bd, Vc.S1.bd, At.bd, Res.bd, Vc.upd, Vc.del, Kd.enc, Value.oneCell', he, Ln.cells]) (by simp [Za, Zb, Vc.bnd, St.get, St.find, Zd, SV.ren, Vc.S1.ren, At.ren, Res.ren, SV.bd, Vc.S1.bd, At.bd, Res.bd, Vc.upd, Vc.del, Kd.enc, Value.oneCell', he, Ln.cells]) (by simp [Za, Zb, Vc.bnd, St.get, St.find, Zd, SV.ren, Vc.S1.ren, At.ren, Res.ren, SV.bd, Vc.S1.bd, At.bd, Res.bd, Vc.upd, Vc.del, Kd.enc, Value.oneCell', he, Ln.cells])), by simp only; omega⟩
    · have he : accS x 1 = (((accS x 0).1 ++ (accS x 0).2) ++ T5 x.ins.d, [44, 32]) := by simp [accS, Pa, hd]
      have hl3 := hLd hd
      generalize accS x 0 = A at *
      have hH := L4 x.ins.op
      rw [hd] at hH
      repeat' (first | ((first | (with_reducible first | refine T.regs ?_ | refine T.cond ?_ | refine T.reg ?_ | refine T.ret ?_ | refine T.exit ?_ | refine T.skip ?_) | ((with_reducible first | refine T.dregs ?_ ?_ | refine T.dreg ?_ ?_ | refine T.dregts ?_ ?_ | refine T.dregt ?_ ?_ | refine T.danys ?_ ?_ | refine T.dany ?_ ?_); exact mix) | ((with_reducible first | apply Z1.rd (hH) | apply Yi.rd (hH)); (focus ((repeat' (first | exact rfl | exact trivial | refine And.intro ?_ ?_ | (simp [SV.bd, Vc.S1.bd, At.bd, Zo, Yn, Ins.cells, Ln.cells]; done))); done))) | ((with_reducible first | apply Z1.rd (hDd hd) | apply Yi.rd (hDd hd)); (focus ((repeat' (first | exact rfl | exact trivial | refine And.intro ?_ ?_ | (simp [SV.bd, Vc.S1.bd, At.bd, Zo, Yn, Ins.cells, Ln.cells]; done))); done)))); simp only [Yd, Zz, Zx, Vc.exK, Zk, Zj, Zg, Zh, Zw, Xq, Y8, Z0, Zm, Zl, Zy, Zn, Zi, Xo, Z7, Xn, Vc.ev, Vc.st, Vc.stq, Vc.gst, Xl, St.rd, St.get, St.put, St.find, Zd, St.new, Vc.gdc, Zp, Yw, Ys, Yu, Xk, Zu, Zq, Ym, Yj, Vc.S1.cells, Vc.upd, Vc.del, Zf, Vc.noV, Kd.enc, Kd.dec, Ins.cells, Ln.cells, Z9, Yc, Yp, Yb, Y5, Vc.rvs, Xf, Ze, Xb, Y2, Y9, Xa, Xc, Xd, Yo, Xi, Z8, Zt, Zc, Zs, Vc.kdL, Xp, Y3, Xj, Zo, SV.bd, Vc.S1.bd, At.bd, Value.oneCell', Int.reduceEq, Int.reduceNeg, Int.reduceLE, Int.reduceLT, Vc.lenOf, Yq, Xh, Z2, Vc.atK, Z5, Vc.unK, Vc.wfK, Yh, Yf, Yg, Zr, Ya, Ye, Zv, Yt, Vc.sg, Y1, Y7, Xe, Xg, Z6, Res.own, At.sub, Vc.S1.sub, SV.sub, Res.sub, Xm, Xr, Yx, Yv, Yr, Vc.frS, Kd.sz, Nat.reduceSub, ↓reduceIte, reduceCtorEq, Nat.reduceEqDiff, Nat.reduceAdd, Nat.reduceMul, Nat.reduceLeDiff, Nat.reduceLT, Nat.reduceBEq, Nat.reduceBNe, implies_true, Xs, Z3.rs, Z3.res, hd, hg, hw, Int.ofNat_lt]) | (with_reducible first | refine T.seq ?_ | refine T.block ?_ | assumption | refine And.intro ?_ ?_) | (intro h; first | (exfalso; omega) | exact (tf h ‹_›).elim | exact (tf ‹_› h).elim | skip))
      all_goals first | omega | (simp only [List.length_append, List.length_cons, List.length_nil]; omega) | skip
      exact ⟨⟨1, by omega⟩, (Ent.mk (id) (by simp [Za, Zb, Vc.bnd, St.get, St.find, Zd, SV.ren, Vc.S1.ren, At.ren, Res.ren, SV.bd, Vc.S1.bd, At.bd, Res.bd, Vc.upd, Vc.del, Kd.enc, Value.oneCell', he, T5, Ln.cells]) (by simp [Za, Zb, Vc.bnd, St.get, St.find, Zd, SV.ren, Vc.S1.ren, At.ren, Res.ren, SV.bd, Vc.S1.bd, At.bd, Res.bd, Vc.upd, Vc.del, Kd.enc, Value.oneCell', he, T5, Ln.cells]) (by simp [Za, Zb, Vc.bnd, St.get, St.find, Zd, SV.ren, Vc.S1.ren, At.ren, Res.ren, SV.bd, Vc.S1.bd, At.bd, Res.bd, Vc.upd, Vc.del, Kd.enc, Value.oneCell', he, T5, Ln.cells]) (by simp [Za, Zb, Vc.bnd, St.get, St.find, Zd, SV.ren, Vc.S1.ren, At.ren, Res.ren, SV.bd, Vc.S1.bd, At.bd, Res.bd, Vc.upd, Vc.del, Kd.enc, Value.oneCell', he, T5, Ln.cells])), by simp only; omega⟩
  by_cases h1 : j = 1
  · subst h1
    have hg : ([100, 115, 105] : List (Kd.ty (.int .u8))).getD (((1 : Nat) : Int)).toNat (Kd.dflt (.int .u8)) = (115 : Int) := rfl
    have hw : IntKind.i64.wrap (((1 : Nat) : Int) + 1) = ((2 : Nat) : Int) := Wy (by omega)
    cases hd : Uf x.ins.op
    · have he : accS x 2 = accS x 1 := by simp [accS, Pa, hd]
      generalize accS x 1 = A at *
      have hH := Km x.ins.op
      rw [hd] at hH
      repeat' (first | ((first | (with_reducible first | refine T.regs ?_ | refine T.cond ?_ | refine T.reg ?_ | refine T.ret ?_ | refine T.exit ?_ | refine T.skip ?_) | ((with_reducible first | refine T.dregs ?_ ?_ | refine T.dreg ?_ ?_ | refine T.dregts ?_ ?_ | refine T.dregt ?_ ?_ | refine T.danys ?_ ?_ | refine T.dany ?_ ?_); exact mix) | ((with_reducible first | apply Z1.rd (hH) | apply Yi.rd (hH)); (focus ((repeat' (first | exact rfl | exact trivial | refine And.intro ?_ ?_ | (simp [SV.bd, Vc.S1.bd, At.bd, Zo, Yn, Ins.cells, Ln.cells]; done))); done)))); simp only [Yd, Zz, Zx, Vc.exK, Zk, Zj, Zg, Zh, Zw, Xq, Y8, Z0, Zm, Zl, Zy, Zn, Zi, Xo, Z7, Xn, Vc.ev, Vc.st, Vc.stq, Vc.gst, Xl, St.rd, St.get, St.put, St.find, Zd, St.new, Vc.gdc, Zp, Yw, Ys, Yu, Xk, Zu, Zq, Ym, Yj, Vc.S1.cells, Vc.upd, Vc.del, Zf, Vc.noV, Kd.enc, Kd.dec, Ins.cells, Ln.cells, Z9, Yc, Yp, Yb, Y5, Vc.rvs, Xf, Ze, Xb, Y2, Y9, Xa, Xc, Xd, Yo, Xi, Z8, Zt, Zc, Zs, Vc.kdL, Xp, Y3, Xj, Zo, SV.bd, Vc.S1.bd, At.bd, Value.oneCell', Int.reduceEq, Int.reduceNeg, Int.reduceLE, Int.reduceLT, Vc.lenOf, Yq, Xh, Z2, Vc.atK, Z5, Vc.unK, Vc.wfK, Yh, Yf, Yg, Zr, Ya, Ye, Zv, Yt, Vc.sg, Y1, Y7, Xe, Xg, Z6, Res.own, At.sub, Vc.S1.sub, SV.sub, Res.sub, Xm, Xr, Yx, Yv, Yr, Vc.frS, Kd.sz, Nat.reduceSub, ↓reduceIte, reduceCtorEq, Nat.reduceEqDiff, Nat.reduceAdd, Nat.reduceMul, Nat.reduceLeDiff, Nat.reduceLT, Nat.reduceBEq, Nat.reduceBNe, implies_true, Xs, Z3.rs, Z3.res, hd, hg, hw, Int.ofNat_lt]) | (with_reducible first | refine T.seq ?_ | refine T.block ?_ | assumption | refine And.intro ?_ ?_) | (intro h; first | (exfalso; omega) | exact (tf h ‹_›).elim | exact (tf ‹_› h).elim | skip))
      all_goals first | omega | skip
      exact ⟨⟨2, by omega⟩, (Ent.mk (id) (by simp [Za, Zb, Vc.bnd, St.get, St.find, Zd, SV.ren, Vc.S1.ren, At.ren, Res.ren, SV.bd, Vc.S1.bd, At.bd, Res.bd, Vc.upd, Vc.del, Kd.enc, Value.oneCell', he, Ln.cells]) (by simp [Za, Zb, Vc.bnd, St.get, St.find, Zd, SV.ren, Vc.S1.ren, At.ren, Res.ren, SV.bd, Vc.S1.bd, At.bd, Res.bd, Vc.upd, Vc.del, Kd.enc, Value.oneCell', he, Ln.cells]) (by simp [Za, Zb, Vc.bnd, St.get, St.find, Zd, SV.ren, Vc.S1.ren, At.ren, Res.ren, SV.bd, Vc.S1.bd, At.bd, Res.bd, Vc.upd, Vc.del, Kd.enc, Value.oneCell', he, Ln.cells]) (by simp [Za, Zb, Vc.bnd, St.get, St.find, Zd, SV.ren, Vc.S1.ren, At.ren, Res.ren, SV.bd, Vc.S1.bd, At.bd, Res.bd, Vc.upd, Vc.del, Kd.enc, Value.oneCell', he, Ln.cells])), by simp only; omega⟩
    · have he : accS x 2 = (((accS x 1).1 ++ (accS x 1).2) ++ T5 x.ins.s, [44, 32]) := by rw [accS]; simp only [Pa, hd, if_true]
      have hl3 := hLs hd
      generalize accS x 1 = A at *
      have hH := Km x.ins.op
      rw [hd] at hH
      repeat' (first | ((first | (with_reducible first | refine T.regs ?_ | refine T.cond ?_ | refine T.reg ?_ | refine T.ret ?_ | refine T.exit ?_ | refine T.skip ?_) | ((with_reducible first | refine T.dregs ?_ ?_ | refine T.dreg ?_ ?_ | refine T.dregts ?_ ?_ | refine T.dregt ?_ ?_ | refine T.danys ?_ ?_ | refine T.dany ?_ ?_); exact mix) | ((with_reducible first | apply Z1.rd (hH) | apply Yi.rd (hH)); (focus ((repeat' (first | exact rfl | exact trivial | refine And.intro ?_ ?_ | (simp [SV.bd, Vc.S1.bd, At.bd, Zo, Yn, Ins.cells, Ln.cells]; done))); done))) | ((with_reducible first | apply Z1.rd (hDs hd) | apply Yi.rd (hDs hd)); (focus ((repeat' (first | exact rfl | exact trivial | refine And.intro ?_ ?_ | (simp [SV.bd, Vc.S1.bd, At.bd, Zo, Yn, Ins.cells, Ln.cells]; done))); done)))); simp only [Yd, Zz, Zx, Vc.exK, Zk, Zj, Zg, Zh, Zw, Xq, Y8, Z0, Zm, Zl, Zy, Zn, Zi, Xo, Z7, Xn, Vc.ev, Vc.st, Vc.stq, Vc.gst, Xl, St.rd, St.get, St.put, St.find, Zd, St.new, Vc.gdc, Zp, Yw, Ys, Yu, Xk, Zu, Zq, Ym, Yj, Vc.S1.cells, Vc.upd, Vc.del, Zf, Vc.noV, Kd.enc, Kd.dec, Ins.cells, Ln.cells, Z9, Yc, Yp, Yb, Y5, Vc.rvs, Xf, Ze, Xb, Y2, Y9, Xa, Xc, Xd, Yo, Xi, Z8, Zt, Zc, Zs, Vc.kdL, Xp, Y3, Xj, Zo, SV.bd, Vc.S1.bd, At.bd, Value.oneCell', Int.reduceEq, Int.reduceNeg, Int.reduceLE, Int.reduceLT, Vc.lenOf, Yq, Xh, Z2, Vc.atK, Z5, Vc.unK, Vc.wfK, Yh, Yf, Yg, Zr, Ya, Ye, Zv, Yt, Vc.sg, Y1, Y7, Xe, Xg, Z6, Res.own, At.sub, Vc.S1.sub, SV.sub, Res.sub, Xm, Xr, Yx, Yv, Yr, Vc.frS, Kd.sz, Nat.reduceSub, ↓reduceIte, reduceCtorEq, Nat.reduceEqDiff, Nat.reduceAdd, Nat.reduceMul, Nat.reduceLeDiff, Nat.reduceLT, Nat.reduceBEq, Nat.reduceBNe, implies_true, Xs, Z3.rs, Z3.res, hd, hg, hw, Int.ofNat_lt]) | (with_reducible first | refine T.seq ?_ | refine T.block ?_ | assumption | refine And.intro ?_ ?_) | (intro h; first | (exfalso; omega) | exact (tf h ‹_›).elim | exact (tf ‹_› h).elim | skip))
      all_goals first | omega | (simp only [List.length_append, List.length_cons, List.length_nil]; omega) | skip
      exact ⟨⟨2, by omega⟩, (Ent.mk (id) (by simp [Za, Zb, Vc.bnd, St.get, St.find, Zd, SV.ren, Vc.S1.ren, At.ren, Res.ren, SV.bd, Vc.S1.bd, At.bd, Res.bd, Vc.upd, Vc.del, Kd.enc, Value.oneCell', he, T5, Ln.cells]) (by simp [Za, Zb, Vc.bnd, St.get, St.find, Zd, SV.ren, Vc.S1.ren, At.ren, Res.ren, SV.bd, Vc.S1.bd, At.bd, Res.bd, Vc.upd, Vc.del, Kd.enc, Value.oneCell', he, T5, Ln.cells]) (by simp [Za, Zb, Vc.bnd, St.get, St.find, Zd, SV.ren, Vc.S1.ren, At.ren, Res.ren, SV.bd, Vc.S1.bd, At.bd, Res.bd, Vc.upd, Vc.del, Kd.enc, Value.oneCell', he, T5, Ln.cells]) (by simp [Za, Zb, Vc.bnd, St.get, St.find, Zd, SV.ren, Vc.S1.ren, At.ren, Res.ren, SV.bd, Vc.S1.bd, At.bd, Res.bd, Vc.upd, Vc.del, Kd.enc, Value.oneCell', he, T5, Ln.cells])), by simp only; omega⟩
  by_cases h2 : j = 2
  · subst h2
    have hg : ([100, 115, 105] : List (Kd.ty (.int .u8))).getD (((2 : Nat) : Int)).toNat (Kd.dflt (.int .u8)) = (105 : Int) := rfl
    have hw : IntKind.i64.wrap (((2 : Nat) : Int) + 1) = ((3 : Nat) : Int) := Wy (by omega)
    cases hd : hasI x.ins.op
    · have he : accS x 3 = accS x 2 := by rw [accS]; simp only [Pa, hd, Bool.false_eq_true, if_false]
      generalize accS x 2 = A at *
      have hH := Qf x.ins.op
      rw [hd] at hH
      repeat' (first | ((first | (with_reducible first | refine T.regs ?_ | refine T.cond ?_ | refine T.reg ?_ | refine T.ret ?_ | refine T.exit ?_ | refine T.skip ?_) | ((with_reducible first | refine T.dregs ?_ ?_ | refine T.dreg ?_ ?_ | refine T.dregts ?_ ?_ | refine T.dregt ?_ ?_ | refine T.danys ?_ ?_ | refine T.dany ?_ ?_); exact mix) | ((with_reducible first | apply Z1.rd (hH) | apply Yi.rd (hH)); (focus ((repeat' (first | exact rfl | exact trivial | refine And.intro ?_ ?_ | (simp [SV.bd, Vc.S1.bd, At.bd, Zo, Yn, Ins.cells, Ln.cells]; done))); done)))); simp only [Yd, Zz, Zx, Vc.exK, Zk, Zj, Zg, Zh, Zw, Xq, Y8, Z0, Zm, Zl, Zy, Zn, Zi, Xo, Z7, Xn, Vc.ev, Vc.st, Vc.stq, Vc.gst, Xl, St.rd, St.get, St.put, St.find, Zd, St.new, Vc.gdc, Zp, Yw, Ys, Yu, Xk, Zu, Zq, Ym, Yj, Vc.S1.cells, Vc.upd, Vc.del, Zf, Vc.noV, Kd.enc, Kd.dec, Ins.cells, Ln.cells, Z9, Yc, Yp, Yb, Y5, Vc.rvs, Xf, Ze, Xb, Y2, Y9, Xa, Xc, Xd, Yo, Xi, Z8, Zt, Zc, Zs, Vc.kdL, Xp, Y3, Xj, Zo, SV.bd, Vc.S1.bd, At.bd, Value.oneCell', Int.reduceEq, Int.reduceNeg, Int.reduceLE, Int.reduceLT, Vc.lenOf, Yq, Xh, Z2, Vc.atK, Z5, Vc.unK, Vc.wfK, Yh, Yf, Yg, Zr, Ya, Ye, Zv, Yt, Vc.sg, Y1, Y7, Xe, Xg, Z6, Res.own, At.sub, Vc.S1.sub, SV.sub, Res.sub, Xm, Xr, Yx, Yv, Yr, Vc.frS, Kd.sz, Nat.reduceSub, ↓reduceIte, reduceCtorEq, Nat.reduceEqDiff, Nat.reduceAdd, Nat.reduceMul, Nat.reduceLeDiff, Nat.reduceLT, Nat.reduceBEq, Nat.reduceBNe, implies_true, Xs, Z3.rs, Z3.res, hd, hg, hw, Int.ofNat_lt]) | (with_reducible first | refine T.seq ?_ | refine T.block ?_ | assumption | refine And.intro ?_ ?_) | (intro h; first | (exfalso; omega) | exact (tf h ‹_›).elim | exact (tf ‹_› h).elim | skip))
      all_goals first | omega | skip
      exact ⟨⟨3, by omega⟩, (Ent.mk (id) (by simp [Za, Zb, Vc.bnd, St.get, St.find, Zd, SV.ren, Vc.S1.ren, At.ren, Res.ren, SV.bd, Vc.S1.bd, At.bd, Res.bd, Vc.upd, Vc.del, Kd.enc, Value.oneCell', he, Ln.cells]) (by simp [Za, Zb, Vc.bnd, St.get, St.find, Zd, SV.ren, Vc.S1.ren, At.ren, Res.ren, SV.bd, Vc.S1.bd, At.bd, Res.bd, Vc.upd, Vc.del, Kd.enc, Value.oneCell', he, Ln.cells]) (by simp [Za, Zb, Vc.bnd, St.get, St.find, Zd, SV.ren, Vc.S1.ren, At.ren, Res.ren, SV.bd, Vc.S1.bd, At.bd, Res.bd, Vc.upd, Vc.del, Kd.enc, Value.oneCell', he, Ln.cells]) (by simp [Za, Zb, Vc.bnd, St.get, St.find, Zd, SV.ren, Vc.S1.ren, At.ren, Res.ren, SV.bd, Vc.S1.bd, At.bd, Res.bd, Vc.upd, Vc.del, Kd.enc, Value.oneCell', he, Ln.cells])), by simp only; omega⟩
    · by_cases hrf : x.ref = []
      · have he : accS x 3 = (((accS x 2).1 ++ (accS x 2).2) ++ Lib.itoa x.ins.imm, [44, 32]) := by rw [accS]; simp only [Pa, hd, if_true, V0, hrf]
        have hl3 := hLi hd
        generalize accS x 2 = A at *
        have hH := Qf x.ins.op
        rw [hd] at hH
        repeat' (first | ((first | (with_reducible first | refine T.regs ?_ | refine T.cond ?_ | refine T.reg ?_ | refine T.ret ?_ | refine T.exit ?_ | refine T.skip ?_) | ((with_reducible first | refine T.dregs ?_ ?_ | refine T.dreg ?_ ?_ | refine T.dregts ?_ ?_ | refine T.dregt ?_ ?_ | refine T.danys ?_ ?_ | refine T.dany ?_ ?_); exact mix) | ((with_reducible first | apply Z1.rd (hH) | apply Yi.rd (hH)); (focus ((repeat' (first | exact rfl | exact trivial | refine And.intro ?_ ?_ | (simp [SV.bd, Vc.S1.bd, At.bd, Zo, Yn, Ins.cells, Ln.cells]; done))); done))) | ((with_reducible first | apply Z1.rd (hDi hd) | apply Yi.rd (hDi hd)); (focus ((repeat' (first | exact rfl | exact trivial | refine And.intro ?_ ?_ | (simp [SV.bd, Vc.S1.bd, At.bd, Zo, Yn, Ins.cells, Ln.cells]; done))); done)))); simp only [Yd, Zz, Zx, Vc.exK, Zk, Zj, Zg, Zh, Zw, Xq, Y8, Z0, Zm, Zl, Zy, Zn, Zi, Xo, Z7, Xn, Vc.ev, Vc.st, Vc.stq, Vc.gst, Xl, St.rd, St.get, St.put, St.find, Zd, St.new, Vc.gdc, Zp, Yw, Ys, Yu, Xk, Zu, Zq, Ym, Yj, Vc.S1.cells, Vc.upd, Vc.del, Zf, Vc.noV, Kd.enc, Kd.dec, Ins.cells, Ln.cells, Z9, Yc, Yp, Yb, Y5, Vc.rvs, Xf, Ze, Xb, Y2, Y9, Xa, Xc, Xd, Yo, Xi, Z8, Zt, Zc, Zs, Vc.kdL, Xp, Y3, Xj, Zo, SV.bd, Vc.S1.bd, At.bd, Value.oneCell', Int.reduceEq, Int.reduceNeg, Int.reduceLE, Int.reduceLT, Vc.lenOf, Yq, Xh, Z2, Vc.atK, Z5, Vc.unK, Vc.wfK, Yh, Yf, Yg, Zr, Ya, Ye, Zv, Yt, Vc.sg, Y1, Y7, Xe, Xg, Z6, Res.own, At.sub, Vc.S1.sub, SV.sub, Res.sub, Xm, Xr, Yx, Yv, Yr, Vc.frS, Kd.sz, Nat.reduceSub, ↓reduceIte, reduceCtorEq, Nat.reduceEqDiff, Nat.reduceAdd, Nat.reduceMul, Nat.reduceLeDiff, Nat.reduceLT, Nat.reduceBEq, Nat.reduceBNe, implies_true, Xs, Z3.rs, Z3.res, hd, hg, hw, hrf, Int.ofNat_lt]) | (with_reducible first | refine T.seq ?_ | refine T.block ?_ | assumption | refine And.intro ?_ ?_) | (intro h; first | (exfalso; omega) | exact (tf h ‹_›).elim | exact (tf ‹_› h).elim | skip))
        all_goals first | omega | (simp only [List.length_append, List.length_cons, List.length_nil]; omega) | skip
        exact ⟨⟨3, by omega⟩, (Ent.mk (id) (by simp [Za, Zb, Vc.bnd, St.get, St.find, Zd, SV.ren, Vc.S1.ren, At.ren, Res.ren, SV.bd, Vc.S1.bd, At.bd, Res.bd, Vc.upd, Vc.del, Kd.enc, Value.oneCell', he, hrf, Ln.cells]) (by simp [Za, Zb, Vc.bnd, St.get, St.find, Zd, SV.ren, Vc.S1.ren, At.ren, Res.ren, SV.bd, Vc.S1.bd, At.bd, Res.bd, Vc.upd, Vc.del, Kd.enc, Value.oneCell', he, hrf, Ln.cells]) (by simp [Za, Zb, Vc.bnd, St.get, St.find, Zd, SV.ren, Vc.S1.ren, At.ren, Res.ren, SV.bd, Vc.S1.bd, At.bd, Res.bd, Vc.upd, Vc.del, Kd.enc, Value.oneCell', he, hrf, Ln.cells]) (by simp [Za, Zb, Vc.bnd, St.get, St.find, Zd, SV.ren, Vc.S1.ren, At.ren, Res.ren, SV.bd, Vc.S1.bd, At.bd, Res.bd, Vc.upd, Vc.del, Kd.enc, Value.oneCell', he, hrf, Ln.cells])), by simp only; omega⟩
      · have he : accS x 3 = (((accS x 2).1 ++ (accS x 2).2) ++ x.ref, [44, 32]) := by rw [accS]; simp only [Pa, hd, if_true, V0, hrf, if_false]
        generalize accS x 2 = A at *
        have hH := Qf x.ins.op
        rw [hd] at hH
        repeat' (first | ((first | (with_reducible first | refine T.regs ?_ | refine T.cond ?_ | refine T.reg ?_ | refine T.ret ?_ | refine T.exit ?_ | refine T.skip ?_) | ((with_reducible first | refine T.dregs ?_ ?_ | refine T.dreg ?_ ?_ | refine T.dregts ?_ ?_ | refine T.dregt ?_ ?_ | refine T.danys ?_ ?_ | refine T.dany ?_ ?_); exact mix) | ((with_reducible first | apply Z1.rd (hH) | apply Yi.rd (hH)); (focus ((repeat' (first | exact rfl | exact trivial | refine And.intro ?_ ?_ | (simp [SV.bd, Vc.S1.bd, At.bd, Zo, Yn, Ins.cells, Ln.cells]; done))); done)))); simp only [Yd, Zz, Zx, Vc.exK, Zk, Zj, Zg, Zh, Zw, Xq, Y8, Z0, Zm, Zl, Zy, Zn, Zi, Xo, Z7, Xn, Vc.ev, Vc.st, Vc.stq, Vc.gst, Xl, St.rd, St.get, St.put, St.find, Zd, St.new, Vc.gdc, Zp, Yw, Ys, Yu, Xk, Zu, Zq, Ym, Yj, Vc.S1.cells, Vc.upd, Vc.del, Zf, Vc.noV, Kd.enc, Kd.dec, Ins.cells, Ln.cells, Z9, Yc, Yp, Yb, Y5, Vc.rvs, Xf, Ze, Xb, Y2, Y9, Xa, Xc, Xd, Yo, Xi, Z8, Zt, Zc, Zs, Vc.kdL, Xp, Y3, Xj, Zo, SV.bd, Vc.S1.bd, At.bd, Value.oneCell', Int.reduceEq, Int.reduceNeg, Int.reduceLE, Int.reduceLT, Vc.lenOf, Yq, Xh, Z2, Vc.atK, Z5, Vc.unK, Vc.wfK, Yh, Yf, Yg, Zr, Ya, Ye, Zv, Yt, Vc.sg, Y1, Y7, Xe, Xg, Z6, Res.own, At.sub, Vc.S1.sub, SV.sub, Res.sub, Xm, Xr, Yx, Yv, Yr, Vc.frS, Kd.sz, Nat.reduceSub, ↓reduceIte, reduceCtorEq, Nat.reduceEqDiff, Nat.reduceAdd, Nat.reduceMul, Nat.reduceLeDiff, Nat.reduceLT, Nat.reduceBEq, Nat.reduceBNe, implies_true, Xs, Z3.rs, Z3.res, hd, hg, hw, hrf, Int.ofNat_lt]) | (with_reducible first | refine T.seq ?_ | refine T.block ?_ | assumption | refine And.intro ?_ ?_) | (intro h; first | (exfalso; omega) | exact (tf h ‹_›).elim | exact (tf ‹_› h).elim | skip))
        all_goals first | omega | (simp only [List.length_append, List.length_cons, List.length_nil]; omega) | skip
        exact ⟨⟨3, by omega⟩, (Ent.mk (id) (by simp [Za, Zb, Vc.bnd, St.get, St.find, Zd, SV.ren, Vc.S1.ren, At.ren, Res.ren, SV.bd, Vc.S1.bd, At.bd, Res.bd, Vc.upd, Vc.del, Kd.enc, Value.oneCell', he, Ln.cells]) (by simp [Za, Zb, Vc.bnd, St.get, St.find, Zd, SV.ren, Vc.S1.ren, At.ren, Res.ren, SV.bd, Vc.S1.bd, At.bd, Res.bd, Vc.upd, Vc.del, Kd.enc, Value.oneCell', he, Ln.cells]) (by simp [Za, Zb, Vc.bnd, St.get, St.find, Zd, SV.ren, Vc.S1.ren, At.ren, Res.ren, SV.bd, Vc.S1.bd, At.bd, Res.bd, Vc.upd, Vc.del, Kd.enc, Value.oneCell', he, Ln.cells]) (by simp [Za, Zb, Vc.bnd, St.get, St.find, Zd, SV.ren, Vc.S1.ren, At.ren, Res.ren, SV.bd, Vc.S1.bd, At.bd, Res.bd, Vc.upd, Vc.del, Kd.enc, Value.oneCell', he, Ln.cells])), by simp only; omega⟩
  · have h3 : j = 3 := by omega
    subst h3
    repeat' (first | ((first | (with_reducible first | refine T.regs ?_ | refine T.cond ?_ | refine T.reg ?_ | refine T.ret ?_ | refine T.exit ?_ | refine T.skip ?_) | ((with_reducible first | refine T.dregs ?_ ?_ | refine T.dreg ?_ ?_ | refine T.dregts ?_ ?_ | refine T.dregt ?_ ?_ | refine T.danys ?_ ?_ | refine T.dany ?_ ?_); exact mix)); simp only [Yd, Zz, Zx, Vc.exK, Zk, Zj, Zg, Zh, Zw, Xq, Y8, Z0, Zm, Zl, Zy, Zn, Zi, Xo, Z7, Xn, Vc.ev, Vc.st, Vc.stq, Vc.gst, Xl, St.rd, St.get, St.put, St.find, Zd, St.new, Vc.gdc, Zp, Yw, Ys, Yu, Xk, Zu, Zq, Ym, Yj, Vc.S1.cells, Vc.upd, Vc.del, Zf, Vc.noV, Kd.enc, Kd.dec, Ins.cells, Ln.cells, Z9, Yc, Yp, Yb, Y5, Vc.rvs, Xf, Ze, Xb, Y2, Y9, Xa, Xc, Xd, Yo, Xi, Z8, Zt, Zc, Zs, Vc.kdL, Xp, Y3, Xj, Zo, SV.bd, Vc.S1.bd, At.bd, Value.oneCell', Int.reduceEq, Int.reduceNeg, Int.reduceLE, Int.reduceLT, Vc.lenOf, Yq, Xh, Z2, Vc.atK, Z5, Vc.unK, Vc.wfK, Yh, Yf, Yg, Zr, Ya, Ye, Zv, Yt, Vc.sg, Y1, Y7, Xe, Xg, Z6, Res.own, At.sub, Vc.S1.sub, SV.sub, Res.sub, Xm, Xr, Yx, Yv, Yr, Vc.frS, Kd.sz, Nat.reduceSub, ↓reduceIte, reduceCtorEq, Nat.reduceEqDiff, Nat.reduceAdd, Nat.reduceMul, Nat.reduceLeDiff, Nat.reduceLT, Nat.reduceBEq, Nat.reduceBNe, implies_true, Xs, Z3.rs, Z3.res, Int.ofNat_lt]) | (with_reducible first | refine T.seq ?_ | refine T.block ?_ | assumption | refine And.intro ?_ ?_) | (intro h; first | (exfalso; omega) | exact (tf h ‹_›).elim | exact (tf ‹_› h).elim | skip))
    all_goals first | omega | skip
    exact hQ _ (Ent.mk (id) (by simp [Za, Zb, Vc.bnd, St.get, St.find, Zd, SV.ren, Vc.S1.ren, At.ren, Res.ren, SV.bd, Vc.S1.bd, At.bd, Res.bd, Vc.upd, Vc.del, Kd.enc, Value.oneCell']) (by simp [Za, Zb, Vc.bnd, St.get, St.find, Zd, SV.ren, Vc.S1.ren, At.ren, Res.ren, SV.bd, Vc.S1.bd, At.bd, Res.bd, Vc.upd, Vc.del, Kd.enc, Value.oneCell']) (by simp [Za, Zb, Vc.bnd, St.get, St.find, Zd, SV.ren, Vc.S1.ren, At.ren, Res.ren, SV.bd, Vc.S1.bd, At.bd, Res.bd, Vc.upd, Vc.del, Kd.enc, Value.oneCell']) (by simp [Za, Zb, Vc.bnd, St.get, St.find, Zd, SV.ren, Vc.S1.ren, At.ren, Res.ren, SV.bd, Vc.S1.bd, At.bd, Res.bd, Vc.upd, Vc.del, Kd.enc, Value.oneCell']))
end Go.Proofs.YtccjjcdjgibilaaDoor
