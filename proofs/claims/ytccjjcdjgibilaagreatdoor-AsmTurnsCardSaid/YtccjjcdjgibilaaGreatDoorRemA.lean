/-
  A part of the proofs of this seat's laws: a step on the way. It has no conditions of its own.
-/
import Derived.Test.YtccjjcdjgibilaaGreatDoorReadN
import Derived.Test.YtccjjcdjgibilaaGreatDoorAsmF
import Derived.Test.YtccjjcdjgibilaaGreatDoorIrW
namespace Go.Proofs.YtccjjcdjgibilaaGreatDoor
open Go Go.RowKit Vc
set_option linter.unusedVariables false
set_option linter.unusedSimpArgs false
attribute [local irreducible] T Zq Wa Ent RdC RwC V2 Yl Xt
def L5 : List UInt8 := [97, 58, 10, 9, 108, 100, 105, 32, 114, 49, 44, 32, 53, 32, 59, 32, 102, 105, 118, 101, 10, 9, 106, 109, 112, 32, 97, 10]
def aliveL : List Ln := [⟨[97], Uj, []⟩, ⟨[], ⟨2, 1, 0, 5⟩, []⟩, ⟨[], ⟨19, 0, 0, 0⟩, [97]⟩]
theorem Kj : readS L5 = (aliveL, 0, 0) := by kernel_rfl
theorem Mh : (asmS aliveL).2 = (0, 0) ∧ (asmS aliveL).1.length = 4 ∧ (asmS aliveL).1.getD 3 0 = 0 := ⟨by kernel_rfl, by kernel_rfl, by kernel_rfl⟩
set_option maxHeartbeats 4000000 in
set_option maxRecDepth 100000 in
theorem J0 {G : Nat} {H : Nat → Option Obj} (hM : Rr G H) : GCp G H Tryz.prog 4 [] [] 0 [] (.one (.a (.bool true))) [] 0 := by
  refine W1.fn.gcp (by simp) (by simp [Vr, V1, Vu, Wo, Wc, Vc.S1.okN, At.okN, SV.okN, Res.okN, Res.outOk, Zb, Res.own, Value.oneCell']) fun w X fr hglob => ?_
  have hA := Ti hM L5 (by decide)
  rw [Kj] at hA
  unfold L5 at hA
  have hll : aliveL.length = 3 := rfl
  have hB := Nw aliveL (by decide)
  obtain ⟨h1, h2, h3⟩ := Mh
  generalize asmS aliveL = W at hB h1 h2 h3
  generalize aliveL = L at hA hB hll
  obtain ⟨ws, e, k⟩ := W
  simp only [Prod.mk.injEq] at h1 h2 h3 hB
  obtain ⟨rfl, rfl⟩ := h1
  have hl3 : (L.length : Int) = 3 := by omega
  have hl4 : (ws.length : Int) = 4 := by omega
  have h3' : ws.getD (3 : Int).toNat (Kd.dflt (.int .i64)) = (0 : Int) := h3
  repeat' (first | ((first | (with_reducible first | refine T.regs ?_ | refine T.cond ?_ | refine T.reg ?_ | refine T.ret ?_ | refine T.exit ?_ | refine T.skip ?_) | ((with_reducible first | refine T.dregs ?_ ?_ | refine T.dreg ?_ ?_ | refine T.dregts ?_ ?_ | refine T.dregt ?_ ?_ | refine T.danys ?_ ?_ | refine T.dany ?_ ?_); exact mix) | ((with_reducible refine Zq.gcp hglob (hA) ?_ ?_); (focus ((simp [Yz, X3, Vc.mtR, Vc.roA, Vc.roM, X1, X4, Xz, X2, Xy, Vc.fnM, Zs, St.find, Zb, Vc.del, Zr, Res.own, Vc.sg, Zx, Zu, Zw, Zc, Zt, Ze, At.sub, Vc.S1.sub, Res.sub, Kd.enc, Ins.cells, Ln.cells, Value.oneCell', Y5, List.nodup_cons]); done))) | ((with_reducible apply Zq.rw (hB)); (focus ((repeat' (first | exact rfl | exact trivial | refine And.intro ?_ ?_ | (simp [SV.bd, Vc.S1.bd, At.bd, Z7, Xu, Ins.cells, Ln.cells]; done))); done)))); simp only [Yg, Z3, Z6, Vc.exK, Zk, Zn, Zh, Zi, Z2, Xq, Y7, Z4, Zj, Zl, Z5, Zm, Zo, Xo, Yb, Xn, Vc.ev, Vc.st, Vc.stq, Vc.gst, Xk, St.rd, St.get, St.put, St.find, Zb, St.new, Vc.gdc, Zv, Yv, Yw, Yu, Xl, Z0, Zy, Yn, Yi, Vc.S1.cells, Vc.upd, Vc.del, Zg, Vc.noV, Kd.enc, Kd.dec, Ins.cells, Ln.cells, Zs, Yd, Yq, Ye, Y4, Vc.rvs, Xe, Zf, Xb, Y2, Y6, Xa, Xg, Xf, Yo, Xi, Ya, Z1, Zd, Zz, Vc.kdL, Xr, Y3, Xj, Z7, SV.bd, Vc.S1.bd, At.bd, Value.oneCell', Int.reduceEq, Int.reduceNeg, Int.reduceLE, Int.reduceLT, Vc.lenOf, Yp, Xh, Z8, Vc.atK, Z9, Vc.unK, Vc.wfK, Zx, Zu, Zw, Zc, Yf, Zt, Ze, Yt, Vc.sg, Y1, Y8, Xd, Xc, Zr, Res.own, At.sub, Vc.S1.sub, SV.sub, Res.sub, Xm, Xp, Ys, Yx, Yr, Vc.frS, Kd.sz, Nat.reduceSub, ↓reduceIte, reduceCtorEq, Nat.reduceEqDiff, Nat.reduceAdd, Nat.reduceMul, Nat.reduceLeDiff, Nat.reduceLT, Nat.reduceBEq, Nat.reduceBNe, implies_true, Xs, W1.rs, W1.res, hl3, hl4, h3']) | (with_reducible first | refine T.seq ?_ | refine T.block ?_ | assumption | refine And.intro ?_ ?_) | (intro h; first | (exfalso; omega) | exact (tf h ‹_›).elim | exact (tf ‹_› h).elim | skip))
  all_goals first | omega | skip
theorem Sn : ∀ (l : List (List UInt8)) (k k' : Nat) (acc : List Ln), (V0 l k acc).1 = (V0 l k' acc).1 ∧ (V0 l k acc).2.1 = (V0 l k' acc).2.1
  | [], _, _, _ => ⟨rfl, rfl⟩
  | s :: l, k, k', acc => by
    rw [V6, V6]
    split
    · exact ⟨rfl, rfl⟩
    · split
      · exact Sn l _ _ _
      · exact Sn l _ _ _
theorem Lg (r : List UInt8) : lineT ([32, 32, 59] ++ r) = (ln0, false, 0) := Oa rfl
theorem remark_law {t r : List UInt8} (h : (readS t).2.1 = 0) (hr : (10 : UInt8) ∉ r) :
    ((readS ((([32, 32, 59] ++ r) ++ [10]) ++ t)).2.1 = 4 ∨ (readS ((([32, 32, 59] ++ r) ++ [10]) ++ t)).2.1 = 5) ∨
      ((readS ((([32, 32, 59] ++ r) ++ [10]) ++ t)).2.1 = 0 ∧ (readS ((([32, 32, 59] ++ r) ++ [10]) ++ t)).1 = (readS t).1) := by
  have he : (([32, 32, 59] ++ r) ++ [10]) ++ t = ([32, 32, 59] ++ r) ++ 10 :: t := by simp
  rw [he]
  have hn : (10 : UInt8) ∉ [32, 32, 59] ++ r := by
    simp only [List.mem_append, not_or]
    exact ⟨by decide, hr⟩
  have hL := Ok (r := t) hn
  generalize hx : [32, 32, 59] ++ r = x at hL
  have hxl : lineT x = (ln0, false, 0) := by rw [← hx]; exact Lg r
  unfold readS at h ⊢
  rw [hL]
  by_cases h1 : 1048576 < (x ++ 10 :: t).length
  · left; left; rw [if_pos h1]
  · rw [if_neg h1]
    by_cases h2 : 40000 < (x :: Vq t).length
    · left; right; rw [if_pos h2]
    · rw [if_neg h2]
      right
      have h3 : ¬ 1048576 < t.length := by simp only [List.length_append, List.length_cons] at h1; omega
      have h4 : ¬ 40000 < (Vq t).length := by simp only [List.length_cons] at h2; omega
      rw [if_neg h3, if_neg h4] at h ⊢
      rw [V6, hxl, if_neg (by simp), if_neg (by simp)]
      have := Sn (Vq t) 1 0 []
      exact ⟨this.2.trans h, this.1⟩
theorem readS_small {t : List UInt8} (h : (readS t).2.1 = 0) : t.length ≤ 1048576 := by
  unfold readS at h
  split at h
  · cases h
  · omega
def noNl (r : List UInt8) : List UInt8 := r.filter fun b => decide (b ≠ 10)
theorem noNl_no (r : List UInt8) : (10 : UInt8) ∉ noNl r := by simp [noNl]
theorem bytes_back (s : List UInt8) : (X6 s).map toB = s := by
  induction s with
  | nil => rfl
  | cons x s ih =>
    have : toB ((x.toNat : Nat) : Int) = x := by simp [toB]
    simp only [X6, List.map_cons] at ih ⊢
    rw [this, ih]
end Go.Proofs.YtccjjcdjgibilaaGreatDoor
