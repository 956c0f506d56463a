/-
  A part of the proofs of this seat's laws: a step on the way. It has no conditions of its own.
-/
import Derived.Test.YtibkcfpcfbodaaaLinkD
namespace Go.Proofs.Ytibkcfpcfbodaaa
open Go.RowKit Vc
set_option linter.unusedVariables false
set_option linter.unusedSimpArgs false
attribute [local irreducible] T Z9 Wm Ent RdC RwC Sb Yc Wg
def T8 (g : Own) (sp : List Spot) (s : List UInt8) : Int × Bool := if Wz s = true then ((sp.getD (U3 (fun y => decide (y.name = s)) sp 0).toNat Tm).at_, true) else ((g s).getD (0 : Int), true)
def kn2 (g : Own) (sp : List Spot) : List S1 → Option SV
  | [.a (.str s)] => if s ≠ [] ∧ s.length ≤ 32 ∧ (Wz s = true → sp.any (fun y => decide (y.name = s)) = true) then some (.tup [.a (.int .i64 (T8 g sp s).1), .a (.bool (T8 g sp s).2)]) else none
  | _ => none
theorem Ig (R : List (Nat × Res)) (nx m : Nat) (s : List UInt8) (hm : Ze (roR R) m = some (Res.rocells [.str s])) : Kk Try.prog R nx 28 [m] (Rq s) := by
  refine ⟨Ue.enters, _, _, _, Ue.fn, fun args r hr => ?_⟩
  unfold Rq at hr
  split at hr
  · rename_i t n
    cases hr
    refine ⟨by simp [Zo, S1.bd, At.bd], by simp [SV.bd, S1.bd, At.bd], by simp, fun w => ?_⟩
    refine T.weak (S2 := ⟨[(0, .one (.agg [.str t, .int .i64 n])), (1, .one (.a (.loc 0 0)))], [(0, .rocells [.str s])], 1⟩) (Ent.mk (fun _ => m) (by simp [Za, Zb, Vc.bnd, St.get, St.find, Ze, SV.ren, Vc.S1.ren, At.ren, Res.ren, SV.bd, Vc.S1.bd, At.bd, Res.bd, Vc.upd, Vc.del, Kd.enc, Value.oneCell', hm, Zd]) (by simp [Za, Zb, Vc.bnd, St.get, St.find, Ze, SV.ren, Vc.S1.ren, At.ren, Res.ren, SV.bd, Vc.S1.bd, At.bd, Res.bd, Vc.upd, Vc.del, Kd.enc, Value.oneCell', hm, Zd]) (by simp [Za, Zb, Vc.bnd, St.get, St.find, Ze, SV.ren, Vc.S1.ren, At.ren, Res.ren, SV.bd, Vc.S1.bd, At.bd, Res.bd, Vc.upd, Vc.del, Kd.enc, Value.oneCell', hm, Zd]) (by simp [Za, Zb, Vc.bnd, St.get, St.find, Ze, SV.ren, Vc.S1.ren, At.ren, Res.ren, SV.bd, Vc.S1.bd, At.bd, Res.bd, Vc.upd, Vc.del, Kd.enc, Value.oneCell', hm, Zd])) ?_
    repeat' (first | ((first | (with_reducible first | refine T.regs ?_ | refine T.cond ?_ | refine T.reg ?_ | refine T.ret ?_ | refine T.exit ?_ | refine T.skip ?_) | ((with_reducible first | refine T.dregs ?_ ?_ | refine T.dreg ?_ ?_ | refine T.dregts ?_ ?_ | refine T.dregt ?_ ?_ | refine T.danys ?_ ?_ | refine T.dany ?_ ?_); exact mix)); simp only [Z8, Zx, Zy, Vc.exK, Zl, Zn, Zg, Zh, Zu, Xo, Y5, Zw, Zm, Zi, Zv, Zk, Zj, Xn, Z3, Xm, Vc.ev, Vc.st, Vc.stq, Vc.gst, Xj, St.rd, St.get, St.put, St.find, Ze, St.new, Vc.gdc, Zp, Yw, Yr, Yv, Xk, Zs, Zq, Yl, Yf, Vc.S1.cells, Vc.upd, Vc.del, Zf, Vc.noV, Kd.enc, Kd.dec, Ins.cells, Ln.cells, Yb, Z7, Yo, Z5, Y7, Vc.rvs, Xb, Zd, Xa, Y3, Y6, Y9, Xc, Xd, Ym, Xi, Z4, Zt, Zc, Zr, Y4, Xh, Zo, SV.bd, Vc.S1.bd, At.bd, Value.oneCell', Int.reduceEq, Int.reduceNeg, Int.reduceLE, Int.reduceLT, Vc.lenOf, Yq, Xf, Z1, Vc.atK, Z2, Vc.unK, Vc.wfK, Yk, Yg, Yi, Zz, Z6, Yh, Z0, Yu, Vc.sg, Y2, Y8, Xg, Xe, Ya, Res.own, At.sub, Vc.S1.sub, SV.sub, Res.sub, Xl, Xp, Ys, Yt, Yp, Vc.frS, Kd.sz, Nat.reduceSub, ↓reduceIte, reduceCtorEq, Nat.reduceEqDiff, Nat.reduceAdd, Nat.reduceMul, Nat.reduceLeDiff, Nat.reduceLT, Nat.reduceBEq, Nat.reduceBNe, implies_true, Xq, Ue.rs, Ue.res]) | (with_reducible first | refine T.seq ?_ | refine T.block ?_ | assumption | refine And.intro ?_ ?_) | (intro h; first | (exfalso; omega) | exact (tf h ‹_›).elim | exact (tf ‹_› h).elim | skip))
  · cases hr
theorem Lh {α : Type} (p : α → Bool) : ∀ (l : List α) (k : Nat), l.any p = true → (k : Int) ≤ U3 p l k ∧ U3 p l k < k + l.length
  | [], k, h => by simp at h
  | x :: l, k, h => by
    simp only [U3, List.length_cons]
    by_cases hp : p x = true
    · rw [if_pos hp]; omega
    · rw [if_neg hp]
      have := Lh p l (k + 1) (by simpa [hp] using h)
      omega
set_option maxHeartbeats 4000000 in
theorem I4 (R : List (Nat × Res)) (nx mg q ms r : Nat) (g : Own) (n : Nat) (sp : List Spot) (hsl : sp.length ≤ 40000) (h1 : Ze (roR R) mg = some (Res.rocells [.ref q])) (h2 : Ze (roR R) q = some (Res.rosmap Try.prog 9 3 (.int .i64) g n))
    (h3 : Ze (roR R) ms = some (Res.rocells [.ref r])) (h4 : Ze (roR R) r = some (Res.ro .spot sp)) (hne : [mg, q, ms, r].Nodup) : Kk Try.prog R nx 26 [mg, ms] (kn2 g sp) := by
  refine ⟨Vy.enters, _, _, _, Vy.fn, fun args res hr => ?_⟩
  unfold kn2 at hr
  split at hr
  · rename_i s
    split at hr
    · rename_i hs
      cases hr
      obtain ⟨hs1, hs2, hs3⟩ := hs
      simp only [List.nodup_cons, List.mem_cons, List.not_mem_nil, or_false, not_or, List.nodup_nil, and_true, not_false_eq_true] at hne
      obtain ⟨⟨n1, n2, n3⟩, ⟨n4, n5⟩, n6⟩ := hne
      refine ⟨by simp [Zo, S1.bd, At.bd], by simp [SV.bd, S1.bd, At.bd], by simp, fun w => ?_⟩
      refine T.weak (S2 := ⟨[(0, .one (.a (.str s))), (1, .one (.a (.loc 0 0))), (2, .one (.a (.loc 2 0)))], [(0, .rocells [.ref 1]), (1, .rosmap Try.prog 9 3 (.int .i64) g n), (2, .rocells [.ref 3]), (3, .ro .spot sp)], 4⟩)
        (Ent.mk (fun k => if k = 0 then mg else if k = 1 then q else if k = 2 then ms else r) (by simp [Za, Zb, Vc.bnd, St.get, St.find, Ze, SV.ren, Vc.S1.ren, At.ren, Res.ren, SV.bd, Vc.S1.bd, At.bd, Res.bd, Vc.upd, Vc.del, Kd.enc, Value.oneCell', h1, h2, h3, h4, Zd, n1, n2, n3, n4, n5, n6]) (by simp [Za, Zb, Vc.bnd, St.get, St.find, Ze, SV.ren, Vc.S1.ren, At.ren, Res.ren, SV.bd, Vc.S1.bd, At.bd, Res.bd, Vc.upd, Vc.del, Kd.enc, Value.oneCell', h1, h2, h3, h4, Zd, n1, n2, n3, n4, n5, n6]) (by simp [Za, Zb, Vc.bnd, St.get, St.find, Ze, SV.ren, Vc.S1.ren, At.ren, Res.ren, SV.bd, Vc.S1.bd, At.bd, Res.bd, Vc.upd, Vc.del, Kd.enc, Value.oneCell', h1, h2, h3, h4, Zd, n1, n2, n3, n4, n5, n6]) (by simp [Za, Zb, Vc.bnd, St.get, St.find, Ze, SV.ren, Vc.S1.ren, At.ren, Res.ren, SV.bd, Vc.S1.bd, At.bd, Res.bd, Vc.upd, Vc.del, Kd.enc, Value.oneCell', h1, h2, h3, h4, Zd, n1, n2, n3, n4, n5, n6])) ?_
      have hsl2 : s.length ≤ 9223372036854775807 := by omega
      have hgs : ∀ y ∈ sp, Rq s [.agg [.str y.name, .int .i64 y.at_]] = some (.one (.a (.bool ((fun y : Spot => decide (y.name = s)) y)))) := fun y _ => rfl
      have hIF := Qk sp (Rq s) (fun y => decide (y.name = s)) hgs (by omega)
      cases hown : Wz s with
      | true =>
        have hr := Lh (fun y : Spot => decide (y.name = s)) sp 0 (hs3 hown)
        generalize hI : U3 (fun y : Spot => decide (y.name = s)) sp 0 = I at hIF hr
        have hI2 : sp.getD I.toNat (Kd.dflt .spot) = sp.getD I.toNat Tm := rfl
        repeat' (first | ((first | (with_reducible first | refine T.regs ?_ | refine T.cond ?_ | refine T.reg ?_ | refine T.ret ?_ | refine T.exit ?_ | refine T.skip ?_) | ((with_reducible first | refine T.dregs ?_ ?_ | refine T.dreg ?_ ?_ | refine T.dregts ?_ ?_ | refine T.dregt ?_ ?_ | refine T.danys ?_ ?_ | refine T.dany ?_ ?_); exact mix) | ((with_reducible first | apply Z9.rd (Wa s hs1) | apply Yc.rd (Wa s hs1)); (focus ((repeat' (first | exact rfl | exact trivial | refine And.intro ?_ ?_ | (simp [SV.bd, Vc.S1.bd, At.bd, Zo, Yx, Ins.cells, Ln.cells]; done))); done))) | ((with_reducible refine Z9.gc (hIF) ?_ ?_); rotate_left)); simp only [Z8, Zx, Zy, Vc.exK, Zl, Zn, Zg, Zh, Zu, Xo, Y5, Zw, Zm, Zi, Zv, Zk, Zj, Xn, Z3, Xm, Vc.ev, Vc.st, Vc.stq, Vc.gst, Xj, St.rd, St.get, St.put, St.find, Ze, St.new, Vc.gdc, Zp, Yw, Yr, Yv, Xk, Zs, Zq, Yl, Yf, Vc.S1.cells, Vc.upd, Vc.del, Zf, Vc.noV, Kd.enc, Kd.dec, Ins.cells, Ln.cells, Yb, Z7, Yo, Z5, Y7, Vc.rvs, Xb, Zd, Xa, Y3, Y6, Y9, Xc, Xd, Ym, Xi, Z4, Zt, Zc, Zr, Y4, Xh, Zo, SV.bd, Vc.S1.bd, At.bd, Value.oneCell', Int.reduceEq, Int.reduceNeg, Int.reduceLE, Int.reduceLT, Vc.lenOf, Yq, Xf, Z1, Vc.atK, Z2, Vc.unK, Vc.wfK, Yk, Yg, Yi, Zz, Z6, Yh, Z0, Yu, Vc.sg, Y2, Y8, Xg, Xe, Ya, Res.own, At.sub, Vc.S1.sub, SV.sub, Res.sub, Xl, Xp, Ys, Yt, Yp, Vc.frS, Kd.sz, Nat.reduceSub, ↓reduceIte, reduceCtorEq, Nat.reduceEqDiff, Nat.reduceAdd, Nat.reduceMul, Nat.reduceLeDiff, Nat.reduceLT, Nat.reduceBEq, Nat.reduceBNe, implies_true, Xq, Vy.rs, Vy.res, hown, hI2]) | (with_reducible first | refine T.seq ?_ | refine T.block ?_ | assumption | refine And.intro ?_ ?_) | (intro h; first | (exfalso; omega) | exact (tf h ‹_›).elim | exact (tf ‹_› h).elim | skip))
        all_goals first | omega | skip
        · unfold T8; rw [if_pos hown, hI]
        · exact ⟨rfl, ⟨rfl, ⟨rfl, by simp, Ig _ _ _ s rfl⟩, trivial⟩, List.nodup_nil⟩
      | false =>
        have hd : (g s).getD (Kd.dflt (.int .i64)) = (g s).getD 0 := rfl
        repeat' (first | ((first | (with_reducible first | refine T.regs ?_ | refine T.cond ?_ | refine T.reg ?_ | refine T.ret ?_ | refine T.exit ?_ | refine T.skip ?_) | ((with_reducible first | refine T.dregs ?_ ?_ | refine T.dreg ?_ ?_ | refine T.dregts ?_ ?_ | refine T.dregt ?_ ?_ | refine T.danys ?_ ?_ | refine T.dany ?_ ?_); exact mix) | ((with_reducible first | apply Z9.rd (Wa s hs1) | apply Yc.rd (Wa s hs1)); (focus ((repeat' (first | exact rfl | exact trivial | refine And.intro ?_ ?_ | (simp [SV.bd, Vc.S1.bd, At.bd, Zo, Yx, Ins.cells, Ln.cells]; done))); done)))); simp only [Z8, Zx, Zy, Vc.exK, Zl, Zn, Zg, Zh, Zu, Xo, Y5, Zw, Zm, Zi, Zv, Zk, Zj, Xn, Z3, Xm, Vc.ev, Vc.st, Vc.stq, Vc.gst, Xj, St.rd, St.get, St.put, St.find, Ze, St.new, Vc.gdc, Zp, Yw, Yr, Yv, Xk, Zs, Zq, Yl, Yf, Vc.S1.cells, Vc.upd, Vc.del, Zf, Vc.noV, Kd.enc, Kd.dec, Ins.cells, Ln.cells, Yb, Z7, Yo, Z5, Y7, Vc.rvs, Xb, Zd, Xa, Y3, Y6, Y9, Xc, Xd, Ym, Xi, Z4, Zt, Zc, Zr, Y4, Xh, Zo, SV.bd, Vc.S1.bd, At.bd, Value.oneCell', Int.reduceEq, Int.reduceNeg, Int.reduceLE, Int.reduceLT, Vc.lenOf, Yq, Xf, Z1, Vc.atK, Z2, Vc.unK, Vc.wfK, Yk, Yg, Yi, Zz, Z6, Yh, Z0, Yu, Vc.sg, Y2, Y8, Xg, Xe, Ya, Res.own, At.sub, Vc.S1.sub, SV.sub, Res.sub, Xl, Xp, Ys, Yt, Yp, Vc.frS, Kd.sz, Nat.reduceSub, ↓reduceIte, reduceCtorEq, Nat.reduceEqDiff, Nat.reduceAdd, Nat.reduceMul, Nat.reduceLeDiff, Nat.reduceLT, Nat.reduceBEq, Nat.reduceBNe, implies_true, Xq, Vy.rs, Vy.res, hown, hd]) | (with_reducible first | refine T.seq ?_ | refine T.block ?_ | assumption | refine And.intro ?_ ?_) | (intro h; first | (exfalso; omega) | exact (tf h ‹_›).elim | exact (tf ‹_› h).elim | skip))
        all_goals first | omega | skip
        unfold T8; rw [if_neg (by rw [hown]; decide)]
    · cases hr
  · cases hr
def X9 : List Ln → Int
  | [] => 0
  | x :: l => Wu x + X9 l
def Xz (l : List Ln) : List (List UInt8) := (l.filter fun x => decide (x.label ≠ [])).map Ln.label
theorem Qw : ∀ (l : List Ln) (k : Nat) (a : Int) (seen : List (List UInt8)) (acc : List Spot), (W0 l k a seen acc).2.2.1 = 0 → (W0 l k a seen acc).2.1 = a + X9 l ∧ (W0 l k a seen acc).1.map Spot.name = acc.map Spot.name ++ Xz l
  | [], k, a, seen, acc, h => by simp [W0, X9, Xz]
  | x :: l, k, a, seen, acc, h => by
    unfold W0 at h ⊢
    split at h
    · rename_i h1; exact absurd h h1
    · rename_i h1
      rw [if_neg h1]
      split at h
      · rename_i hl
        rw [if_pos hl]
        split at h
        · exact absurd h (by simp)
        · rename_i hs
          rw [if_neg hs]
          obtain ⟨g1, g2⟩ := Qw l _ _ _ _ h
          refine ⟨by rw [g1, X9, V3 hl]; omega, ?_⟩
          rw [g2]; simp [Xz, hl]
      · rename_i hl
        rw [if_neg hl]
        split at h
        · exact absurd h (by simp)
        · rename_i hs
          rw [if_neg hs]
          obtain ⟨g1, g2⟩ := Qw l _ _ _ _ h
          refine ⟨by rw [g1, X9]; omega, ?_⟩
          rw [g2]
          have hl' : x.label = [] := by simpa using hl
          simp [Xz, hl']
theorem Tq {l : List Ln} {a : Int} (h : (Y1 l a).2.2.1 = 0) : (Y1 l a).2.1 = a + X9 l ∧ (Y1 l a).1.map Spot.name = Xz l := by
  have := Qw l 0 a [] [] h
  simpa [Y1] using this
theorem Rc (sp : List Spot) (s : List UInt8) : sp.any (fun y => decide (y.name = s)) = decide (s ∈ sp.map Spot.name) := by
  rw [Bool.eq_iff_iff]; simp
@[reducible] def X3 : Type := List (List UInt8 × List Ln)
def linesOf (l : X3) (u : Int) : List Ln := (l.getD u.toNat Ud).2
def Wr (l : X3) : List Int → Nat → Int
  | [], _ => 0
  | _, 0 => 0
  | u :: us, k + 1 => X9 (linesOf l u) + Wr l us k
theorem V4 (l : X3) : ∀ (us vs : List Int) (k : Nat), k ≤ us.length → Wr l (us ++ vs) k = Wr l us k
  | [], vs, k, h => by
    have : k = 0 := by simpa using h
    subst this
    cases vs <;> rfl
  | u :: us, vs, 0, h => rfl
  | u :: us, vs, k + 1, h => by simp only [List.cons_append, Wr, V4 l us vs k (by simpa using h)]
theorem Vr (l : X3) : ∀ (us : List Int) (k : Nat), k < us.length → Wr l us (k + 1) = Wr l us k + X9 (linesOf l (us.getD k 0))
  | u :: us, 0, h => by cases us <;> simp [Wr]
  | u :: us, k + 1, h => by
    have := Vr l us k (by simpa using h)
    have e1 : Wr l (u :: us) (k + 1 + 1) = X9 (linesOf l u) + Wr l us (k + 1) := rfl
    have e2 : Wr l (u :: us) (k + 1) = X9 (linesOf l u) + Wr l us k := rfl
    rw [e1, e2, this]
    simp only [List.getD_cons_succ]; omega
def Ry (l : X3) (own : Own) (us : List Int) (k : Nat) : Prop :=
  (Y1 (linesOf l (us.getD k 0)) (Wr l us k)).2.2.1 = 0 ∧ ∀ x ∈ linesOf l (us.getD k 0), x.ref ≠ [] → if Wz x.ref = true then x.ref ∈ Xz (linesOf l (us.getD k 0)) else ∃ v, own x.ref = some v ∧ v ∈ us
theorem Ua {own : Own} {u : Int} {sp : List Spot} : ∀ {ls : List Ln} {us us' : List Int}, Vq own u sp ls us = some us' → ∃ vs, us' = us ++ vs
  | [], us, us', h => by cases h; exact ⟨[], by simp⟩
  | x :: ls, us, us', h => by
    simp only [Vq] at h
    split at h
    · exact Ua h
    · split at h
      · cases h
      · split at h
        · exact Ua h
        · obtain ⟨vs, rfl⟩ := Ua h
          exact ⟨[_] ++ vs, List.append_assoc _ _ _⟩
theorem R8 {own : Own} {u : Int} {sp : List Spot} : ∀ {ls : List Ln} {us us' : List Int}, Vq own u sp ls us = some us' → ∀ x ∈ ls, x.ref ≠ [] → ∃ v, Uz own u sp x.ref = some v ∧ v ∈ us'
  | y :: ls, us, us', h, x, hx, hr => by
    simp only [Vq] at h
    by_cases hy : y.ref = []
    · rw [if_pos hy] at h
      rcases List.mem_cons.1 hx with rfl | hx
      · exact absurd hy hr
      · exact R8 h x hx hr
    · rw [if_neg hy] at h
      split at h
      · cases h
      · rename_i v hv
        rcases List.mem_cons.1 hx with rfl | hx
        · refine ⟨v, hv, ?_⟩
          obtain ⟨vs, rfl⟩ := Ua h
          split
          · exact List.mem_append_left _ (by assumption)
          · simp
        · exact R8 h x hx hr
theorem Ry.mono {l : X3} {own : Own} {us : List Int} {k : Nat} (h : Ry l own us k) (hk : k < us.length) (vs : List Int) : Ry l own (us ++ vs) k := by
  unfold Ry at h ⊢
  have e1 : (us ++ vs).getD k 0 = us.getD k 0 := by simp [List.getD, List.getElem?_append_left hk]
  rw [e1, V4 l us vs k (by omega)]
  refine ⟨h.1, fun x hx hr => ?_⟩
  have := h.2 x hx hr
  split
  · rename_i ho; rwa [if_pos ho] at this
  · rename_i ho
    rw [if_neg ho] at this
    obtain ⟨v, h1, h2⟩ := this
    exact ⟨v, h1, List.mem_append_left _ h2⟩
theorem R5 {l : X3} {own : Own} : ∀ (f i : Nat) (us : List Int) (at_ : Int) (g : Own) (sps : List Spot), (lk1 l own f i us at_ g sps).2.1 = 0 → i ≤ us.length → at_ = Wr l us i → (∀ k, k < i → Ry l own us k) →
    (∀ k, k < (lk1 l own f i us at_ g sps).1.1.length → Ry l own (lk1 l own f i us at_ g sps).1.1 k) ∧ ∃ vs, (lk1 l own f i us at_ g sps).1.1 = us ++ vs
  | 0, i, us, at_, g, sps, h, _, _, _ => by simp [lk1] at h
  | f + 1, i, us, at_, g, sps, h, hi, ha, hg => by
    unfold lk1 at h ⊢
    split at h
    · rename_i h1
      rw [if_pos h1]
      exact ⟨fun k hk => hg k (by simp only at hk; omega), [], by simp⟩
    · rename_i h1
      rw [if_neg h1]
      split at h
      · rename_i h2; exact absurd h h2
      · rename_i h2
        rw [if_neg h2]
        split at h
        · simp at h
        · rename_i us' hus'
          obtain ⟨vs, rfl⟩ := Ua hus'
          have hlt : i < us.length := by omega
          have hsp : (Y1 (l.getD (us.getD i 0).toNat Ud).2 at_).2.2.1 = 0 := by simpa using h2
          obtain ⟨hend, hnm⟩ := Tq hsp
          have hgi : Ry l own (us ++ vs) i := by
            unfold Ry
            have e1 : (us ++ vs).getD i 0 = us.getD i 0 := by simp [List.getD, List.getElem?_append_left hlt]
            rw [e1, V4 l us vs i (by omega), ← ha]
            refine ⟨hsp, fun x hx hr => ?_⟩
            obtain ⟨v, h3, h4⟩ := R8 hus' x hx hr
            unfold Uz at h3
            split
            · rename_i ho
              rw [if_pos ho] at h3
              split at h3
              · rename_i h5
                rw [Rc, hnm] at h5
                simpa [linesOf] using h5
              · cases h3
            · rename_i ho
              rw [if_neg ho] at h3
              exact ⟨v, h3, h4⟩
          obtain ⟨r1, vs2, r2⟩ := R5 f (i + 1) (us ++ vs) _ _ _ h (by simp; omega) (by
            rw [hend, V4 l us vs (i + 1) (by omega), Vr l us i hlt, ha]; rfl) (fun k hk => by
              by_cases hki : k < i
              · exact (hg k hki).mono (by omega) vs
              · have : k = i := by omega
                subst this; exact hgi)
          refine ⟨by simpa [hus'] using r1, vs ++ vs2, ?_⟩
          simpa [hus', List.append_assoc] using r2
end Go.Proofs.Ytibkcfpcfbodaaa
