/-
  A part of the proofs of this seat's laws: a step on the way. It has no conditions of its own.
-/
import Derived.Test.YtibkcfpcfbodaaaLinkD
namespace Go.Proofs.Ytibkcfpcfbodaaa
open Go.RowKit Vc
set_option linter.unusedVariables false
set_option linter.unusedSimpArgs false
attribute [local irreducible] T Yi X9 Ent RdC RwC Tw Yu Xv
def Sc (g : Own) (sp : List Spot) (s : List UInt8) : Int × Bool := if W2 s = true then ((sp.getD (Us (fun y => decide (y.name = s)) sp 0).toNat Sq).at_, true) else ((g s).getD (0 : Int), true)
def kn2 (g : Own) (sp : List Spot) : List S1 → Option SV
  | [.a (.str s)] => if s ≠ [] ∧ s.length ≤ 32 ∧ (W2 s = true → sp.any (fun y => decide (y.name = s)) = true) then some (.tup [.a (.int .i64 (Sc g sp s).1), .a (.bool (Sc g sp s).2)]) else none
  | _ => none
theorem Ih (R : List (Nat × Res)) (nx m : Nat) (s : List UInt8) (hm : Zf (roR R) m = some (Res.rocells [.str s])) : Kn Try.prog R nx 28 [m] (R6 s) := by
  refine ⟨Un.enters, _, _, _, Un.fn, fun args r hr => ?_⟩
  unfold R6 at hr
  split at hr
  · rename_i t n
    cases hr
    refine ⟨by simp [Zq, S1.bd, At.bd], by simp [SV.bd, S1.bd, At.bd], by simp, fun w => ?_⟩
    refine T.weak (S2 := ⟨[(0, .one (.agg [.str t, .int .i64 n])), (1, .one (.a (.loc 0 0)))], [(0, .rocells [.str s])], 1⟩) (Ent.mk (fun _ => m) (by simp [Za, Zb, Vc.bnd, St.get, St.find, Zf, SV.ren, Vc.S1.ren, At.ren, Res.ren, SV.bd, Vc.S1.bd, At.bd, Res.bd, Vc.upd, Vc.del, Kd.enc, Value.oneCell', hm, Ze]) (by simp [Za, Zb, Vc.bnd, St.get, St.find, Zf, SV.ren, Vc.S1.ren, At.ren, Res.ren, SV.bd, Vc.S1.bd, At.bd, Res.bd, Vc.upd, Vc.del, Kd.enc, Value.oneCell', hm, Ze]) (by simp [Za, Zb, Vc.bnd, St.get, St.find, Zf, SV.ren, Vc.S1.ren, At.ren, Res.ren, SV.bd, Vc.S1.bd, At.bd, Res.bd, Vc.upd, Vc.del, Kd.enc, Value.oneCell', hm, Ze]) (by simp [Za, Zb, Vc.bnd, St.get, St.find, Zf, SV.ren, Vc.S1.ren, At.ren, Res.ren, SV.bd, Vc.S1.bd, At.bd, Res.bd, Vc.upd, Vc.del, Kd.enc, Value.oneCell', hm, Ze])) ?_
    repeat' (first | ((first | (with_reducible first | refine T.regs ?_ | refine T.cond ?_ | refine T.reg ?_ | refine T.ret ?_ | refine T.exit ?_ | refine T.skip ?_) | ((with_reducible first | refine T.dregs ?_ ?_ | refine T.dreg ?_ ?_ | refine T.dregts ?_ ?_ | refine T.dregt ?_ ?_ | refine T.danys ?_ ?_ | refine T.dany ?_ ?_); exact mix)); simp only [Z9, Zw, Zz, Vc.exK, Zn, Zm, Zi, Zh, Zv, Xo, Y2, Zy, Zk, Zj, Zx, Zo, Zl, Xm, Z4, Xk, Vc.ev, Vc.st, Vc.stq, Vc.gst, Xh, St.rd, St.get, St.put, St.find, Zf, St.new, Vc.gdc, Zp, Yo, Yr, Yq, Xg, Zt, Zr, Yj, Yg, Vc.S1.cells, Vc.upd, Vc.del, Zg, Vc.noV, Kd.enc, Kd.dec, Ins.cells, Ln.cells, Yb, Z6, Yn, Z7, Y4, Vc.rvs, Xa, Ze, Y6, Y0, Y5, Y7, Y9, Xb, Yk, Xf, Z5, Zu, Zc, Zs, Y1, Xe, Zq, SV.bd, Vc.S1.bd, At.bd, Value.oneCell', Int.reduceEq, Int.reduceNeg, Int.reduceLE, Int.reduceLT, Vc.lenOf, Yl, Xd, Z2, Vc.atK, Z3, Vc.unK, Vc.wfK, Yf, Yc, Ye, Z0, Z8, Yd, Z1, Ys, Vc.sg, Yz, Y3, Xc, Y8, Ya, Res.own, At.sub, Vc.S1.sub, SV.sub, Res.sub, Xi, Xn, Yt, Yp, Ym, Vc.frS, Kd.sz, Nat.reduceSub, ↓reduceIte, reduceCtorEq, Nat.reduceEqDiff, Nat.reduceAdd, Nat.reduceMul, Nat.reduceLeDiff, Nat.reduceLT, Nat.reduceBEq, Nat.reduceBNe, implies_true, Xp, Un.rs, Un.res]) | (with_reducible first | refine T.seq ?_ | refine T.block ?_ | assumption | refine And.intro ?_ ?_) | (intro h; first | (exfalso; omega) | exact (tf h ‹_›).elim | exact (tf ‹_› h).elim | skip))
  · cases hr
theorem L7 {α : Type} (p : α → Bool) : ∀ (l : List α) (k : Nat), l.any p = true → (k : Int) ≤ Us p l k ∧ Us p l k < k + l.length
  | [], k, h => by simp at h
  | x :: l, k, h => by
    simp only [Us, List.length_cons]
    by_cases hp : p x = true
    · rw [if_pos hp]; omega
    · rw [if_neg hp]
      have := L7 p l (k + 1) (by simpa [hp] using h)
      omega
set_option maxHeartbeats 4000000 in
theorem Is (R : List (Nat × Res)) (nx mg q ms r : Nat) (g : Own) (n : Nat) (sp : List Spot) (hsl : sp.length ≤ 40000) (h1 : Zf (roR R) mg = some (Res.rocells [.ref q])) (h2 : Zf (roR R) q = some (Res.rosmap Try.prog 9 3 (.int .i64) g n))
    (h3 : Zf (roR R) ms = some (Res.rocells [.ref r])) (h4 : Zf (roR R) r = some (Res.ro .spot sp)) (hne : [mg, q, ms, r].Nodup) : Kn Try.prog R nx 26 [mg, ms] (kn2 g sp) := by
  refine ⟨V1.enters, _, _, _, V1.fn, fun args res hr => ?_⟩
  unfold kn2 at hr
  split at hr
  · rename_i s
    split at hr
    · rename_i hs
      cases hr
      obtain ⟨hs1, hs2, hs3⟩ := hs
      simp only [List.nodup_cons, List.mem_cons, List.not_mem_nil, or_false, not_or, List.nodup_nil, and_true, not_false_eq_true] at hne
      obtain ⟨⟨n1, n2, n3⟩, ⟨n4, n5⟩, n6⟩ := hne
      refine ⟨by simp [Zq, S1.bd, At.bd], by simp [SV.bd, S1.bd, At.bd], by simp, fun w => ?_⟩
      refine T.weak (S2 := ⟨[(0, .one (.a (.str s))), (1, .one (.a (.loc 0 0))), (2, .one (.a (.loc 2 0)))], [(0, .rocells [.ref 1]), (1, .rosmap Try.prog 9 3 (.int .i64) g n), (2, .rocells [.ref 3]), (3, .ro .spot sp)], 4⟩)
        (Ent.mk (fun k => if k = 0 then mg else if k = 1 then q else if k = 2 then ms else r) (by simp [Za, Zb, Vc.bnd, St.get, St.find, Zf, SV.ren, Vc.S1.ren, At.ren, Res.ren, SV.bd, Vc.S1.bd, At.bd, Res.bd, Vc.upd, Vc.del, Kd.enc, Value.oneCell', h1, h2, h3, h4, Ze, n1, n2, n3, n4, n5, n6]) (by simp [Za, Zb, Vc.bnd, St.get, St.find, Zf, SV.ren, Vc.S1.ren, At.ren, Res.ren, SV.bd, Vc.S1.bd, At.bd, Res.bd, Vc.upd, Vc.del, Kd.enc, Value.oneCell', h1, h2, h3, h4, Ze, n1, n2, n3, n4, n5, n6]) (by simp [Za, Zb, Vc.bnd, St.get, St.find, Zf, SV.ren, Vc.S1.ren, At.ren, Res.ren, SV.bd, Vc.S1.bd, At.bd, Res.bd, Vc.upd, Vc.del, Kd.enc, Value.oneCell', h1, h2, h3, h4, Ze, n1, n2, n3, n4, n5, n6]) (by simp [Za, Zb, Vc.bnd, St.get, St.find, Zf, SV.ren, Vc.S1.ren, At.ren, Res.ren, SV.bd, Vc.S1.bd, At.bd, Res.bd, Vc.upd, Vc.del, Kd.enc, Value.oneCell', h1, h2, h3, h4, Ze, n1, n2, n3, n4, n5, n6])) ?_
      have hsl2 : s.length ≤ 9223372036854775807 := by omega
      have hgs : ∀ y ∈ sp, R6 s [.agg [.str y.name, .int .i64 y.at_]] = some (.one (.a (.bool ((fun y : Spot => decide (y.name = s)) y)))) := fun y _ => rfl
      have hIF := Qy sp (R6 s) (fun y => decide (y.name = s)) hgs (by omega)
      cases hown : W2 s with
      | true =>
        have hr := L7 (fun y : Spot => decide (y.name = s)) sp 0 (hs3 hown)
        generalize hI : Us (fun y : Spot => decide (y.name = s)) sp 0 = I at hIF hr
        have hI2 : sp.getD I.toNat (Kd.dflt .spot) = sp.getD I.toNat Sq := rfl
        repeat' (first | ((first | (with_reducible first | refine T.regs ?_ | refine T.cond ?_ | refine T.reg ?_ | refine T.ret ?_ | refine T.exit ?_ | refine T.skip ?_) | ((with_reducible first | refine T.dregs ?_ ?_ | refine T.dreg ?_ ?_ | refine T.dregts ?_ ?_ | refine T.dregt ?_ ?_ | refine T.danys ?_ ?_ | refine T.dany ?_ ?_); exact mix) | ((with_reducible first | apply Yi.rd (Wg s hs1) | apply Yu.rd (Wg s hs1)); (focus ((repeat' (first | exact rfl | exact trivial | refine And.intro ?_ ?_ | (simp [SV.bd, Vc.S1.bd, At.bd, Zq, Yy, Ins.cells, Ln.cells]; done))); done))) | ((with_reducible refine Yi.gc (hIF) ?_ ?_); rotate_left)); simp only [Z9, Zw, Zz, Vc.exK, Zn, Zm, Zi, Zh, Zv, Xo, Y2, Zy, Zk, Zj, Zx, Zo, Zl, Xm, Z4, Xk, Vc.ev, Vc.st, Vc.stq, Vc.gst, Xh, St.rd, St.get, St.put, St.find, Zf, St.new, Vc.gdc, Zp, Yo, Yr, Yq, Xg, Zt, Zr, Yj, Yg, Vc.S1.cells, Vc.upd, Vc.del, Zg, Vc.noV, Kd.enc, Kd.dec, Ins.cells, Ln.cells, Yb, Z6, Yn, Z7, Y4, Vc.rvs, Xa, Ze, Y6, Y0, Y5, Y7, Y9, Xb, Yk, Xf, Z5, Zu, Zc, Zs, Y1, Xe, Zq, SV.bd, Vc.S1.bd, At.bd, Value.oneCell', Int.reduceEq, Int.reduceNeg, Int.reduceLE, Int.reduceLT, Vc.lenOf, Yl, Xd, Z2, Vc.atK, Z3, Vc.unK, Vc.wfK, Yf, Yc, Ye, Z0, Z8, Yd, Z1, Ys, Vc.sg, Yz, Y3, Xc, Y8, Ya, Res.own, At.sub, Vc.S1.sub, SV.sub, Res.sub, Xi, Xn, Yt, Yp, Ym, Vc.frS, Kd.sz, Nat.reduceSub, ↓reduceIte, reduceCtorEq, Nat.reduceEqDiff, Nat.reduceAdd, Nat.reduceMul, Nat.reduceLeDiff, Nat.reduceLT, Nat.reduceBEq, Nat.reduceBNe, implies_true, Xp, V1.rs, V1.res, hown, hI2]) | (with_reducible first | refine T.seq ?_ | refine T.block ?_ | assumption | refine And.intro ?_ ?_) | (intro h; first | (exfalso; omega) | exact (tf h ‹_›).elim | exact (tf ‹_› h).elim | skip))
        all_goals first | omega | skip
        · unfold Sc; rw [if_pos hown, hI]
        · exact ⟨rfl, ⟨rfl, ⟨rfl, by simp, Ih _ _ _ s rfl⟩, trivial⟩, List.nodup_nil⟩
      | false =>
        have hd : (g s).getD (Kd.dflt (.int .i64)) = (g s).getD 0 := rfl
        repeat' (first | ((first | (with_reducible first | refine T.regs ?_ | refine T.cond ?_ | refine T.reg ?_ | refine T.ret ?_ | refine T.exit ?_ | refine T.skip ?_) | ((with_reducible first | refine T.dregs ?_ ?_ | refine T.dreg ?_ ?_ | refine T.dregts ?_ ?_ | refine T.dregt ?_ ?_ | refine T.danys ?_ ?_ | refine T.dany ?_ ?_); exact mix) | ((with_reducible first | apply Yi.rd (Wg s hs1) | apply Yu.rd (Wg s hs1)); (focus ((repeat' (first | exact rfl | exact trivial | refine And.intro ?_ ?_ | (simp [SV.bd, Vc.S1.bd, At.bd, Zq, Yy, Ins.cells, Ln.cells]; done))); done)))); simp only [Z9, Zw, Zz, Vc.exK, Zn, Zm, Zi, Zh, Zv, Xo, Y2, Zy, Zk, Zj, Zx, Zo, Zl, Xm, Z4, Xk, Vc.ev, Vc.st, Vc.stq, Vc.gst, Xh, St.rd, St.get, St.put, St.find, Zf, St.new, Vc.gdc, Zp, Yo, Yr, Yq, Xg, Zt, Zr, Yj, Yg, Vc.S1.cells, Vc.upd, Vc.del, Zg, Vc.noV, Kd.enc, Kd.dec, Ins.cells, Ln.cells, Yb, Z6, Yn, Z7, Y4, Vc.rvs, Xa, Ze, Y6, Y0, Y5, Y7, Y9, Xb, Yk, Xf, Z5, Zu, Zc, Zs, Y1, Xe, Zq, SV.bd, Vc.S1.bd, At.bd, Value.oneCell', Int.reduceEq, Int.reduceNeg, Int.reduceLE, Int.reduceLT, Vc.lenOf, Yl, Xd, Z2, Vc.atK, Z3, Vc.unK, Vc.wfK, Yf, Yc, Ye, Z0, Z8, Yd, Z1, Ys, Vc.sg, Yz, Y3, Xc, Y8, Ya, Res.own, At.sub, Vc.S1.sub, SV.sub, Res.sub, Xi, Xn, Yt, Yp, Ym, Vc.frS, Kd.sz, Nat.reduceSub, ↓reduceIte, reduceCtorEq, Nat.reduceEqDiff, Nat.reduceAdd, Nat.reduceMul, Nat.reduceLeDiff, Nat.reduceLT, Nat.reduceBEq, Nat.reduceBNe, implies_true, Xp, V1.rs, V1.res, hown, hd]) | (with_reducible first | refine T.seq ?_ | refine T.block ?_ | assumption | refine And.intro ?_ ?_) | (intro h; first | (exfalso; omega) | exact (tf h ‹_›).elim | exact (tf ‹_› h).elim | skip))
        all_goals first | omega | skip
        unfold Sc; rw [if_neg (by rw [hown]; decide)]
    · cases hr
  · cases hr
def Wt : List Ln → Int
  | [] => 0
  | x :: l => W9 x + Wt l
def X4 (l : List Ln) : List (List UInt8) := (l.filter fun x => decide (x.label ≠ [])).map Ln.label
theorem Pc : ∀ (l : List Ln) (k : Nat) (a : Int) (seen : List (List UInt8)) (acc : List Spot), (Wy l k a seen acc).2.2.1 = 0 → (Wy l k a seen acc).2.1 = a + Wt l ∧ (Wy l k a seen acc).1.map Spot.name = acc.map Spot.name ++ X4 l
  | [], k, a, seen, acc, h => by simp [Wy, Wt, X4]
  | x :: l, k, a, seen, acc, h => by
    unfold Wy at h ⊢
    split at h
    · rename_i h1; exact absurd h h1
    · rename_i h1
      rw [if_neg h1]
      split at h
      · rename_i hl
        rw [if_pos hl]
        split at h
        · exact absurd h (by simp)
        · rename_i hs
          rw [if_neg hs]
          obtain ⟨g1, g2⟩ := Pc l _ _ _ _ h
          refine ⟨by rw [g1, Wt, Tk hl]; omega, ?_⟩
          rw [g2]; simp [X4, hl]
      · rename_i hl
        rw [if_neg hl]
        split at h
        · exact absurd h (by simp)
        · rename_i hs
          rw [if_neg hs]
          obtain ⟨g1, g2⟩ := Pc l _ _ _ _ h
          refine ⟨by rw [g1, Wt]; omega, ?_⟩
          rw [g2]
          have hl' : x.label = [] := by simpa using hl
          simp [X4, hl']
theorem T0 {l : List Ln} {a : Int} (h : (Xr l a).2.2.1 = 0) : (Xr l a).2.1 = a + Wt l ∧ (Xr l a).1.map Spot.name = X4 l := by
  have := Pc l 0 a [] [] h
  simpa [Xr] using this
theorem Rm (sp : List Spot) (s : List UInt8) : sp.any (fun y => decide (y.name = s)) = decide (s ∈ sp.map Spot.name) := by
  rw [Bool.eq_iff_iff]; simp
@[reducible] def X5 : Type := List (List UInt8 × List Ln)
def linesOf (l : X5) (u : Int) : List Ln := (l.getD u.toNat Vr).2
def W1 (l : X5) : List Int → Nat → Int
  | [], _ => 0
  | _, 0 => 0
  | u :: us, k + 1 => Wt (linesOf l u) + W1 l us k
theorem V0 (l : X5) : ∀ (us vs : List Int) (k : Nat), k ≤ us.length → W1 l (us ++ vs) k = W1 l us k
  | [], vs, k, h => by
    have : k = 0 := by simpa using h
    subst this
    cases vs <;> rfl
  | u :: us, vs, 0, h => rfl
  | u :: us, vs, k + 1, h => by simp only [List.cons_append, W1, V0 l us vs k (by simpa using h)]
theorem Uo (l : X5) : ∀ (us : List Int) (k : Nat), k < us.length → W1 l us (k + 1) = W1 l us k + Wt (linesOf l (us.getD k 0))
  | u :: us, 0, h => by cases us <;> simp [W1]
  | u :: us, k + 1, h => by
    have := Uo l us k (by simpa using h)
    have e1 : W1 l (u :: us) (k + 1 + 1) = Wt (linesOf l u) + W1 l us (k + 1) := rfl
    have e2 : W1 l (u :: us) (k + 1) = Wt (linesOf l u) + W1 l us k := rfl
    rw [e1, e2, this]
    simp only [List.getD_cons_succ]; omega
def R7 (l : X5) (own : Own) (us : List Int) (k : Nat) : Prop :=
  (Xr (linesOf l (us.getD k 0)) (W1 l us k)).2.2.1 = 0 ∧ ∀ x ∈ linesOf l (us.getD k 0), x.ref ≠ [] → if W2 x.ref = true then x.ref ∈ X4 (linesOf l (us.getD k 0)) else ∃ v, own x.ref = some v ∧ v ∈ us
theorem Uh {own : Own} {u : Int} {sp : List Spot} : ∀ {ls : List Ln} {us us' : List Int}, Vu own u sp ls us = some us' → ∃ vs, us' = us ++ vs
  | [], us, us', h => by cases h; exact ⟨[], by simp⟩
  | x :: ls, us, us', h => by
    simp only [Vu] at h
    split at h
    · exact Uh h
    · split at h
      · cases h
      · split at h
        · exact Uh h
        · obtain ⟨vs, rfl⟩ := Uh h
          exact ⟨[_] ++ vs, List.append_assoc _ _ _⟩
theorem Qs {own : Own} {u : Int} {sp : List Spot} : ∀ {ls : List Ln} {us us' : List Int}, Vu own u sp ls us = some us' → ∀ x ∈ ls, x.ref ≠ [] → ∃ v, U7 own u sp x.ref = some v ∧ v ∈ us'
  | y :: ls, us, us', h, x, hx, hr => by
    simp only [Vu] at h
    by_cases hy : y.ref = []
    · rw [if_pos hy] at h
      rcases List.mem_cons.1 hx with rfl | hx
      · exact absurd hy hr
      · exact Qs h x hx hr
    · rw [if_neg hy] at h
      split at h
      · cases h
      · rename_i v hv
        rcases List.mem_cons.1 hx with rfl | hx
        · refine ⟨v, hv, ?_⟩
          obtain ⟨vs, rfl⟩ := Uh h
          split
          · exact List.mem_append_left _ (by assumption)
          · simp
        · exact Qs h x hx hr
theorem R7.mono {l : X5} {own : Own} {us : List Int} {k : Nat} (h : R7 l own us k) (hk : k < us.length) (vs : List Int) : R7 l own (us ++ vs) k := by
  unfold R7 at h ⊢
  have e1 : (us ++ vs).getD k 0 = us.getD k 0 := by simp [List.getD, List.getElem?_append_left hk]
  rw [e1, V0 l us vs k (by omega)]
  refine ⟨h.1, fun x hx hr => ?_⟩
  have := h.2 x hx hr
  split
  · rename_i ho; rwa [if_pos ho] at this
  · rename_i ho
    rw [if_neg ho] at this
    obtain ⟨v, h1, h2⟩ := this
    exact ⟨v, h1, List.mem_append_left _ h2⟩
theorem Po {l : X5} {own : Own} : ∀ (f i : Nat) (us : List Int) (at_ : Int) (g : Own) (sps : List Spot), (lk1 l own f i us at_ g sps).2.1 = 0 → i ≤ us.length → at_ = W1 l us i → (∀ k, k < i → R7 l own us k) →
    (∀ k, k < (lk1 l own f i us at_ g sps).1.1.length → R7 l own (lk1 l own f i us at_ g sps).1.1 k) ∧ ∃ vs, (lk1 l own f i us at_ g sps).1.1 = us ++ vs
  | 0, i, us, at_, g, sps, h, _, _, _ => by simp [lk1] at h
  | f + 1, i, us, at_, g, sps, h, hi, ha, hg => by
    unfold lk1 at h ⊢
    split at h
    · rename_i h1
      rw [if_pos h1]
      exact ⟨fun k hk => hg k (by simp only at hk; omega), [], by simp⟩
    · rename_i h1
      rw [if_neg h1]
      split at h
      · rename_i h2; exact absurd h h2
      · rename_i h2
        rw [if_neg h2]
        split at h
        · simp at h
        · rename_i us' hus'
          obtain ⟨vs, rfl⟩ := Uh hus'
          have hlt : i < us.length := by omega
          have hsp : (Xr (l.getD (us.getD i 0).toNat Vr).2 at_).2.2.1 = 0 := by simpa using h2
          obtain ⟨hend, hnm⟩ := T0 hsp
          have hgi : R7 l own (us ++ vs) i := by
            unfold R7
            have e1 : (us ++ vs).getD i 0 = us.getD i 0 := by simp [List.getD, List.getElem?_append_left hlt]
            rw [e1, V0 l us vs i (by omega), ← ha]
            refine ⟨hsp, fun x hx hr => ?_⟩
            obtain ⟨v, h3, h4⟩ := Qs hus' x hx hr
            unfold U7 at h3
            split
            · rename_i ho
              rw [if_pos ho] at h3
              split at h3
              · rename_i h5
                rw [Rm, hnm] at h5
                simpa [linesOf] using h5
              · cases h3
            · rename_i ho
              rw [if_neg ho] at h3
              exact ⟨v, h3, h4⟩
          obtain ⟨r1, vs2, r2⟩ := Po f (i + 1) (us ++ vs) _ _ _ h (by simp; omega) (by
            rw [hend, V0 l us vs (i + 1) (by omega), Uo l us i hlt, ha]; rfl) (fun k hk => by
              by_cases hki : k < i
              · exact (hg k hki).mono (by omega) vs
              · have : k = i := by omega
                subst this; exact hgi)
          refine ⟨by simpa [hus'] using r1, vs ++ vs2, ?_⟩
          simpa [hus', List.append_assoc] using r2
end Go.Proofs.Ytibkcfpcfbodaaa
