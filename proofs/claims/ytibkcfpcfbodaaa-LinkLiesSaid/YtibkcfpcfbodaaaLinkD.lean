/-
  A part of the proofs of this seat's laws: a step on the way. It has no conditions of its own.
-/
import Derived.Test.YtibkcfpcfbodaaaLinkC
namespace Go.Proofs.Ytibkcfpcfbodaaa
open Go.RowKit Vc
set_option linter.unusedVariables false
set_option linter.unusedSimpArgs false
attribute [local irreducible] T Z9 Wm Ent RdC RwC Sb Yc Wg
theorem Vv : ∀ (l : List Ln) (k : Nat) (a : Int) (seen : List (List UInt8)) (acc : List Spot), (W0 l k a seen acc).2.2.1 = 0 → ∀ x ∈ l, W6 x = 0
  | [], _, _, _, _, _, x, hx => nomatch hx
  | y :: l, k, a, seen, acc, h, x, hx => by
    unfold W0 at h
    split at h
    · rename_i h1; exact absurd h h1
    · rename_i h1
      have hy : W6 y = 0 := by simpa using h1
      rcases List.mem_cons.1 hx with rfl | hx
      · exact hy
      · split at h
        · split at h
          · exact absurd h (by simp)
          · exact Vv l _ _ _ _ h x hx
        · split at h
          · exact absurd h (by simp)
          · exact Vv l _ _ _ _ h x hx
theorem Rm {u : Int} {n : Nat} : ∀ {sp : List Spot} {f f' : Own}, Vl u sp f = some f' → (0 ≤ u ∧ u < n) → (∀ s v, f s = some v → 0 ≤ v ∧ v < n) → ∀ s v, f' s = some v → 0 ≤ v ∧ v < n
  | [], f, f', h, hu, hf => by cases h; exact hf
  | y :: sp, f, f', h, hu, hf => by
    simp only [Vl] at h
    split at h
    · exact Rm h hu hf
    · split at h
      · cases h
      · refine Rm h hu fun s v hv => ?_
        split at hv
        · cases hv; exact hu
        · exact hf s v hv
theorem Oa {N : Nat} : ∀ (l : List (List UInt8 × List Ln)) (k : Nat) (f : Own), (Vm l k f).2.1 = 0 → k + l.length ≤ N → (∀ s v, f s = some v → 0 ≤ v ∧ v < N) →
    (∀ u ∈ l, u.2.length ≤ 40000 ∧ (Y1 u.2 0).2.2.1 = 0) ∧ ∀ s v, (Vm l k f).1 s = some v → 0 ≤ v ∧ v < N
  | [], k, f, h, hk, hf => ⟨(fun u hu => nomatch hu), hf⟩
  | x :: l, k, f, h, hk, hf => by
    unfold Vm at h ⊢
    simp only [List.length_cons] at hk
    split at h
    · simp at h
    · rename_i h1
      split at h
      · rename_i h2; exact absurd h h2
      · rename_i h2
        rw [if_neg h1, if_neg h2]
        split at h
        · simp at h
        · rename_i f' hf'
          obtain ⟨g1, g2⟩ := Oa l (k + 1) f' h (by omega) (Rm hf' ⟨by omega, by omega⟩ hf)
          refine ⟨fun u hu => ?_, by simpa [hf'] using g2⟩
          rcases List.mem_cons.1 hu with rfl | hu
          · exact ⟨by omega, by simpa using h2⟩
          · exact g1 u hu
theorem W8 {l : List (List UInt8 × List Ln)} (h : (Yn l).2.1 = 0) : l.length ≤ 400 ∧ (∀ u ∈ l, u.2.length ≤ 40000 ∧ (Y1 u.2 0).2.2.1 = 0) ∧ ∀ s v, (Yn l).1 s = some v → 0 ≤ v ∧ v < l.length := by
  unfold Yn at h ⊢
  split at h
  · simp at h
  · rename_i hl
    rw [if_neg hl]
    exact ⟨by omega, Oa l 0 Wk h (by omega) (fun s v hv => by cases hv)⟩
def Qf (N : Nat) (us : List Int) : Prop := us.Nodup ∧ ∀ v ∈ us, 0 ≤ v ∧ v < N
theorem Sl {own : Own} {u : Int} {sp : List Spot} {N : Nat} (hu : 0 ≤ u ∧ u < N) (ho : ∀ s v, own s = some v → 0 ≤ v ∧ v < N) : ∀ {ls : List Ln} {us us' : List Int}, Vq own u sp ls us = some us' → Qf N us → Qf N us' ∧ us.length ≤ us'.length
  | [], us, us', h, hus => by cases h; exact ⟨hus, Nat.le_refl _⟩
  | x :: ls, us, us', h, hus => by
    simp only [Vq] at h
    split at h
    · exact Sl hu ho h hus
    · split at h
      · cases h
      · rename_i n hn
        have hr : 0 ≤ n ∧ n < N := by
          unfold Uz at hn
          split at hn
          · split at hn
            · cases hn; exact hu
            · cases hn
          · exact ho _ _ hn
        split at h
        · exact Sl hu ho h hus
        · rename_i hni
          have := Sl hu ho h (us := us ++ [n]) ⟨List.nodup_append.2 ⟨hus.1, by simp, fun a ha b hb e => by simp only [List.mem_singleton] at hb; subst hb; subst e; exact hni ha⟩, fun v hv => by
            rcases List.mem_append.1 hv with hv | hv
            · exact hus.2 v hv
            · simp only [List.mem_singleton] at hv; subst hv; exact hr⟩
          refine ⟨this.1, ?_⟩
          have h2 := this.2
          simp only [List.length_append, List.length_cons, List.length_nil] at h2; omega
theorem T0 : ∀ (N : Nat) (us : List Int), Qf N us → us.length ≤ N
  | 0, us, h => by
    cases us with
    | nil => exact Nat.le_refl _
    | cons x us => have := h.2 x (by simp); omega
  | N + 1, us, h => by
    have h1 := T0 N (us.erase (N : Int)) ⟨h.1.erase _, fun v hv => by
      have h2 := h.2 v (List.mem_of_mem_erase hv)
      have h3 : v ≠ (N : Int) := fun e => by rw [e] at hv; exact (List.Nodup.not_mem_erase h.1) hv
      omega⟩
    have h2 : us.length ≤ (us.erase (N : Int)).length + 1 := by rw [List.length_erase]; split <;> omega
    omega
def lk1 (l : List (List UInt8 × List Ln)) (own : Own) : Nat → Nat → List Int → Int → Own → List Spot → (List Int × Own × List Spot) × Int × Int
  | 0, _, _, _, _, _ => (([], Wk, []), 99, 0)
  | f + 1, i, us, at_, g, sps => if us.length ≤ i then ((us, g, sps), 0, 0) else
      if (Y1 (l.getD (us.getD i 0).toNat Ud).2 at_).2.2.1 ≠ 0 then (([], Wk, []), (Y1 (l.getD (us.getD i 0).toNat Ud).2 at_).2.2.1, us.getD i 0) else
      match Vq own (us.getD i 0) (Y1 (l.getD (us.getD i 0).toNat Ud).2 at_).1 (l.getD (us.getD i 0).toNat Ud).2 us with
      | none => (([], Wk, []), 6, us.getD i 0)
      | some us' => lk1 l own f (i + 1) us' (Y1 (l.getD (us.getD i 0).toNat Ud).2 at_).2.1 (Sc (Y1 (l.getD (us.getD i 0).toNat Ud).2 at_).1 g) (sps ++ T4 (Y1 (l.getD (us.getD i 0).toNat Ud).2 at_).1)
set_option maxHeartbeats 8000000 in
theorem Ic {w : World} {X : List Nat} {fr : List Value} {Q : Exit → St → Prop} (l : List (List UInt8 × List Ln)) (own : Own) (us0 : List Int) (RES : (List Int × Own × List Spot) × Int × Int)
    (hl : l.length ≤ 400) (hu : ∀ u ∈ l, u.2.length ≤ 40000 ∧ (Y1 u.2 0).2.2.1 = 0) (ho : ∀ s v, own s = some v → 0 ≤ v ∧ v < l.length) (hus0 : Qf l.length us0) (hres : lk1 l own 402 0 us0 0 Wk [] = RES)
    (hQ : RES.2.1 = 0 → ∀ S' i at_ n, Qf l.length RES.1.1 → RES.1.2.2.length ≤ 40000 * 400 → Ent ⟨Try.prog, w, X, 199, fr⟩ S' ⟨[(13, .one (.a (.int .i64 i))), (12, .one (.a (.int .i64 at_))), (11, .one (.a (.loc 5 0))), (10, .one (.a (.loc 2 0))), (6, .one (.a (.ref 1))), (5, .one (.a (.loc 8 0))), (4, .one (.a (.loc 7 0))), (0, .one (.a (.ref 0)))], [(0, .rou l), (1, .smap Try.prog 9 3 (.int .i64) own 16000000), (2, .cells 26 [(.raw (.slice none 0 0)), .ref 3, .ref 4]), (3, .row 3 (.int .i64) RES.1.1), (4, .row 54 .spot RES.1.2.2), (5, .cells 52 [.ref 6]), (6, .smap Try.prog 9 3 (.int .i64) RES.1.2.1 n), (7, .cells 26 [(.raw (.slice none 0 0)), (.raw (.slice none 0 0)), (.raw (.slice none 0 0))]), (8, .cells 29 [.int .i64 0, .int .i64 0])], 9⟩ → Q (.exit 0) S')
    (hE : RES.2.1 ≠ 0 → ∀ S', Ent ⟨Try.prog, w, X, 199, fr⟩ S' ⟨[(5, .one (.a (.loc 1 0))), (4, .one (.a (.loc 0 0)))], [(0, .cells 26 [(.raw (.slice none 0 0)), (.raw (.slice none 0 0)), (.raw (.slice none 0 0))]), (1, .cells 29 [.int .i64 RES.2.1, .int .i64 RES.2.2])], 2⟩ → Q .ret S') :
    T ⟨Try.prog, w, X, 199, fr⟩ (.loop Yz.c52) Q ⟨[(13, .one (.a (.int .i64 0))), (12, .one (.a (.int .i64 0))), (11, .one (.a (.loc 5 0))), (10, .one (.a (.loc 2 0))), (6, .one (.a (.ref 1))), (5, .one (.a (.loc 8 0))), (4, .one (.a (.loc 7 0))), (0, .one (.a (.ref 0)))], [(0, .rou l), (1, .smap Try.prog 9 3 (.int .i64) own 16000000), (2, .cells 26 [(.raw (.slice none 0 0)), .ref 3, .ref 4]), (3, .row 3 (.int .i64) us0), (4, .row 54 .spot []), (5, .cells 52 [.ref 6]), (6, .smap Try.prog 9 3 (.int .i64) Wk 0), (7, .cells 26 [(.raw (.slice none 0 0)), (.raw (.slice none 0 0)), (.raw (.slice none 0 0))]), (8, .cells 29 [.int .i64 0, .int .i64 0])], 9⟩ := by
  refine T.loop (ι := { p : Nat × List Int × Int × Own × Nat × List Spot // p.1 ≤ p.2.1.length ∧ Qf l.length p.2.1 ∧ (0 ≤ p.2.2.1 ∧ p.2.2.1 ≤ 65536) ∧ p.2.2.2.2.1 ≤ 40000 * p.1 ∧ p.2.2.2.2.2.length ≤ 40000 * p.1 ∧ lk1 l own (402 - p.1) p.1 p.2.1 p.2.2.1 p.2.2.2.1 p.2.2.2.2.2 = RES })
    (fun x => ⟨[(13, .one (.a (.int .i64 (x.1.1 : Int)))), (12, .one (.a (.int .i64 x.1.2.2.1))), (11, .one (.a (.loc 5 0))), (10, .one (.a (.loc 2 0))), (6, .one (.a (.ref 1))), (5, .one (.a (.loc 8 0))), (4, .one (.a (.loc 7 0))), (0, .one (.a (.ref 0)))], [(0, .rou l), (1, .smap Try.prog 9 3 (.int .i64) own 16000000), (2, .cells 26 [(.raw (.slice none 0 0)), .ref 3, .ref 4]), (3, .row 3 (.int .i64) x.1.2.1), (4, .row 54 .spot x.1.2.2.2.2.2), (5, .cells 52 [.ref 6]), (6, .smap Try.prog 9 3 (.int .i64) x.1.2.2.2.1 x.1.2.2.2.2.1), (7, .cells 26 [(.raw (.slice none 0 0)), (.raw (.slice none 0 0)), (.raw (.slice none 0 0))]), (8, .cells 29 [.int .i64 0, .int .i64 0])], 9⟩) (fun x => l.length - x.1.1) ⟨(0, us0, 0, Wk, 0, []), by simp, hus0, by simp, by simp, by simp, hres⟩ (Ent.mk (id) (by simp [Za, Zb, Vc.bnd, St.get, St.find, Ze, SV.ren, Vc.S1.ren, At.ren, Res.ren, SV.bd, Vc.S1.bd, At.bd, Res.bd, Vc.upd, Vc.del, Kd.enc, Value.oneCell', Ve]) (by simp [Za, Zb, Vc.bnd, St.get, St.find, Ze, SV.ren, Vc.S1.ren, At.ren, Res.ren, SV.bd, Vc.S1.bd, At.bd, Res.bd, Vc.upd, Vc.del, Kd.enc, Value.oneCell', Ve]) (by simp [Za, Zb, Vc.bnd, St.get, St.find, Ze, SV.ren, Vc.S1.ren, At.ren, Res.ren, SV.bd, Vc.S1.bd, At.bd, Res.bd, Vc.upd, Vc.del, Kd.enc, Value.oneCell', Ve]) (by simp [Za, Zb, Vc.bnd, St.get, St.find, Ze, SV.ren, Vc.S1.ren, At.ren, Res.ren, SV.bd, Vc.S1.bd, At.bd, Res.bd, Vc.upd, Vc.del, Kd.enc, Value.oneCell', Ve])) ?_
  rintro ⟨⟨i, us, at_, g, n, sps⟩, hi, hus, ⟨ha0, ha1⟩, hn, hsps, hrun⟩
  simp only at hi hus ha0 ha1 hn hsps hrun
  have hul := T0 _ _ hus
  obtain ⟨f, hf⟩ : ∃ f, 402 - i = f + 1 := ⟨401 - i, by omega⟩
  rw [hf] at hrun
  simp only [lk1] at hrun
  by_cases hlt : i < us.length
  · rw [if_neg (by omega)] at hrun
    have hmem : us.getD i 0 ∈ us := by simp [List.getD, hlt]
    generalize hx : us.getD i 0 = u at hrun hmem
    have hx' : us.getD i (Kd.dflt (.int .i64)) = u := hx
    have hur := hus.2 u hmem
    have humem : l.getD u.toNat Ud ∈ l := by
      have : u.toNat < l.length := by omega
      simp [List.getD, this]
    generalize hU : l.getD u.toNat Ud = U at hrun humem
    have hU' : l.getD u.toNat ([], []) = U := hU
    obtain ⟨hUl, hU0⟩ := hu U humem
    have hwr := Vv U.2 0 0 [] [] hU0
    obtain ⟨hsok, hslen, he0, he1⟩ := S9 U.2 at_ ha0 ha1
    have hSp := S4 U.2 at_ hUl ha0 ha1
    have hw : IntKind.i64.wrap ((i : Int) + 1) = ((i + 1 : Nat) : Int) := Wi (by omega)
    have ht : ((i : Int)).toNat = i := by omega
    by_cases hsp : (Y1 U.2 at_).2.2.1 = 0
    · rw [if_neg (by simpa using hsp)] at hrun
      generalize hsp1 : (Y1 U.2 at_).1 = sp at hrun hsok hslen hSp
      generalize hend : (Y1 U.2 at_).2.1 = end_ at hrun hSp he0 he1
      repeat' (first | ((first | (with_reducible first | refine T.regs ?_ | refine T.cond ?_ | refine T.reg ?_ | refine T.ret ?_ | refine T.exit ?_ | refine T.skip ?_) | ((with_reducible first | refine T.dregs ?_ ?_ | refine T.dreg ?_ ?_ | refine T.dregts ?_ ?_ | refine T.dregt ?_ ?_ | refine T.danys ?_ ?_ | refine T.dany ?_ ?_); exact mix) | ((with_reducible apply Z9.rw (hSp)); (focus ((repeat' (first | exact rfl | exact trivial | refine And.intro ?_ ?_ | (simp [SV.bd, Vc.S1.bd, At.bd, Zo, Yx, Ins.cells, Ln.cells]; done))); done)))); simp only [Z8, Zx, Zy, Vc.exK, Zl, Zn, Zg, Zh, Zu, Xo, Y5, Zw, Zm, Zi, Zv, Zk, Zj, Xn, Z3, Xm, Vc.ev, Vc.st, Vc.stq, Vc.gst, Xj, St.rd, St.get, St.put, St.find, Ze, St.new, Vc.gdc, Zp, Yw, Yr, Yv, Xk, Zs, Zq, Yl, Yf, Vc.S1.cells, Vc.upd, Vc.del, Zf, Vc.noV, Kd.enc, Kd.dec, Ins.cells, Ln.cells, Yb, Z7, Yo, Z5, Y7, Vc.rvs, Xb, Zd, Xa, Y3, Y6, Y9, Xc, Xd, Ym, Xi, Z4, Zt, Zc, Zr, Y4, Xh, Zo, SV.bd, Vc.S1.bd, At.bd, Value.oneCell', Int.reduceEq, Int.reduceNeg, Int.reduceLE, Int.reduceLT, Vc.lenOf, Yq, Xf, Z1, Vc.atK, Z2, Vc.unK, Vc.wfK, Yk, Yg, Yi, Zz, Z6, Yh, Z0, Yu, Vc.sg, Y2, Y8, Xg, Xe, Ya, Res.own, At.sub, Vc.S1.sub, SV.sub, Res.sub, Xl, Xp, Ys, Yt, Yp, Vc.frS, Kd.sz, Nat.reduceSub, ↓reduceIte, reduceCtorEq, Nat.reduceEqDiff, Nat.reduceAdd, Nat.reduceMul, Nat.reduceLeDiff, Nat.reduceLT, Nat.reduceBEq, Nat.reduceBNe, implies_true, Xq, Yz.rs, Yz.res, hx', hU', hw, ht, hsp, Int.ofNat_lt]) | (with_reducible first | refine T.seq ?_ | refine T.block ?_ | assumption | refine And.intro ?_ ?_) | (intro h; first | (exfalso; omega) | exact (tf h ‹_›).elim | exact (tf ‹_› h).elim | skip))
      all_goals first | omega | skip
      refine T.weak (Ent.mk (fun n => if n = 9 then 10 else n) (by simp [Za, Zb, Vc.bnd, St.get, St.find, Ze, SV.ren, Vc.S1.ren, At.ren, Res.ren, SV.bd, Vc.S1.bd, At.bd, Res.bd, Vc.upd, Vc.del, Kd.enc, Value.oneCell']) (by simp [Za, Zb, Vc.bnd, St.get, St.find, Ze, SV.ren, Vc.S1.ren, At.ren, Res.ren, SV.bd, Vc.S1.bd, At.bd, Res.bd, Vc.upd, Vc.del, Kd.enc, Value.oneCell']) (by simp [Za, Zb, Vc.bnd, St.get, St.find, Ze, SV.ren, Vc.S1.ren, At.ren, Res.ren, SV.bd, Vc.S1.bd, At.bd, Res.bd, Vc.upd, Vc.del, Kd.enc, Value.oneCell']) (by simp [Za, Zb, Vc.bnd, St.get, St.find, Ze, SV.ren, Vc.S1.ren, At.ren, Res.ren, SV.bd, Vc.S1.bd, At.bd, Res.bd, Vc.upd, Vc.del, Kd.enc, Value.oneCell'])) (Jd l own i at_ u end_ us g n sps sp hsok (by omega) hn hsps (by omega) fun S1 n' hn' he => ?_)
      simp only [Z8, Zx, Zy, Vc.exK, Zl, Zn, Zg, Zh, Zu, Xo, Y5, Zw, Zm, Zi, Zv, Zk, Zj, Xn, Z3, Xm, Vc.ev, Vc.st, Vc.stq, Vc.gst, Xj, St.rd, St.get, St.put, St.find, Ze, St.new, Vc.gdc, Zp, Yw, Yr, Yv, Xk, Zs, Zq, Yl, Yf, Vc.S1.cells, Vc.upd, Vc.del, Zf, Vc.noV, Kd.enc, Kd.dec, Ins.cells, Ln.cells, Yb, Z7, Yo, Z5, Y7, Vc.rvs, Xb, Zd, Xa, Y3, Y6, Y9, Xc, Xd, Ym, Xi, Z4, Zt, Zc, Zr, Y4, Xh, Zo, SV.bd, Vc.S1.bd, At.bd, Value.oneCell', Int.reduceEq, Int.reduceNeg, Int.reduceLE, Int.reduceLT, Vc.lenOf, Yq, Xf, Z1, Vc.atK, Z2, Vc.unK, Vc.wfK, Yk, Yg, Yi, Zz, Z6, Yh, Z0, Yu, Vc.sg, Y2, Y8, Xg, Xe, Ya, Res.own, At.sub, Vc.S1.sub, SV.sub, Res.sub, Xl, Xp, Ys, Yt, Yp, Vc.frS, Kd.sz, Nat.reduceSub, ↓reduceIte, reduceCtorEq, Nat.reduceEqDiff, Nat.reduceAdd, Nat.reduceMul, Nat.reduceLeDiff, Nat.reduceLT, Nat.reduceBEq, Nat.reduceBNe, implies_true, Xq]
      refine T.weak he ?_
      repeat' (first | ((first | (with_reducible first | refine T.regs ?_ | refine T.cond ?_ | refine T.reg ?_ | refine T.ret ?_ | refine T.exit ?_ | refine T.skip ?_) | ((with_reducible first | refine T.dregs ?_ ?_ | refine T.dreg ?_ ?_ | refine T.dregts ?_ ?_ | refine T.dregt ?_ ?_ | refine T.danys ?_ ?_ | refine T.dany ?_ ?_); exact mix)); simp only [Z8, Zx, Zy, Vc.exK, Zl, Zn, Zg, Zh, Zu, Xo, Y5, Zw, Zm, Zi, Zv, Zk, Zj, Xn, Z3, Xm, Vc.ev, Vc.st, Vc.stq, Vc.gst, Xj, St.rd, St.get, St.put, St.find, Ze, St.new, Vc.gdc, Zp, Yw, Yr, Yv, Xk, Zs, Zq, Yl, Yf, Vc.S1.cells, Vc.upd, Vc.del, Zf, Vc.noV, Kd.enc, Kd.dec, Ins.cells, Ln.cells, Yb, Z7, Yo, Z5, Y7, Vc.rvs, Xb, Zd, Xa, Y3, Y6, Y9, Xc, Xd, Ym, Xi, Z4, Zt, Zc, Zr, Y4, Xh, Zo, SV.bd, Vc.S1.bd, At.bd, Value.oneCell', Int.reduceEq, Int.reduceNeg, Int.reduceLE, Int.reduceLT, Vc.lenOf, Yq, Xf, Z1, Vc.atK, Z2, Vc.unK, Vc.wfK, Yk, Yg, Yi, Zz, Z6, Yh, Z0, Yu, Vc.sg, Y2, Y8, Xg, Xe, Ya, Res.own, At.sub, Vc.S1.sub, SV.sub, Res.sub, Xl, Xp, Ys, Yt, Yp, Vc.frS, Kd.sz, Nat.reduceSub, ↓reduceIte, reduceCtorEq, Nat.reduceEqDiff, Nat.reduceAdd, Nat.reduceMul, Nat.reduceLeDiff, Nat.reduceLT, Nat.reduceBEq, Nat.reduceBNe, implies_true, Xq, Yz.rs, Yz.res, hU', hw, Int.ofNat_lt]) | (with_reducible first | refine T.seq ?_ | refine T.block ?_ | assumption | refine And.intro ?_ ?_) | (intro h; first | (exfalso; omega) | exact (tf h ‹_›).elim | exact (tf ‹_› h).elim | skip))
      all_goals first | omega | skip
      refine T.weak (Ent.mk (id) (by simp [Za, Zb, Vc.bnd, St.get, St.find, Ze, SV.ren, Vc.S1.ren, At.ren, Res.ren, SV.bd, Vc.S1.bd, At.bd, Res.bd, Vc.upd, Vc.del, Kd.enc, Value.oneCell']) (by simp [Za, Zb, Vc.bnd, St.get, St.find, Ze, SV.ren, Vc.S1.ren, At.ren, Res.ren, SV.bd, Vc.S1.bd, At.bd, Res.bd, Vc.upd, Vc.del, Kd.enc, Value.oneCell']) (by simp [Za, Zb, Vc.bnd, St.get, St.find, Ze, SV.ren, Vc.S1.ren, At.ren, Res.ren, SV.bd, Vc.S1.bd, At.bd, Res.bd, Vc.upd, Vc.del, Kd.enc, Value.oneCell']) (by simp [Za, Zb, Vc.bnd, St.get, St.find, Ze, SV.ren, Vc.S1.ren, At.ren, Res.ren, SV.bd, Vc.S1.bd, At.bd, Res.bd, Vc.upd, Vc.del, Kd.enc, Value.oneCell'])) (K3 l own i end_ u us (Sc sp g) n' (sps ++ T4 sp) sp U.2 hwr (by omega) hUl (by omega) (fun us' S2 hr he2 => ?_) fun S2 hr he2 => ?_)
      · rw [hr] at hrun
        simp only at hrun
        obtain ⟨hus2, hul2⟩ := Sl hur ho hr hus
        simp only [Z8, Zx, Zy, Vc.exK, Zl, Zn, Zg, Zh, Zu, Xo, Y5, Zw, Zm, Zi, Zv, Zk, Zj, Xn, Z3, Xm, Vc.ev, Vc.st, Vc.stq, Vc.gst, Xj, St.rd, St.get, St.put, St.find, Ze, St.new, Vc.gdc, Zp, Yw, Yr, Yv, Xk, Zs, Zq, Yl, Yf, Vc.S1.cells, Vc.upd, Vc.del, Zf, Vc.noV, Kd.enc, Kd.dec, Ins.cells, Ln.cells, Yb, Z7, Yo, Z5, Y7, Vc.rvs, Xb, Zd, Xa, Y3, Y6, Y9, Xc, Xd, Ym, Xi, Z4, Zt, Zc, Zr, Y4, Xh, Zo, SV.bd, Vc.S1.bd, At.bd, Value.oneCell', Int.reduceEq, Int.reduceNeg, Int.reduceLE, Int.reduceLT, Vc.lenOf, Yq, Xf, Z1, Vc.atK, Z2, Vc.unK, Vc.wfK, Yk, Yg, Yi, Zz, Z6, Yh, Z0, Yu, Vc.sg, Y2, Y8, Xg, Xe, Ya, Res.own, At.sub, Vc.S1.sub, SV.sub, Res.sub, Xl, Xp, Ys, Yt, Yp, Vc.frS, Kd.sz, Nat.reduceSub, ↓reduceIte, reduceCtorEq, Nat.reduceEqDiff, Nat.reduceAdd, Nat.reduceMul, Nat.reduceLeDiff, Nat.reduceLT, Nat.reduceBEq, Nat.reduceBNe, implies_true, Xq]
        refine T.weak he2 ?_
        repeat' (first | ((first | (with_reducible first | refine T.regs ?_ | refine T.cond ?_ | refine T.reg ?_ | refine T.ret ?_ | refine T.exit ?_ | refine T.skip ?_) | ((with_reducible first | refine T.dregs ?_ ?_ | refine T.dreg ?_ ?_ | refine T.dregts ?_ ?_ | refine T.dregt ?_ ?_ | refine T.danys ?_ ?_ | refine T.dany ?_ ?_); exact mix)); simp only [Z8, Zx, Zy, Vc.exK, Zl, Zn, Zg, Zh, Zu, Xo, Y5, Zw, Zm, Zi, Zv, Zk, Zj, Xn, Z3, Xm, Vc.ev, Vc.st, Vc.stq, Vc.gst, Xj, St.rd, St.get, St.put, St.find, Ze, St.new, Vc.gdc, Zp, Yw, Yr, Yv, Xk, Zs, Zq, Yl, Yf, Vc.S1.cells, Vc.upd, Vc.del, Zf, Vc.noV, Kd.enc, Kd.dec, Ins.cells, Ln.cells, Yb, Z7, Yo, Z5, Y7, Vc.rvs, Xb, Zd, Xa, Y3, Y6, Y9, Xc, Xd, Ym, Xi, Z4, Zt, Zc, Zr, Y4, Xh, Zo, SV.bd, Vc.S1.bd, At.bd, Value.oneCell', Int.reduceEq, Int.reduceNeg, Int.reduceLE, Int.reduceLT, Vc.lenOf, Yq, Xf, Z1, Vc.atK, Z2, Vc.unK, Vc.wfK, Yk, Yg, Yi, Zz, Z6, Yh, Z0, Yu, Vc.sg, Y2, Y8, Xg, Xe, Ya, Res.own, At.sub, Vc.S1.sub, SV.sub, Res.sub, Xl, Xp, Ys, Yt, Yp, Vc.frS, Kd.sz, Nat.reduceSub, ↓reduceIte, reduceCtorEq, Nat.reduceEqDiff, Nat.reduceAdd, Nat.reduceMul, Nat.reduceLeDiff, Nat.reduceLT, Nat.reduceBEq, Nat.reduceBNe, implies_true, Xq, Yz.rs, Yz.res, hw, Int.ofNat_lt]) | (with_reducible first | refine T.seq ?_ | refine T.block ?_ | assumption | refine And.intro ?_ ?_) | (intro h; first | (exfalso; omega) | exact (tf h ‹_›).elim | exact (tf ‹_› h).elim | skip))
        all_goals first | omega | skip
        have hvl : (T4 sp).length ≤ sp.length := List.length_filter_le _ _
        refine ⟨⟨(i + 1, us', end_, Sc sp g, n', sps ++ T4 sp), by simp only; omega, hus2, ⟨he0, he1⟩, hn', by simp only [List.length_append]; omega, ?_⟩, (Ent.mk (id) (by simp [Za, Zb, Vc.bnd, St.get, St.find, Ze, SV.ren, Vc.S1.ren, At.ren, Res.ren, SV.bd, Vc.S1.bd, At.bd, Res.bd, Vc.upd, Vc.del, Kd.enc, Value.oneCell', hw]) (by simp [Za, Zb, Vc.bnd, St.get, St.find, Ze, SV.ren, Vc.S1.ren, At.ren, Res.ren, SV.bd, Vc.S1.bd, At.bd, Res.bd, Vc.upd, Vc.del, Kd.enc, Value.oneCell', hw]) (by simp [Za, Zb, Vc.bnd, St.get, St.find, Ze, SV.ren, Vc.S1.ren, At.ren, Res.ren, SV.bd, Vc.S1.bd, At.bd, Res.bd, Vc.upd, Vc.del, Kd.enc, Value.oneCell', hw]) (by simp [Za, Zb, Vc.bnd, St.get, St.find, Ze, SV.ren, Vc.S1.ren, At.ren, Res.ren, SV.bd, Vc.S1.bd, At.bd, Res.bd, Vc.upd, Vc.del, Kd.enc, Value.oneCell', hw])), by simp only; omega⟩
        have : 402 - (i + 1) = f := by omega
        simp only [this]
        exact hrun
      · rw [hr] at hrun
        simp only at hrun
        have hE2 := hE (by rw [← hrun]; simp)
        rw [← hrun] at hE2
        simp only at hE2
        simp only [Z8, Zx, Zy, Vc.exK, Zl, Zn, Zg, Zh, Zu, Xo, Y5, Zw, Zm, Zi, Zv, Zk, Zj, Xn, Z3, Xm, Vc.ev, Vc.st, Vc.stq, Vc.gst, Xj, St.rd, St.get, St.put, St.find, Ze, St.new, Vc.gdc, Zp, Yw, Yr, Yv, Xk, Zs, Zq, Yl, Yf, Vc.S1.cells, Vc.upd, Vc.del, Zf, Vc.noV, Kd.enc, Kd.dec, Ins.cells, Ln.cells, Yb, Z7, Yo, Z5, Y7, Vc.rvs, Xb, Zd, Xa, Y3, Y6, Y9, Xc, Xd, Ym, Xi, Z4, Zt, Zc, Zr, Y4, Xh, Zo, SV.bd, Vc.S1.bd, At.bd, Value.oneCell', Int.reduceEq, Int.reduceNeg, Int.reduceLE, Int.reduceLT, Vc.lenOf, Yq, Xf, Z1, Vc.atK, Z2, Vc.unK, Vc.wfK, Yk, Yg, Yi, Zz, Z6, Yh, Z0, Yu, Vc.sg, Y2, Y8, Xg, Xe, Ya, Res.own, At.sub, Vc.S1.sub, SV.sub, Res.sub, Xl, Xp, Ys, Yt, Yp, Vc.frS, Kd.sz, Nat.reduceSub, ↓reduceIte, reduceCtorEq, Nat.reduceEqDiff, Nat.reduceAdd, Nat.reduceMul, Nat.reduceLeDiff, Nat.reduceLT, Nat.reduceBEq, Nat.reduceBNe, implies_true, Xq]
        exact hE2 _ he2
    · rw [if_pos (by simpa using hsp)] at hrun
      have hE2 := hE (by rw [← hrun]; simpa using hsp)
      rw [← hrun] at hE2
      simp only at hE2
      repeat' (first | ((first | (with_reducible first | refine T.regs ?_ | refine T.cond ?_ | refine T.reg ?_ | refine T.ret ?_ | refine T.exit ?_ | refine T.skip ?_) | ((with_reducible first | refine T.dregs ?_ ?_ | refine T.dreg ?_ ?_ | refine T.dregts ?_ ?_ | refine T.dregt ?_ ?_ | refine T.danys ?_ ?_ | refine T.dany ?_ ?_); exact mix) | ((with_reducible apply Z9.rw (hSp)); (focus ((repeat' (first | exact rfl | exact trivial | refine And.intro ?_ ?_ | (simp [SV.bd, Vc.S1.bd, At.bd, Zo, Yx, Ins.cells, Ln.cells]; done))); done)))); simp only [Z8, Zx, Zy, Vc.exK, Zl, Zn, Zg, Zh, Zu, Xo, Y5, Zw, Zm, Zi, Zv, Zk, Zj, Xn, Z3, Xm, Vc.ev, Vc.st, Vc.stq, Vc.gst, Xj, St.rd, St.get, St.put, St.find, Ze, St.new, Vc.gdc, Zp, Yw, Yr, Yv, Xk, Zs, Zq, Yl, Yf, Vc.S1.cells, Vc.upd, Vc.del, Zf, Vc.noV, Kd.enc, Kd.dec, Ins.cells, Ln.cells, Yb, Z7, Yo, Z5, Y7, Vc.rvs, Xb, Zd, Xa, Y3, Y6, Y9, Xc, Xd, Ym, Xi, Z4, Zt, Zc, Zr, Y4, Xh, Zo, SV.bd, Vc.S1.bd, At.bd, Value.oneCell', Int.reduceEq, Int.reduceNeg, Int.reduceLE, Int.reduceLT, Vc.lenOf, Yq, Xf, Z1, Vc.atK, Z2, Vc.unK, Vc.wfK, Yk, Yg, Yi, Zz, Z6, Yh, Z0, Yu, Vc.sg, Y2, Y8, Xg, Xe, Ya, Res.own, At.sub, Vc.S1.sub, SV.sub, Res.sub, Xl, Xp, Ys, Yt, Yp, Vc.frS, Kd.sz, Nat.reduceSub, ↓reduceIte, reduceCtorEq, Nat.reduceEqDiff, Nat.reduceAdd, Nat.reduceMul, Nat.reduceLeDiff, Nat.reduceLT, Nat.reduceBEq, Nat.reduceBNe, implies_true, Xq, Yz.rs, Yz.res, hx', hU', hw, ht, hsp, Int.ofNat_lt]) | (with_reducible first | refine T.seq ?_ | refine T.block ?_ | assumption | refine And.intro ?_ ?_) | (intro h; first | (exfalso; omega) | exact (tf h ‹_›).elim | exact (tf ‹_› h).elim | skip))
      all_goals first | omega | exact hE2 _ (Ent.mk (fun n => n + 7) (by simp [Za, Zb, Vc.bnd, St.get, St.find, Ze, SV.ren, Vc.S1.ren, At.ren, Res.ren, SV.bd, Vc.S1.bd, At.bd, Res.bd, Vc.upd, Vc.del, Kd.enc, Value.oneCell']) (by simp [Za, Zb, Vc.bnd, St.get, St.find, Ze, SV.ren, Vc.S1.ren, At.ren, Res.ren, SV.bd, Vc.S1.bd, At.bd, Res.bd, Vc.upd, Vc.del, Kd.enc, Value.oneCell']) (by simp [Za, Zb, Vc.bnd, St.get, St.find, Ze, SV.ren, Vc.S1.ren, At.ren, Res.ren, SV.bd, Vc.S1.bd, At.bd, Res.bd, Vc.upd, Vc.del, Kd.enc, Value.oneCell']) (by simp [Za, Zb, Vc.bnd, St.get, St.find, Ze, SV.ren, Vc.S1.ren, At.ren, Res.ren, SV.bd, Vc.S1.bd, At.bd, Res.bd, Vc.upd, Vc.del, Kd.enc, Value.oneCell'])) | skip
  · rw [if_pos (by omega)] at hrun
    subst hrun
    repeat' (first | ((first | (with_reducible first | refine T.regs ?_ | refine T.cond ?_ | refine T.reg ?_ | refine T.ret ?_ | refine T.exit ?_ | refine T.skip ?_) | ((with_reducible first | refine T.dregs ?_ ?_ | refine T.dreg ?_ ?_ | refine T.dregts ?_ ?_ | refine T.dregt ?_ ?_ | refine T.danys ?_ ?_ | refine T.dany ?_ ?_); exact mix)); simp only [Z8, Zx, Zy, Vc.exK, Zl, Zn, Zg, Zh, Zu, Xo, Y5, Zw, Zm, Zi, Zv, Zk, Zj, Xn, Z3, Xm, Vc.ev, Vc.st, Vc.stq, Vc.gst, Xj, St.rd, St.get, St.put, St.find, Ze, St.new, Vc.gdc, Zp, Yw, Yr, Yv, Xk, Zs, Zq, Yl, Yf, Vc.S1.cells, Vc.upd, Vc.del, Zf, Vc.noV, Kd.enc, Kd.dec, Ins.cells, Ln.cells, Yb, Z7, Yo, Z5, Y7, Vc.rvs, Xb, Zd, Xa, Y3, Y6, Y9, Xc, Xd, Ym, Xi, Z4, Zt, Zc, Zr, Y4, Xh, Zo, SV.bd, Vc.S1.bd, At.bd, Value.oneCell', Int.reduceEq, Int.reduceNeg, Int.reduceLE, Int.reduceLT, Vc.lenOf, Yq, Xf, Z1, Vc.atK, Z2, Vc.unK, Vc.wfK, Yk, Yg, Yi, Zz, Z6, Yh, Z0, Yu, Vc.sg, Y2, Y8, Xg, Xe, Ya, Res.own, At.sub, Vc.S1.sub, SV.sub, Res.sub, Xl, Xp, Ys, Yt, Yp, Vc.frS, Kd.sz, Nat.reduceSub, ↓reduceIte, reduceCtorEq, Nat.reduceEqDiff, Nat.reduceAdd, Nat.reduceMul, Nat.reduceLeDiff, Nat.reduceLT, Nat.reduceBEq, Nat.reduceBNe, implies_true, Xq, Yz.rs, Yz.res, Int.ofNat_lt]) | (with_reducible first | refine T.seq ?_ | refine T.block ?_ | assumption | refine And.intro ?_ ?_) | (intro h; first | (exfalso; omega) | exact (tf h ‹_›).elim | exact (tf ‹_› h).elim | skip))
    all_goals first | omega | skip
    exact hQ rfl _ (i : Int) at_ n hus (by simp only; omega) (Ent.mk (id) (by simp [Za, Zb, Vc.bnd, St.get, St.find, Ze, SV.ren, Vc.S1.ren, At.ren, Res.ren, SV.bd, Vc.S1.bd, At.bd, Res.bd, Vc.upd, Vc.del, Kd.enc, Value.oneCell']) (by simp [Za, Zb, Vc.bnd, St.get, St.find, Ze, SV.ren, Vc.S1.ren, At.ren, Res.ren, SV.bd, Vc.S1.bd, At.bd, Res.bd, Vc.upd, Vc.del, Kd.enc, Value.oneCell']) (by simp [Za, Zb, Vc.bnd, St.get, St.find, Ze, SV.ren, Vc.S1.ren, At.ren, Res.ren, SV.bd, Vc.S1.bd, At.bd, Res.bd, Vc.upd, Vc.del, Kd.enc, Value.oneCell']) (by simp [Za, Zb, Vc.bnd, St.get, St.find, Ze, SV.ren, Vc.S1.ren, At.ren, Res.ren, SV.bd, Vc.S1.bd, At.bd, Res.bd, Vc.upd, Vc.del, Kd.enc, Value.oneCell']))
end Go.Proofs.Ytibkcfpcfbodaaa
