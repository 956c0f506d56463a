/-
  A part of the proofs of this seat's laws: a step on the way. It has no conditions of its own.
-/
import Derived.Test.YtccjjcdjgibilaaGreatDoorLibR
import Derived.Test.YtccjjcdjgibilaaGreatDoorReadP
namespace Go.Proofs.YtccjjcdjgibilaaGreatDoor
open Go Go.RowKit Vc
set_option linter.unusedVariables false
set_option linter.unusedSimpArgs false
attribute [local irreducible] T Zq Wa RdC RwC V2 Yl Xt
theorem Ent.view {c : Cx} {S : St} {t m : Nat} (sz m0 lo hi : Nat) {g : Prop} (ht : S.get t = some (.one (.a (.ref m)))) (h : Yp S sz m = some (g, m0, lo, hi)) (hg : g) :
    Ent c S ⟨(t, .one (.a (.ref S.nx))) :: S.slots, (S.nx, .view m0 sz lo hi) :: S.res, S.nx + 1⟩ := fun ρ a w hh => by
  obtain ⟨ad, len, cap, ad', g1, g2, g3, g4, g5, g6, g8, g9⟩ := Oj hh h hg
  refine ⟨Wk ρ S.nx (ρ m), hh.nodef, hh.sz, hh.lown, fun u v hu => ?_, fun u v hu => ?_, ?_⟩
  · rcases look_cons hu with ⟨rfl, rfl⟩ | ⟨hne, hu'⟩
    · rw [hh.slot _ _ ht]; simp only [SV.den, S1.den, At.den, Yy]
    · rw [SV.den_same (Yj ρ S.nx _) (hh.bds u v hu')]; exact hh.slot u v hu'
  · rcases look_cons hu with ⟨rfl, rfl⟩ | ⟨hne, hu'⟩
    · exact Nat.lt_succ_self _
    · exact SV.bd_mono (Nat.le_succ _) (hh.bds u v hu')
  · refine hh.mem.named (hh.mem.one m) (show m0 < S.nx + 1 by omega) rfl fun O' _ => ?_
    exact ⟨ad, len, cap, ad', by rw [Yj ρ S.nx _ m0 g5]; exact g1, by rw [Yy]; exact g2, by omega, g9, g6⟩
attribute [local irreducible] Ent
set_option maxHeartbeats 2000000 in
theorem Ky (l : List (List UInt8)) (v : List UInt8) (hlen : l.length ≤ 9223372036854775807) :
    RdC Tryz.prog 37 [.ro .str l, .v (.a (.str v))] (.one (.a (.int .i64 (Ul l v 0)))) := by
  refine Xv.fn.rd (by simp) (by repeat' (first | exact rfl | exact trivial | refine And.intro ?_ ?_ | (simp [SV.bd, Vc.S1.bd, At.bd, Z7, Xu, Ins.cells, Ln.cells]; done))) (by repeat' (first | exact rfl | exact trivial | refine And.intro ?_ ?_ | (simp [SV.bd, Vc.S1.bd, At.bd, Z7, Xu, Ins.cells, Ln.cells]; done))) fun w => ?_
  repeat' (first | ((first | (with_reducible first | refine T.regs ?_ | refine T.cond ?_ | refine T.reg ?_ | refine T.ret ?_ | refine T.exit ?_ | refine T.skip ?_) | ((with_reducible first | refine T.dregs ?_ ?_ | refine T.dreg ?_ ?_ | refine T.dregts ?_ ?_ | refine T.dregt ?_ ?_ | refine T.danys ?_ ?_ | refine T.dany ?_ ?_); exact mix)); simp only [Yg, Z3, Z6, Vc.exK, Zk, Zn, Zh, Zi, Z2, Xq, Y7, Z4, Zj, Zl, Z5, Zm, Zo, Xo, Yb, Xn, Vc.ev, Vc.st, Vc.stq, Vc.gst, Xk, St.rd, St.get, St.put, St.find, Zb, St.new, Vc.gdc, Zv, Yv, Yw, Yu, Xl, Z0, Zy, Yn, Yi, Vc.S1.cells, Vc.upd, Vc.del, Zg, Vc.noV, Kd.enc, Kd.dec, Ins.cells, Ln.cells, Zs, Yd, Yq, Ye, Y4, Vc.rvs, Xe, Zf, Xb, Y2, Y6, Xa, Xg, Xf, Yo, Xi, Ya, Z1, Zd, Zz, Vc.kdL, Xr, Y3, Xj, Z7, SV.bd, Vc.S1.bd, At.bd, Value.oneCell', Int.reduceEq, Int.reduceNeg, Int.reduceLE, Int.reduceLT, Vc.lenOf, Yp, Xh, Z8, Vc.atK, Z9, Vc.unK, Vc.wfK, Zx, Zu, Zw, Zc, Yf, Zt, Ze, Yt, Vc.sg, Y1, Y8, Xd, Xc, Zr, Res.own, At.sub, Vc.S1.sub, SV.sub, Res.sub, Xm, Xp, Ys, Yx, Yr, Vc.frS, Kd.sz, Nat.reduceSub, ↓reduceIte, reduceCtorEq, Nat.reduceEqDiff, Nat.reduceAdd, Nat.reduceMul, Nat.reduceLeDiff, Nat.reduceLT, Nat.reduceBEq, Nat.reduceBNe, implies_true, Xs, Xv.rs, Xv.res]) | (with_reducible first | refine T.seq ?_ | refine T.block ?_ | assumption | refine And.intro ?_ ?_) | (intro h; first | (exfalso; omega) | exact (tf h ‹_›).elim | exact (tf ‹_› h).elim | skip))
  refine T.loop (ι := { k : Nat // k ≤ l.length ∧ Ul (l.drop k) v k = Ul l v 0 })
    (fun x => ⟨[(8, .one (.a (.int .i64 (x.1 : Int)))), (7, .one (.a (.int .i64 l.length))), (1, .one (.a (.str v))), (0, .one (.a (.ref 0)))], [(0, .ro .str l)], 1⟩)
    (fun x => l.length - x.1) ⟨0, by simp, by simp⟩ (Ent.mk (id) (by simp [Za, Zp, Vc.bnd, St.get, St.find, Zb, SV.ren, Vc.S1.ren, At.ren, Res.ren, SV.bd, Vc.S1.bd, At.bd, Res.bd, Vc.upd, Vc.del, Kd.enc, Value.oneCell']) (by simp [Za, Zp, Vc.bnd, St.get, St.find, Zb, SV.ren, Vc.S1.ren, At.ren, Res.ren, SV.bd, Vc.S1.bd, At.bd, Res.bd, Vc.upd, Vc.del, Kd.enc, Value.oneCell']) (by simp [Za, Zp, Vc.bnd, St.get, St.find, Zb, SV.ren, Vc.S1.ren, At.ren, Res.ren, SV.bd, Vc.S1.bd, At.bd, Res.bd, Vc.upd, Vc.del, Kd.enc, Value.oneCell']) (by simp [Za, Zp, Vc.bnd, St.get, St.find, Zb, SV.ren, Vc.S1.ren, At.ren, Res.ren, SV.bd, Vc.S1.bd, At.bd, Res.bd, Vc.upd, Vc.del, Kd.enc, Value.oneCell'])) ?_
  rintro ⟨k, hk, hrun⟩
  by_cases hlt : k < l.length
  · have hdrop : l.drop k = l.getD k [] :: l.drop (k + 1) := by
      rw [List.drop_eq_getElem_cons hlt]; simp [List.getD, hlt]
    generalize hx : l.getD k [] = x at hdrop
    have hx' : l.getD k (Kd.dflt .str) = x := hx
    rw [hdrop] at hrun
    simp only [Ul] at hrun
    have hw : IntKind.i64.wrap ((k : Int) + 1) = ((k + 1 : Nat) : Int) := Va (by omega)
    have ht : ((k : Int)).toNat = k := by omega
    by_cases hp : x = v
    · rw [if_pos hp] at hrun
      have hpd : decide (v = x) = true := decide_eq_true hp.symm
      repeat' (first | ((first | (with_reducible first | refine T.regs ?_ | refine T.cond ?_ | refine T.reg ?_ | refine T.ret ?_ | refine T.exit ?_ | refine T.skip ?_) | ((with_reducible first | refine T.dregs ?_ ?_ | refine T.dreg ?_ ?_ | refine T.dregts ?_ ?_ | refine T.dregt ?_ ?_ | refine T.danys ?_ ?_ | refine T.dany ?_ ?_); exact mix)); simp only [Yg, Z3, Z6, Vc.exK, Zk, Zn, Zh, Zi, Z2, Xq, Y7, Z4, Zj, Zl, Z5, Zm, Zo, Xo, Yb, Xn, Vc.ev, Vc.st, Vc.stq, Vc.gst, Xk, St.rd, St.get, St.put, St.find, Zb, St.new, Vc.gdc, Zv, Yv, Yw, Yu, Xl, Z0, Zy, Yn, Yi, Vc.S1.cells, Vc.upd, Vc.del, Zg, Vc.noV, Kd.enc, Kd.dec, Ins.cells, Ln.cells, Zs, Yd, Yq, Ye, Y4, Vc.rvs, Xe, Zf, Xb, Y2, Y6, Xa, Xg, Xf, Yo, Xi, Ya, Z1, Zd, Zz, Vc.kdL, Xr, Y3, Xj, Z7, SV.bd, Vc.S1.bd, At.bd, Value.oneCell', Int.reduceEq, Int.reduceNeg, Int.reduceLE, Int.reduceLT, Vc.lenOf, Yp, Xh, Z8, Vc.atK, Z9, Vc.unK, Vc.wfK, Zx, Zu, Zw, Zc, Yf, Zt, Ze, Yt, Vc.sg, Y1, Y8, Xd, Xc, Zr, Res.own, At.sub, Vc.S1.sub, SV.sub, Res.sub, Xm, Xp, Ys, Yx, Yr, Vc.frS, Kd.sz, Nat.reduceSub, ↓reduceIte, reduceCtorEq, Nat.reduceEqDiff, Nat.reduceAdd, Nat.reduceMul, Nat.reduceLeDiff, Nat.reduceLT, Nat.reduceBEq, Nat.reduceBNe, implies_true, Xs, Xv.rs, Xv.res, hx', hw, ht, hpd, Int.ofNat_lt]) | (with_reducible first | refine T.seq ?_ | refine T.block ?_ | assumption | refine And.intro ?_ ?_) | (intro h; first | (exfalso; omega) | exact (tf h ‹_›).elim | exact (tf ‹_› h).elim | skip))
      all_goals first | omega | (rw [← hrun]; done) | skip
    · rw [if_neg hp] at hrun
      have hpd : decide (v = x) = false := decide_eq_false fun e => hp e.symm
      repeat' (first | ((first | (with_reducible first | refine T.regs ?_ | refine T.cond ?_ | refine T.reg ?_ | refine T.ret ?_ | refine T.exit ?_ | refine T.skip ?_) | ((with_reducible first | refine T.dregs ?_ ?_ | refine T.dreg ?_ ?_ | refine T.dregts ?_ ?_ | refine T.dregt ?_ ?_ | refine T.danys ?_ ?_ | refine T.dany ?_ ?_); exact mix)); simp only [Yg, Z3, Z6, Vc.exK, Zk, Zn, Zh, Zi, Z2, Xq, Y7, Z4, Zj, Zl, Z5, Zm, Zo, Xo, Yb, Xn, Vc.ev, Vc.st, Vc.stq, Vc.gst, Xk, St.rd, St.get, St.put, St.find, Zb, St.new, Vc.gdc, Zv, Yv, Yw, Yu, Xl, Z0, Zy, Yn, Yi, Vc.S1.cells, Vc.upd, Vc.del, Zg, Vc.noV, Kd.enc, Kd.dec, Ins.cells, Ln.cells, Zs, Yd, Yq, Ye, Y4, Vc.rvs, Xe, Zf, Xb, Y2, Y6, Xa, Xg, Xf, Yo, Xi, Ya, Z1, Zd, Zz, Vc.kdL, Xr, Y3, Xj, Z7, SV.bd, Vc.S1.bd, At.bd, Value.oneCell', Int.reduceEq, Int.reduceNeg, Int.reduceLE, Int.reduceLT, Vc.lenOf, Yp, Xh, Z8, Vc.atK, Z9, Vc.unK, Vc.wfK, Zx, Zu, Zw, Zc, Yf, Zt, Ze, Yt, Vc.sg, Y1, Y8, Xd, Xc, Zr, Res.own, At.sub, Vc.S1.sub, SV.sub, Res.sub, Xm, Xp, Ys, Yx, Yr, Vc.frS, Kd.sz, Nat.reduceSub, ↓reduceIte, reduceCtorEq, Nat.reduceEqDiff, Nat.reduceAdd, Nat.reduceMul, Nat.reduceLeDiff, Nat.reduceLT, Nat.reduceBEq, Nat.reduceBNe, implies_true, Xs, Xv.rs, Xv.res, hx', hw, ht, hpd, Int.ofNat_lt]) | (with_reducible first | refine T.seq ?_ | refine T.block ?_ | assumption | refine And.intro ?_ ?_) | (intro h; first | (exfalso; omega) | exact (tf h ‹_›).elim | exact (tf ‹_› h).elim | skip))
      all_goals first | omega | exact ⟨⟨k + 1, hlt, hrun⟩, (Ent.mk (id) (by simp [Za, Zp, Vc.bnd, St.get, St.find, Zb, SV.ren, Vc.S1.ren, At.ren, Res.ren, SV.bd, Vc.S1.bd, At.bd, Res.bd, Vc.upd, Vc.del, Kd.enc, Value.oneCell', hw]) (by simp [Za, Zp, Vc.bnd, St.get, St.find, Zb, SV.ren, Vc.S1.ren, At.ren, Res.ren, SV.bd, Vc.S1.bd, At.bd, Res.bd, Vc.upd, Vc.del, Kd.enc, Value.oneCell', hw]) (by simp [Za, Zp, Vc.bnd, St.get, St.find, Zb, SV.ren, Vc.S1.ren, At.ren, Res.ren, SV.bd, Vc.S1.bd, At.bd, Res.bd, Vc.upd, Vc.del, Kd.enc, Value.oneCell', hw]) (by simp [Za, Zp, Vc.bnd, St.get, St.find, Zb, SV.ren, Vc.S1.ren, At.ren, Res.ren, SV.bd, Vc.S1.bd, At.bd, Res.bd, Vc.upd, Vc.del, Kd.enc, Value.oneCell', hw])), by simp only; omega⟩ | skip
  · have hk2 : k = l.length := by omega
    subst hk2
    rw [List.drop_length] at hrun
    simp only [Ul] at hrun
    repeat' (first | ((first | (with_reducible first | refine T.regs ?_ | refine T.cond ?_ | refine T.reg ?_ | refine T.ret ?_ | refine T.exit ?_ | refine T.skip ?_) | ((with_reducible first | refine T.dregs ?_ ?_ | refine T.dreg ?_ ?_ | refine T.dregts ?_ ?_ | refine T.dregt ?_ ?_ | refine T.danys ?_ ?_ | refine T.dany ?_ ?_); exact mix)); simp only [Yg, Z3, Z6, Vc.exK, Zk, Zn, Zh, Zi, Z2, Xq, Y7, Z4, Zj, Zl, Z5, Zm, Zo, Xo, Yb, Xn, Vc.ev, Vc.st, Vc.stq, Vc.gst, Xk, St.rd, St.get, St.put, St.find, Zb, St.new, Vc.gdc, Zv, Yv, Yw, Yu, Xl, Z0, Zy, Yn, Yi, Vc.S1.cells, Vc.upd, Vc.del, Zg, Vc.noV, Kd.enc, Kd.dec, Ins.cells, Ln.cells, Zs, Yd, Yq, Ye, Y4, Vc.rvs, Xe, Zf, Xb, Y2, Y6, Xa, Xg, Xf, Yo, Xi, Ya, Z1, Zd, Zz, Vc.kdL, Xr, Y3, Xj, Z7, SV.bd, Vc.S1.bd, At.bd, Value.oneCell', Int.reduceEq, Int.reduceNeg, Int.reduceLE, Int.reduceLT, Vc.lenOf, Yp, Xh, Z8, Vc.atK, Z9, Vc.unK, Vc.wfK, Zx, Zu, Zw, Zc, Yf, Zt, Ze, Yt, Vc.sg, Y1, Y8, Xd, Xc, Zr, Res.own, At.sub, Vc.S1.sub, SV.sub, Res.sub, Xm, Xp, Ys, Yx, Yr, Vc.frS, Kd.sz, Nat.reduceSub, ↓reduceIte, reduceCtorEq, Nat.reduceEqDiff, Nat.reduceAdd, Nat.reduceMul, Nat.reduceLeDiff, Nat.reduceLT, Nat.reduceBEq, Nat.reduceBNe, implies_true, Xs, Xv.rs, Xv.res, Int.ofNat_lt]) | (with_reducible first | refine T.seq ?_ | refine T.block ?_ | assumption | refine And.intro ?_ ?_) | (intro h; first | (exfalso; omega) | exact (tf h ‹_›).elim | exact (tf ‹_› h).elim | skip))
    all_goals first | omega | (rw [← hrun]; done) | skip
end Go.Proofs.YtccjjcdjgibilaaGreatDoor
namespace Go.Proofs.YtccjjcdjgibilaaGreatDoor
open Go Go.RowKit Vc
set_option linter.unusedVariables false
set_option linter.unusedSimpArgs false
attribute [local irreducible] T Zq Wa Ent RdC RwC V2 Yl Xt
theorem Mi (s : List UInt8) (m : Nat) : Is s (m : Int) = match numS s m with | some n => (n : Int) | none => -1 := by
  unfold Is numS
  cases hv : T9 s with
  | none => rfl
  | some v =>
    simp only
    by_cases h : v ≤ m
    · rw [if_pos h, if_neg (by omega)]
    · rw [if_neg h, if_pos (by omega)]
end Go.Proofs.YtccjjcdjgibilaaGreatDoor
namespace Go.Proofs.YtccjjcdjgibilaaGreatDoor
open Go Go.RowKit Vc
set_option linter.unusedVariables false
set_option linter.unusedSimpArgs false
attribute [local irreducible] T Zq Wa Ent RdC RwC V2 Yl Xt
theorem numR_most (s : List UInt8) : Is s 65535 = match numS s 65535 with | some n => (n : Int) | none => -1 := Mi s 65535
theorem Ki (s : List UInt8) : Is s 7 = match numS s 7 with | some n => (n : Int) | none => -1 := Mi s 7
theorem reg_cases (p : List UInt8) : (1 < p.length ∧ Wr p 0 = 114 ∧ ∃ t, p = 114 :: t ∧ Is t 7 = Q8 p) ∨ (¬ 1 < p.length ∧ Tr p = none) ∨ (1 < p.length ∧ ¬ Wr p 0 = 114 ∧ Tr p = none) := by
  by_cases h1 : 1 < p.length
  · cases p with
    | nil => simp at h1
    | cons b t =>
      have hb : Wr (b :: t) 0 = ((b.toNat : Nat) : Int) := rfl
      by_cases h2 : b = 114
      · subst h2
        exact .inl ⟨h1, rfl, t, rfl, by rw [Ki, regR_r]; cases numS t 7 <;> rfl⟩
      · refine .inr (.inr ⟨h1, fun e => h2 ?_, Me.1 (by rw [Ic h2]; decide)⟩)
        rw [hb] at e
        exact UInt8.toNat_inj.1 (by simp; omega)
  · exact .inr (.inl ⟨h1, Me.1 (by rw [L7 h1]; decide)⟩)
end Go.Proofs.YtccjjcdjgibilaaGreatDoor
namespace Go.Proofs.YtccjjcdjgibilaaGreatDoor
open Go Go.RowKit Vc
set_option linter.unusedVariables false
set_option linter.unusedSimpArgs false
attribute [local irreducible] T Zq Wa Ent RdC RwC V2 Yl Xt
theorem Sr (G : Nat) (H : Nat → Option Obj) (s : List UInt8) (hs : s.length ≤ 2000000) :
    GCp G H Tryz.prog 35 [.a (.str s), .a (.str [32, 9])] [] 0 [] (.one (.a (.str (trimB s)))) [] 0 :=
  Oq G H s [32, 9] (by omega) (by decide) (by decide)
set_option maxHeartbeats 16000000 in
set_option maxRecDepth 100000 in
theorem Ob {G : Nat} {H : Nat → Option Obj} {w : World} {X : List Nat} {fr : List Value} {Q : Exit → St → Prop} (hglob : Vs G H w X) (op : Int) (raw : List (List UInt8)) (hlen : raw.length ≤ 3000000) (hps : ∀ p ∈ raw, p.length ≤ 2000000)
    (hQ : ∀ (lo d s : Nat), lo ≤ raw.length → Q6 op d s ((raw.drop lo).map trimB) = insV op (raw.map trimB) → ∀ S', Ent ⟨Tryz.prog, w, X, 149, fr⟩ S' ⟨[(11, .one (.a (.ref 2))), (14, .one (.a (.bool (W7 op)))), (10, .one (.a (.int .i64 op))), (2, .one (.a (.loc 0 0)))], [(0, .cells 34 [.str [], .int .i64 op, .int .i64 (d : Int), .int .i64 (s : Int), .int .i64 (0 : Int), .str []]), (1, .row 9 .str raw), (2, .view 1 1 lo raw.length)], 3⟩ → Q (.exit 0) S')
    (hE : ∀ e, insV op (raw.map trimB) = .error e → ∀ S' : St, Zb S'.slots 2 = some (.one (.a (.loc 0 0))) → Zb S'.slots 3 = some (.one (.a (.bool false))) → Zb S'.slots 4 = some (.one (.a (.int .i64 e))) → Zb S'.res 0 = some (.cells 34 [.str [], .int .i64 0, .int .i64 0, .int .i64 0, .int .i64 0, .str []]) → Q .ret S') :
    T ⟨Tryz.prog, w, X, 149, fr⟩ (.loop Ym.c34) Q ⟨[(84, .one (.a (.int .i64 0))), (83, .one (.a (.int .i64 2))), (82, .one (.a (.ref 3))), (11, .one (.a (.ref 2))), (14, .one (.a (.bool (W7 op)))), (10, .one (.a (.int .i64 op))), (2, .one (.a (.loc 0 0)))], [(0, .cells 34 [.str [], .int .i64 op, .int .i64 0, .int .i64 0, .int .i64 0, .str []]), (1, .row 9 .str raw), (2, .view 1 1 0 raw.length), (3, .lit 90 2 2 [.bool (Uh op), .loc 0 2, .bool (Ue op), .loc 0 3])], 4⟩ := by
  generalize hR : insV op (raw.map trimB) = R at hQ hE
  refine T.loop (ι := { p : Nat × Nat × Nat × Nat // p.2.1 ≤ raw.length ∧
      ((p.1 = 0 ∧ p.2.2 = (0, 0) ∧ insV op ((raw.drop p.2.1).map trimB) = R) ∨ (p.1 = 1 ∧ p.2.2.2 = 0 ∧ Jw op p.2.2.1 ((raw.drop p.2.1).map trimB) = R) ∨ (p.1 = 2 ∧ Q6 op p.2.2.1 p.2.2.2 ((raw.drop p.2.1).map trimB) = R)) })
    (fun y => ⟨[(84, .one (.a (.int .i64 (y.1.1 : Int)))), (83, .one (.a (.int .i64 2))), (82, .one (.a (.ref 3))), (11, .one (.a (.ref 2))), (14, .one (.a (.bool (W7 op)))), (10, .one (.a (.int .i64 op))), (2, .one (.a (.loc 0 0)))], [(0, .cells 34 [.str [], .int .i64 op, .int .i64 (y.1.2.2.1 : Int), .int .i64 (y.1.2.2.2 : Int), .int .i64 (0 : Int), .str []]), (1, .row 9 .str raw), (2, .view 1 1 y.1.2.1 raw.length), (3, .lit 90 2 2 [.bool (Uh op), .loc 0 2, .bool (Ue op), .loc 0 3])], 4⟩) (fun y => 2 - y.1.1) ⟨(0, 0, 0, 0), by simp, .inl ⟨rfl, rfl, by simpa using hR⟩⟩ (Ent.mk (id) (by simp [Za, Zp, Vc.bnd, St.get, St.find, Zb, SV.ren, Vc.S1.ren, At.ren, Res.ren, SV.bd, Vc.S1.bd, At.bd, Res.bd, Vc.upd, Vc.del, Kd.enc, Value.oneCell']) (by simp [Za, Zp, Vc.bnd, St.get, St.find, Zb, SV.ren, Vc.S1.ren, At.ren, Res.ren, SV.bd, Vc.S1.bd, At.bd, Res.bd, Vc.upd, Vc.del, Kd.enc, Value.oneCell']) (by simp [Za, Zp, Vc.bnd, St.get, St.find, Zb, SV.ren, Vc.S1.ren, At.ren, Res.ren, SV.bd, Vc.S1.bd, At.bd, Res.bd, Vc.upd, Vc.del, Kd.enc, Value.oneCell']) (by simp [Za, Zp, Vc.bnd, St.get, St.find, Zb, SV.ren, Vc.S1.ren, At.ren, Res.ren, SV.bd, Vc.S1.bd, At.bd, Res.bd, Vc.upd, Vc.del, Kd.enc, Value.oneCell'])) ?_
  rintro ⟨⟨j, lo, d, s⟩, ha, hst⟩
  simp only at ha hst
  have hpe : lo < raw.length → ∃ p, p.length ≤ 2000000 ∧ raw.getD lo (Kd.dflt .str) = p ∧ (raw.drop lo).map trimB = trimB p :: (raw.drop (lo + 1)).map trimB := by
    intro hlt
    refine ⟨raw.getD lo [], hps _ (by simp [List.getD, hlt]), rfl, ?_⟩
    have hg : raw.getD lo [] = raw[lo] := by simp [List.getD, hlt]
    rw [hg, List.drop_eq_getElem_cons hlt, List.map_cons]
  have hz1 : lo + (0 : Int).toNat = lo := rfl
  have hz2 : lo + (1 : Int).toNat = lo + 1 := rfl
  have hvl : lo + (((raw.length - lo : Nat) : Int)).toNat = raw.length := by omega
  rcases hst with ⟨rfl, hz, hrun⟩ | ⟨rfl, hz, hrun⟩ | ⟨rfl, hrun⟩
  · obtain ⟨rfl, rfl⟩ : d = 0 ∧ s = 0 := by simpa using hz
    have hj : ((((0 : Nat) : Int)).toNat : Nat) = 0 := rfl
    have hw : IntKind.i64.wrap (((0 : Nat) : Int) + 1) = ((1 : Nat) : Int) := Va (by omega)
    rw [Pc] at hrun
    cases hd : Uh op
    · rw [hd] at hrun
      rw [M1] at hrun
      simp only at hrun
      repeat' (first | ((first | (with_reducible first | refine T.regs ?_ | refine T.cond ?_ | refine T.reg ?_ | refine T.ret ?_ | refine T.exit ?_ | refine T.skip ?_) | ((with_reducible first | refine T.dregs ?_ ?_ | refine T.dreg ?_ ?_ | refine T.dregts ?_ ?_ | refine T.dregt ?_ ?_ | refine T.danys ?_ ?_ | refine T.dany ?_ ?_); exact mix)); simp only [Yg, Z3, Z6, Vc.exK, Zk, Zn, Zh, Zi, Z2, Xq, Y7, Z4, Zj, Zl, Z5, Zm, Zo, Xo, Yb, Xn, Vc.ev, Vc.st, Vc.stq, Vc.gst, Xk, St.rd, St.get, St.put, St.find, Zb, St.new, Vc.gdc, Zv, Yv, Yw, Yu, Xl, Z0, Zy, Yn, Yi, Vc.S1.cells, Vc.upd, Vc.del, Zg, Vc.noV, Kd.enc, Kd.dec, Ins.cells, Ln.cells, Zs, Yd, Yq, Ye, Y4, Vc.rvs, Xe, Zf, Xb, Y2, Y6, Xa, Xg, Xf, Yo, Xi, Ya, Z1, Zd, Zz, Vc.kdL, Xr, Y3, Xj, Z7, SV.bd, Vc.S1.bd, At.bd, Value.oneCell', Int.reduceEq, Int.reduceNeg, Int.reduceLE, Int.reduceLT, Vc.lenOf, Yp, Xh, Z8, Vc.atK, Z9, Vc.unK, Vc.wfK, Zx, Zu, Zw, Zc, Yf, Zt, Ze, Yt, Vc.sg, Y1, Y8, Xd, Xc, Zr, Res.own, At.sub, Vc.S1.sub, SV.sub, Res.sub, Xm, Xp, Ys, Yx, Yr, Vc.frS, Kd.sz, Nat.reduceSub, ↓reduceIte, reduceCtorEq, Nat.reduceEqDiff, Nat.reduceAdd, Nat.reduceMul, Nat.reduceLeDiff, Nat.reduceLT, Nat.reduceBEq, Nat.reduceBNe, implies_true, Xs, Ym.rs, Ym.res, hd, hj, hw, Int.ofNat_lt]) | (with_reducible first | refine T.seq ?_ | refine T.block ?_ | assumption | refine And.intro ?_ ?_) | (intro h; first | (exfalso; omega) | exact (tf h ‹_›).elim | exact (tf ‹_› h).elim | skip))
      all_goals first | omega | skip
      exact ⟨⟨(1, lo, 0, 0), ha, .inr (.inl ⟨rfl, rfl, hrun⟩)⟩, (Ent.mk (id) (by simp [Za, Zp, Vc.bnd, St.get, St.find, Zb, SV.ren, Vc.S1.ren, At.ren, Res.ren, SV.bd, Vc.S1.bd, At.bd, Res.bd, Vc.upd, Vc.del, Kd.enc, Value.oneCell', hd]) (by simp [Za, Zp, Vc.bnd, St.get, St.find, Zb, SV.ren, Vc.S1.ren, At.ren, Res.ren, SV.bd, Vc.S1.bd, At.bd, Res.bd, Vc.upd, Vc.del, Kd.enc, Value.oneCell', hd]) (by simp [Za, Zp, Vc.bnd, St.get, St.find, Zb, SV.ren, Vc.S1.ren, At.ren, Res.ren, SV.bd, Vc.S1.bd, At.bd, Res.bd, Vc.upd, Vc.del, Kd.enc, Value.oneCell', hd]) (by simp [Za, Zp, Vc.bnd, St.get, St.find, Zb, SV.ren, Vc.S1.ren, At.ren, Res.ren, SV.bd, Vc.S1.bd, At.bd, Res.bd, Vc.upd, Vc.del, Kd.enc, Value.oneCell', hd])), by simp only; omega⟩
    · rw [hd] at hrun
      by_cases hlt : lo < raw.length
      · obtain ⟨p, hpl, hpg, hdrop⟩ := hpe hlt
        rw [hdrop] at hrun
        have hne : ¬ ((raw.length - lo : Nat) : Int) = 0 := by omega
        have hT := Sr G H p hpl
        have htl := V8 p
        generalize trimB p = q at hT hrun htl
        cases hv : Tr q with
        | none =>
          rw [O8 hv] at hrun
          simp only at hrun
          obtain ⟨m, hN⟩ := Qw G H hv (by omega)
          repeat' (first | ((first | (with_reducible first | refine T.regs ?_ | refine T.cond ?_ | refine T.reg ?_ | refine T.ret ?_ | refine T.exit ?_ | refine T.skip ?_) | ((with_reducible first | refine T.dregs ?_ ?_ | refine T.dreg ?_ ?_ | refine T.dregts ?_ ?_ | refine T.dregt ?_ ?_ | refine T.danys ?_ ?_ | refine T.dany ?_ ?_); exact mix) | ((with_reducible refine Zq.gcp hglob (hT) ?_ ?_); (focus ((simp [Yz, X3, Vc.mtR, Vc.roA, Vc.roM, X1, X4, Xz, X2, Xy, Vc.fnM, Zs, St.find, Zb, Vc.del, Zr, Res.own, Vc.sg, Zx, Zu, Zw, Zc, Zt, Ze, At.sub, Vc.S1.sub, Res.sub, Kd.enc, Ins.cells, Ln.cells, Value.oneCell', Y5, List.nodup_cons]); done))) | ((with_reducible refine Zq.gcp hglob (hN) ?_ ?_); (focus ((simp [Yz, X3, Vc.mtR, Vc.roA, Vc.roM, X1, X4, Xz, X2, Xy, Vc.fnM, Zs, St.find, Zb, Vc.del, Zr, Res.own, Vc.sg, Zx, Zu, Zw, Zc, Zt, Ze, At.sub, Vc.S1.sub, Res.sub, Kd.enc, Ins.cells, Ln.cells, Value.oneCell', Y5, List.nodup_cons]); done)))); simp only [Yg, Z3, Z6, Vc.exK, Zk, Zn, Zh, Zi, Z2, Xq, Y7, Z4, Zj, Zl, Z5, Zm, Zo, Xo, Yb, Xn, Vc.ev, Vc.st, Vc.stq, Vc.gst, Xk, St.rd, St.get, St.put, St.find, Zb, St.new, Vc.gdc, Zv, Yv, Yw, Yu, Xl, Z0, Zy, Yn, Yi, Vc.S1.cells, Vc.upd, Vc.del, Zg, Vc.noV, Kd.enc, Kd.dec, Ins.cells, Ln.cells, Zs, Yd, Yq, Ye, Y4, Vc.rvs, Xe, Zf, Xb, Y2, Y6, Xa, Xg, Xf, Yo, Xi, Ya, Z1, Zd, Zz, Vc.kdL, Xr, Y3, Xj, Z7, SV.bd, Vc.S1.bd, At.bd, Value.oneCell', Int.reduceEq, Int.reduceNeg, Int.reduceLE, Int.reduceLT, Vc.lenOf, Yp, Xh, Z8, Vc.atK, Z9, Vc.unK, Vc.wfK, Zx, Zu, Zw, Zc, Yf, Zt, Ze, Yt, Vc.sg, Y1, Y8, Xd, Xc, Zr, Res.own, At.sub, Vc.S1.sub, SV.sub, Res.sub, Xm, Xp, Ys, Yx, Yr, Vc.frS, Kd.sz, Nat.reduceSub, ↓reduceIte, reduceCtorEq, Nat.reduceEqDiff, Nat.reduceAdd, Nat.reduceMul, Nat.reduceLeDiff, Nat.reduceLT, Nat.reduceBEq, Nat.reduceBNe, implies_true, Xs, Ym.rs, Ym.res, hd, hj, hw, hpg, hne, hz1, Int.ofNat_lt]) | (with_reducible first | refine T.seq ?_ | refine T.block ?_ | assumption | refine And.intro ?_ ?_) | (intro h; first | (exfalso; omega) | exact (tf h ‹_›).elim | exact (tf ‹_› h).elim | skip))
          all_goals first | omega | skip
          all_goals exact hE _ hrun.symm _ rfl rfl rfl rfl
        | some n =>
          rw [Qe hv] at hrun
          simp only at hrun
          have hN := Rh G H hv
          repeat' (first | ((first | (with_reducible first | refine T.regs ?_ | refine T.cond ?_ | refine T.reg ?_ | refine T.ret ?_ | refine T.exit ?_ | refine T.skip ?_) | ((with_reducible first | refine T.dregs ?_ ?_ | refine T.dreg ?_ ?_ | refine T.dregts ?_ ?_ | refine T.dregt ?_ ?_ | refine T.danys ?_ ?_ | refine T.dany ?_ ?_); exact mix) | ((with_reducible refine Zq.gcp hglob (hT) ?_ ?_); (focus ((simp [Yz, X3, Vc.mtR, Vc.roA, Vc.roM, X1, X4, Xz, X2, Xy, Vc.fnM, Zs, St.find, Zb, Vc.del, Zr, Res.own, Vc.sg, Zx, Zu, Zw, Zc, Zt, Ze, At.sub, Vc.S1.sub, Res.sub, Kd.enc, Ins.cells, Ln.cells, Value.oneCell', Y5, List.nodup_cons]); done))) | ((with_reducible refine Zq.gcp hglob (hN) ?_ ?_); (focus ((simp [Yz, X3, Vc.mtR, Vc.roA, Vc.roM, X1, X4, Xz, X2, Xy, Vc.fnM, Zs, St.find, Zb, Vc.del, Zr, Res.own, Vc.sg, Zx, Zu, Zw, Zc, Zt, Ze, At.sub, Vc.S1.sub, Res.sub, Kd.enc, Ins.cells, Ln.cells, Value.oneCell', Y5, List.nodup_cons]); done)))); simp only [Yg, Z3, Z6, Vc.exK, Zk, Zn, Zh, Zi, Z2, Xq, Y7, Z4, Zj, Zl, Z5, Zm, Zo, Xo, Yb, Xn, Vc.ev, Vc.st, Vc.stq, Vc.gst, Xk, St.rd, St.get, St.put, St.find, Zb, St.new, Vc.gdc, Zv, Yv, Yw, Yu, Xl, Z0, Zy, Yn, Yi, Vc.S1.cells, Vc.upd, Vc.del, Zg, Vc.noV, Kd.enc, Kd.dec, Ins.cells, Ln.cells, Zs, Yd, Yq, Ye, Y4, Vc.rvs, Xe, Zf, Xb, Y2, Y6, Xa, Xg, Xf, Yo, Xi, Ya, Z1, Zd, Zz, Vc.kdL, Xr, Y3, Xj, Z7, SV.bd, Vc.S1.bd, At.bd, Value.oneCell', Int.reduceEq, Int.reduceNeg, Int.reduceLE, Int.reduceLT, Vc.lenOf, Yp, Xh, Z8, Vc.atK, Z9, Vc.unK, Vc.wfK, Zx, Zu, Zw, Zc, Yf, Zt, Ze, Yt, Vc.sg, Y1, Y8, Xd, Xc, Zr, Res.own, At.sub, Vc.S1.sub, SV.sub, Res.sub, Xm, Xp, Ys, Yx, Yr, Vc.frS, Kd.sz, Nat.reduceSub, ↓reduceIte, reduceCtorEq, Nat.reduceEqDiff, Nat.reduceAdd, Nat.reduceMul, Nat.reduceLeDiff, Nat.reduceLT, Nat.reduceBEq, Nat.reduceBNe, implies_true, Xs, Ym.rs, Ym.res, hd, hj, hw, hpg, hne, hz1, hz2, hvl, Int.ofNat_lt]) | (with_reducible first | refine T.seq ?_ | refine T.block ?_ | assumption | refine And.intro ?_ ?_) | (intro h; first | (exfalso; omega) | exact (tf h ‹_›).elim | exact (tf ‹_› h).elim | skip))
          all_goals first | omega | skip
          all_goals exact ⟨⟨(1, lo + 1, n, 0), hlt, .inr (.inl ⟨rfl, rfl, hrun⟩)⟩, (Ent.mk (fun n => if n = 2 then 5 else n) (by simp [Za, Zp, Vc.bnd, St.get, St.find, Zb, SV.ren, Vc.S1.ren, At.ren, Res.ren, SV.bd, Vc.S1.bd, At.bd, Res.bd, Vc.upd, Vc.del, Kd.enc, Value.oneCell', hd]) (by simp [Za, Zp, Vc.bnd, St.get, St.find, Zb, SV.ren, Vc.S1.ren, At.ren, Res.ren, SV.bd, Vc.S1.bd, At.bd, Res.bd, Vc.upd, Vc.del, Kd.enc, Value.oneCell', hd]) (by simp [Za, Zp, Vc.bnd, St.get, St.find, Zb, SV.ren, Vc.S1.ren, At.ren, Res.ren, SV.bd, Vc.S1.bd, At.bd, Res.bd, Vc.upd, Vc.del, Kd.enc, Value.oneCell', hd]) (by simp [Za, Zp, Vc.bnd, St.get, St.find, Zb, SV.ren, Vc.S1.ren, At.ren, Res.ren, SV.bd, Vc.S1.bd, At.bd, Res.bd, Vc.upd, Vc.del, Kd.enc, Value.oneCell', hd])), by simp only; omega⟩
      · have hae : lo = raw.length := by omega
        have hd0 : raw.drop lo = [] := by rw [hae]; exact List.drop_length
        rw [hd0, List.map_nil, Nc] at hrun
        simp only at hrun
        have heq : ((raw.length - lo : Nat) : Int) = 0 := by omega
        repeat' (first | ((first | (with_reducible first | refine T.regs ?_ | refine T.cond ?_ | refine T.reg ?_ | refine T.ret ?_ | refine T.exit ?_ | refine T.skip ?_) | ((with_reducible first | refine T.dregs ?_ ?_ | refine T.dreg ?_ ?_ | refine T.dregts ?_ ?_ | refine T.dregt ?_ ?_ | refine T.danys ?_ ?_ | refine T.dany ?_ ?_); exact mix)); simp only [Yg, Z3, Z6, Vc.exK, Zk, Zn, Zh, Zi, Z2, Xq, Y7, Z4, Zj, Zl, Z5, Zm, Zo, Xo, Yb, Xn, Vc.ev, Vc.st, Vc.stq, Vc.gst, Xk, St.rd, St.get, St.put, St.find, Zb, St.new, Vc.gdc, Zv, Yv, Yw, Yu, Xl, Z0, Zy, Yn, Yi, Vc.S1.cells, Vc.upd, Vc.del, Zg, Vc.noV, Kd.enc, Kd.dec, Ins.cells, Ln.cells, Zs, Yd, Yq, Ye, Y4, Vc.rvs, Xe, Zf, Xb, Y2, Y6, Xa, Xg, Xf, Yo, Xi, Ya, Z1, Zd, Zz, Vc.kdL, Xr, Y3, Xj, Z7, SV.bd, Vc.S1.bd, At.bd, Value.oneCell', Int.reduceEq, Int.reduceNeg, Int.reduceLE, Int.reduceLT, Vc.lenOf, Yp, Xh, Z8, Vc.atK, Z9, Vc.unK, Vc.wfK, Zx, Zu, Zw, Zc, Yf, Zt, Ze, Yt, Vc.sg, Y1, Y8, Xd, Xc, Zr, Res.own, At.sub, Vc.S1.sub, SV.sub, Res.sub, Xm, Xp, Ys, Yx, Yr, Vc.frS, Kd.sz, Nat.reduceSub, ↓reduceIte, reduceCtorEq, Nat.reduceEqDiff, Nat.reduceAdd, Nat.reduceMul, Nat.reduceLeDiff, Nat.reduceLT, Nat.reduceBEq, Nat.reduceBNe, implies_true, Xs, Ym.rs, Ym.res, hd, hj, hw, heq, Int.ofNat_lt]) | (with_reducible first | refine T.seq ?_ | refine T.block ?_ | assumption | refine And.intro ?_ ?_) | (intro h; first | (exfalso; omega) | exact (tf h ‹_›).elim | exact (tf ‹_› h).elim | skip))
        all_goals first | omega | skip
        all_goals exact hE _ hrun.symm _ rfl rfl rfl rfl
  · obtain rfl : s = 0 := hz
    have hj : ((((1 : Nat) : Int)).toNat : Nat) = 1 := rfl
    have hw : IntKind.i64.wrap (((1 : Nat) : Int) + 1) = ((2 : Nat) : Int) := Va (by omega)
    unfold Jw at hrun
    cases hd : Ue op
    · rw [hd] at hrun
      rw [M1] at hrun
      simp only at hrun
      repeat' (first | ((first | (with_reducible first | refine T.regs ?_ | refine T.cond ?_ | refine T.reg ?_ | refine T.ret ?_ | refine T.exit ?_ | refine T.skip ?_) | ((with_reducible first | refine T.dregs ?_ ?_ | refine T.dreg ?_ ?_ | refine T.dregts ?_ ?_ | refine T.dregt ?_ ?_ | refine T.danys ?_ ?_ | refine T.dany ?_ ?_); exact mix)); simp only [Yg, Z3, Z6, Vc.exK, Zk, Zn, Zh, Zi, Z2, Xq, Y7, Z4, Zj, Zl, Z5, Zm, Zo, Xo, Yb, Xn, Vc.ev, Vc.st, Vc.stq, Vc.gst, Xk, St.rd, St.get, St.put, St.find, Zb, St.new, Vc.gdc, Zv, Yv, Yw, Yu, Xl, Z0, Zy, Yn, Yi, Vc.S1.cells, Vc.upd, Vc.del, Zg, Vc.noV, Kd.enc, Kd.dec, Ins.cells, Ln.cells, Zs, Yd, Yq, Ye, Y4, Vc.rvs, Xe, Zf, Xb, Y2, Y6, Xa, Xg, Xf, Yo, Xi, Ya, Z1, Zd, Zz, Vc.kdL, Xr, Y3, Xj, Z7, SV.bd, Vc.S1.bd, At.bd, Value.oneCell', Int.reduceEq, Int.reduceNeg, Int.reduceLE, Int.reduceLT, Vc.lenOf, Yp, Xh, Z8, Vc.atK, Z9, Vc.unK, Vc.wfK, Zx, Zu, Zw, Zc, Yf, Zt, Ze, Yt, Vc.sg, Y1, Y8, Xd, Xc, Zr, Res.own, At.sub, Vc.S1.sub, SV.sub, Res.sub, Xm, Xp, Ys, Yx, Yr, Vc.frS, Kd.sz, Nat.reduceSub, ↓reduceIte, reduceCtorEq, Nat.reduceEqDiff, Nat.reduceAdd, Nat.reduceMul, Nat.reduceLeDiff, Nat.reduceLT, Nat.reduceBEq, Nat.reduceBNe, implies_true, Xs, Ym.rs, Ym.res, hd, hj, hw, Int.ofNat_lt]) | (with_reducible first | refine T.seq ?_ | refine T.block ?_ | assumption | refine And.intro ?_ ?_) | (intro h; first | (exfalso; omega) | exact (tf h ‹_›).elim | exact (tf ‹_› h).elim | skip))
      all_goals first | omega | skip
      exact ⟨⟨(2, lo, d, 0), ha, .inr (.inr ⟨rfl, hrun⟩)⟩, (Ent.mk (id) (by simp [Za, Zp, Vc.bnd, St.get, St.find, Zb, SV.ren, Vc.S1.ren, At.ren, Res.ren, SV.bd, Vc.S1.bd, At.bd, Res.bd, Vc.upd, Vc.del, Kd.enc, Value.oneCell', hd]) (by simp [Za, Zp, Vc.bnd, St.get, St.find, Zb, SV.ren, Vc.S1.ren, At.ren, Res.ren, SV.bd, Vc.S1.bd, At.bd, Res.bd, Vc.upd, Vc.del, Kd.enc, Value.oneCell', hd]) (by simp [Za, Zp, Vc.bnd, St.get, St.find, Zb, SV.ren, Vc.S1.ren, At.ren, Res.ren, SV.bd, Vc.S1.bd, At.bd, Res.bd, Vc.upd, Vc.del, Kd.enc, Value.oneCell', hd]) (by simp [Za, Zp, Vc.bnd, St.get, St.find, Zb, SV.ren, Vc.S1.ren, At.ren, Res.ren, SV.bd, Vc.S1.bd, At.bd, Res.bd, Vc.upd, Vc.del, Kd.enc, Value.oneCell', hd])), by simp only; omega⟩
    · rw [hd] at hrun
      by_cases hlt : lo < raw.length
      · obtain ⟨p, hpl, hpg, hdrop⟩ := hpe hlt
        rw [hdrop] at hrun
        have hne : ¬ ((raw.length - lo : Nat) : Int) = 0 := by omega
        have hT := Sr G H p hpl
        have htl := V8 p
        generalize trimB p = q at hT hrun htl
        cases hv : Tr q with
        | none =>
          rw [O8 hv] at hrun
          simp only at hrun
          obtain ⟨m, hN⟩ := Qw G H hv (by omega)
          repeat' (first | ((first | (with_reducible first | refine T.regs ?_ | refine T.cond ?_ | refine T.reg ?_ | refine T.ret ?_ | refine T.exit ?_ | refine T.skip ?_) | ((with_reducible first | refine T.dregs ?_ ?_ | refine T.dreg ?_ ?_ | refine T.dregts ?_ ?_ | refine T.dregt ?_ ?_ | refine T.danys ?_ ?_ | refine T.dany ?_ ?_); exact mix) | ((with_reducible refine Zq.gcp hglob (hT) ?_ ?_); (focus ((simp [Yz, X3, Vc.mtR, Vc.roA, Vc.roM, X1, X4, Xz, X2, Xy, Vc.fnM, Zs, St.find, Zb, Vc.del, Zr, Res.own, Vc.sg, Zx, Zu, Zw, Zc, Zt, Ze, At.sub, Vc.S1.sub, Res.sub, Kd.enc, Ins.cells, Ln.cells, Value.oneCell', Y5, List.nodup_cons]); done))) | ((with_reducible refine Zq.gcp hglob (hN) ?_ ?_); (focus ((simp [Yz, X3, Vc.mtR, Vc.roA, Vc.roM, X1, X4, Xz, X2, Xy, Vc.fnM, Zs, St.find, Zb, Vc.del, Zr, Res.own, Vc.sg, Zx, Zu, Zw, Zc, Zt, Ze, At.sub, Vc.S1.sub, Res.sub, Kd.enc, Ins.cells, Ln.cells, Value.oneCell', Y5, List.nodup_cons]); done)))); simp only [Yg, Z3, Z6, Vc.exK, Zk, Zn, Zh, Zi, Z2, Xq, Y7, Z4, Zj, Zl, Z5, Zm, Zo, Xo, Yb, Xn, Vc.ev, Vc.st, Vc.stq, Vc.gst, Xk, St.rd, St.get, St.put, St.find, Zb, St.new, Vc.gdc, Zv, Yv, Yw, Yu, Xl, Z0, Zy, Yn, Yi, Vc.S1.cells, Vc.upd, Vc.del, Zg, Vc.noV, Kd.enc, Kd.dec, Ins.cells, Ln.cells, Zs, Yd, Yq, Ye, Y4, Vc.rvs, Xe, Zf, Xb, Y2, Y6, Xa, Xg, Xf, Yo, Xi, Ya, Z1, Zd, Zz, Vc.kdL, Xr, Y3, Xj, Z7, SV.bd, Vc.S1.bd, At.bd, Value.oneCell', Int.reduceEq, Int.reduceNeg, Int.reduceLE, Int.reduceLT, Vc.lenOf, Yp, Xh, Z8, Vc.atK, Z9, Vc.unK, Vc.wfK, Zx, Zu, Zw, Zc, Yf, Zt, Ze, Yt, Vc.sg, Y1, Y8, Xd, Xc, Zr, Res.own, At.sub, Vc.S1.sub, SV.sub, Res.sub, Xm, Xp, Ys, Yx, Yr, Vc.frS, Kd.sz, Nat.reduceSub, ↓reduceIte, reduceCtorEq, Nat.reduceEqDiff, Nat.reduceAdd, Nat.reduceMul, Nat.reduceLeDiff, Nat.reduceLT, Nat.reduceBEq, Nat.reduceBNe, implies_true, Xs, Ym.rs, Ym.res, hd, hj, hw, hpg, hne, hz1, Int.ofNat_lt]) | (with_reducible first | refine T.seq ?_ | refine T.block ?_ | assumption | refine And.intro ?_ ?_) | (intro h; first | (exfalso; omega) | exact (tf h ‹_›).elim | exact (tf ‹_› h).elim | skip))
          all_goals first | omega | skip
          all_goals exact hE _ hrun.symm _ rfl rfl rfl rfl
        | some n =>
          rw [Qe hv] at hrun
          simp only at hrun
          have hN := Rh G H hv
          repeat' (first | ((first | (with_reducible first | refine T.regs ?_ | refine T.cond ?_ | refine T.reg ?_ | refine T.ret ?_ | refine T.exit ?_ | refine T.skip ?_) | ((with_reducible first | refine T.dregs ?_ ?_ | refine T.dreg ?_ ?_ | refine T.dregts ?_ ?_ | refine T.dregt ?_ ?_ | refine T.danys ?_ ?_ | refine T.dany ?_ ?_); exact mix) | ((with_reducible refine Zq.gcp hglob (hT) ?_ ?_); (focus ((simp [Yz, X3, Vc.mtR, Vc.roA, Vc.roM, X1, X4, Xz, X2, Xy, Vc.fnM, Zs, St.find, Zb, Vc.del, Zr, Res.own, Vc.sg, Zx, Zu, Zw, Zc, Zt, Ze, At.sub, Vc.S1.sub, Res.sub, Kd.enc, Ins.cells, Ln.cells, Value.oneCell', Y5, List.nodup_cons]); done))) | ((with_reducible refine Zq.gcp hglob (hN) ?_ ?_); (focus ((simp [Yz, X3, Vc.mtR, Vc.roA, Vc.roM, X1, X4, Xz, X2, Xy, Vc.fnM, Zs, St.find, Zb, Vc.del, Zr, Res.own, Vc.sg, Zx, Zu, Zw, Zc, Zt, Ze, At.sub, Vc.S1.sub, Res.sub, Kd.enc, Ins.cells, Ln.cells, Value.oneCell', Y5, List.nodup_cons]); done)))); simp only [Yg, Z3, Z6, Vc.exK, Zk, Zn, Zh, Zi, Z2, Xq, Y7, Z4, Zj, Zl, Z5, Zm, Zo, Xo, Yb, Xn, Vc.ev, Vc.st, Vc.stq, Vc.gst, Xk, St.rd, St.get, St.put, St.find, Zb, St.new, Vc.gdc, Zv, Yv, Yw, Yu, Xl, Z0, Zy, Yn, Yi, Vc.S1.cells, Vc.upd, Vc.del, Zg, Vc.noV, Kd.enc, Kd.dec, Ins.cells, Ln.cells, Zs, Yd, Yq, Ye, Y4, Vc.rvs, Xe, Zf, Xb, Y2, Y6, Xa, Xg, Xf, Yo, Xi, Ya, Z1, Zd, Zz, Vc.kdL, Xr, Y3, Xj, Z7, SV.bd, Vc.S1.bd, At.bd, Value.oneCell', Int.reduceEq, Int.reduceNeg, Int.reduceLE, Int.reduceLT, Vc.lenOf, Yp, Xh, Z8, Vc.atK, Z9, Vc.unK, Vc.wfK, Zx, Zu, Zw, Zc, Yf, Zt, Ze, Yt, Vc.sg, Y1, Y8, Xd, Xc, Zr, Res.own, At.sub, Vc.S1.sub, SV.sub, Res.sub, Xm, Xp, Ys, Yx, Yr, Vc.frS, Kd.sz, Nat.reduceSub, ↓reduceIte, reduceCtorEq, Nat.reduceEqDiff, Nat.reduceAdd, Nat.reduceMul, Nat.reduceLeDiff, Nat.reduceLT, Nat.reduceBEq, Nat.reduceBNe, implies_true, Xs, Ym.rs, Ym.res, hd, hj, hw, hpg, hne, hz1, hz2, hvl, Int.ofNat_lt]) | (with_reducible first | refine T.seq ?_ | refine T.block ?_ | assumption | refine And.intro ?_ ?_) | (intro h; first | (exfalso; omega) | exact (tf h ‹_›).elim | exact (tf ‹_› h).elim | skip))
          all_goals first | omega | skip
          all_goals exact ⟨⟨(2, lo + 1, d, n), hlt, .inr (.inr ⟨rfl, hrun⟩)⟩, (Ent.mk (fun n => if n = 2 then 5 else n) (by simp [Za, Zp, Vc.bnd, St.get, St.find, Zb, SV.ren, Vc.S1.ren, At.ren, Res.ren, SV.bd, Vc.S1.bd, At.bd, Res.bd, Vc.upd, Vc.del, Kd.enc, Value.oneCell', hd]) (by simp [Za, Zp, Vc.bnd, St.get, St.find, Zb, SV.ren, Vc.S1.ren, At.ren, Res.ren, SV.bd, Vc.S1.bd, At.bd, Res.bd, Vc.upd, Vc.del, Kd.enc, Value.oneCell', hd]) (by simp [Za, Zp, Vc.bnd, St.get, St.find, Zb, SV.ren, Vc.S1.ren, At.ren, Res.ren, SV.bd, Vc.S1.bd, At.bd, Res.bd, Vc.upd, Vc.del, Kd.enc, Value.oneCell', hd]) (by simp [Za, Zp, Vc.bnd, St.get, St.find, Zb, SV.ren, Vc.S1.ren, At.ren, Res.ren, SV.bd, Vc.S1.bd, At.bd, Res.bd, Vc.upd, Vc.del, Kd.enc, Value.oneCell', hd])), by simp only; omega⟩
      · have hae : lo = raw.length := by omega
        have hd0 : raw.drop lo = [] := by rw [hae]; exact List.drop_length
        rw [hd0, List.map_nil, Nc] at hrun
        simp only at hrun
        have heq : ((raw.length - lo : Nat) : Int) = 0 := by omega
        repeat' (first | ((first | (with_reducible first | refine T.regs ?_ | refine T.cond ?_ | refine T.reg ?_ | refine T.ret ?_ | refine T.exit ?_ | refine T.skip ?_) | ((with_reducible first | refine T.dregs ?_ ?_ | refine T.dreg ?_ ?_ | refine T.dregts ?_ ?_ | refine T.dregt ?_ ?_ | refine T.danys ?_ ?_ | refine T.dany ?_ ?_); exact mix)); simp only [Yg, Z3, Z6, Vc.exK, Zk, Zn, Zh, Zi, Z2, Xq, Y7, Z4, Zj, Zl, Z5, Zm, Zo, Xo, Yb, Xn, Vc.ev, Vc.st, Vc.stq, Vc.gst, Xk, St.rd, St.get, St.put, St.find, Zb, St.new, Vc.gdc, Zv, Yv, Yw, Yu, Xl, Z0, Zy, Yn, Yi, Vc.S1.cells, Vc.upd, Vc.del, Zg, Vc.noV, Kd.enc, Kd.dec, Ins.cells, Ln.cells, Zs, Yd, Yq, Ye, Y4, Vc.rvs, Xe, Zf, Xb, Y2, Y6, Xa, Xg, Xf, Yo, Xi, Ya, Z1, Zd, Zz, Vc.kdL, Xr, Y3, Xj, Z7, SV.bd, Vc.S1.bd, At.bd, Value.oneCell', Int.reduceEq, Int.reduceNeg, Int.reduceLE, Int.reduceLT, Vc.lenOf, Yp, Xh, Z8, Vc.atK, Z9, Vc.unK, Vc.wfK, Zx, Zu, Zw, Zc, Yf, Zt, Ze, Yt, Vc.sg, Y1, Y8, Xd, Xc, Zr, Res.own, At.sub, Vc.S1.sub, SV.sub, Res.sub, Xm, Xp, Ys, Yx, Yr, Vc.frS, Kd.sz, Nat.reduceSub, ↓reduceIte, reduceCtorEq, Nat.reduceEqDiff, Nat.reduceAdd, Nat.reduceMul, Nat.reduceLeDiff, Nat.reduceLT, Nat.reduceBEq, Nat.reduceBNe, implies_true, Xs, Ym.rs, Ym.res, hd, hj, hw, heq, Int.ofNat_lt]) | (with_reducible first | refine T.seq ?_ | refine T.block ?_ | assumption | refine And.intro ?_ ?_) | (intro h; first | (exfalso; omega) | exact (tf h ‹_›).elim | exact (tf ‹_› h).elim | skip))
        all_goals first | omega | skip
        all_goals exact hE _ hrun.symm _ rfl rfl rfl rfl
  · repeat' (first | ((first | (with_reducible first | refine T.regs ?_ | refine T.cond ?_ | refine T.reg ?_ | refine T.ret ?_ | refine T.exit ?_ | refine T.skip ?_) | ((with_reducible first | refine T.dregs ?_ ?_ | refine T.dreg ?_ ?_ | refine T.dregts ?_ ?_ | refine T.dregt ?_ ?_ | refine T.danys ?_ ?_ | refine T.dany ?_ ?_); exact mix)); simp only [Yg, Z3, Z6, Vc.exK, Zk, Zn, Zh, Zi, Z2, Xq, Y7, Z4, Zj, Zl, Z5, Zm, Zo, Xo, Yb, Xn, Vc.ev, Vc.st, Vc.stq, Vc.gst, Xk, St.rd, St.get, St.put, St.find, Zb, St.new, Vc.gdc, Zv, Yv, Yw, Yu, Xl, Z0, Zy, Yn, Yi, Vc.S1.cells, Vc.upd, Vc.del, Zg, Vc.noV, Kd.enc, Kd.dec, Ins.cells, Ln.cells, Zs, Yd, Yq, Ye, Y4, Vc.rvs, Xe, Zf, Xb, Y2, Y6, Xa, Xg, Xf, Yo, Xi, Ya, Z1, Zd, Zz, Vc.kdL, Xr, Y3, Xj, Z7, SV.bd, Vc.S1.bd, At.bd, Value.oneCell', Int.reduceEq, Int.reduceNeg, Int.reduceLE, Int.reduceLT, Vc.lenOf, Yp, Xh, Z8, Vc.atK, Z9, Vc.unK, Vc.wfK, Zx, Zu, Zw, Zc, Yf, Zt, Ze, Yt, Vc.sg, Y1, Y8, Xd, Xc, Zr, Res.own, At.sub, Vc.S1.sub, SV.sub, Res.sub, Xm, Xp, Ys, Yx, Yr, Vc.frS, Kd.sz, Nat.reduceSub, ↓reduceIte, reduceCtorEq, Nat.reduceEqDiff, Nat.reduceAdd, Nat.reduceMul, Nat.reduceLeDiff, Nat.reduceLT, Nat.reduceBEq, Nat.reduceBNe, implies_true, Xs, Ym.rs, Ym.res, Int.ofNat_lt]) | (with_reducible first | refine T.seq ?_ | refine T.block ?_ | assumption | refine And.intro ?_ ?_) | (intro h; first | (exfalso; omega) | exact (tf h ‹_›).elim | exact (tf ‹_› h).elim | skip))
    all_goals first | omega | skip
    exact hQ lo d s ha hrun _ (Ent.mk (id) (by simp [Za, Zp, Vc.bnd, St.get, St.find, Zb, SV.ren, Vc.S1.ren, At.ren, Res.ren, SV.bd, Vc.S1.bd, At.bd, Res.bd, Vc.upd, Vc.del, Kd.enc, Value.oneCell']) (by simp [Za, Zp, Vc.bnd, St.get, St.find, Zb, SV.ren, Vc.S1.ren, At.ren, Res.ren, SV.bd, Vc.S1.bd, At.bd, Res.bd, Vc.upd, Vc.del, Kd.enc, Value.oneCell']) (by simp [Za, Zp, Vc.bnd, St.get, St.find, Zb, SV.ren, Vc.S1.ren, At.ren, Res.ren, SV.bd, Vc.S1.bd, At.bd, Res.bd, Vc.upd, Vc.del, Kd.enc, Value.oneCell']) (by simp [Za, Zp, Vc.bnd, St.get, St.find, Zb, SV.ren, Vc.S1.ren, At.ren, Res.ren, SV.bd, Vc.S1.bd, At.bd, Res.bd, Vc.upd, Vc.del, Kd.enc, Value.oneCell']))
end Go.Proofs.YtccjjcdjgibilaaGreatDoor
