/-
  A part of the proofs of this seat's laws: a step on the way. It has no conditions of its own.
-/
import Derived.Test.YtjochhncheheaaaGreatDoorReadF
namespace Go.Proofs.YtjochhncheheaaaGreatDoor
open Go Go.RowKit Vc
set_option linter.unusedVariables false
set_option linter.unusedSimpArgs false
attribute [local irreducible] T Za Z2 Ent RdC RwC Xl Zc Zs
theorem Rd (G : Nat) (H : Nat → Option Obj) (s : List UInt8) (hs : s.length ≤ 2000000) :
    GCp G H Tryz.prog 65 [.a (.str s), .a (.str [32, 9])] [] 0 [] (.one (.a (.str (trimB s)))) [] 0 :=
  O8 G H s [32, 9] (by omega) (by decide) (by decide)
set_option maxHeartbeats 16000000 in
set_option maxRecDepth 100000 in
theorem N0 {G : Nat} {H : Nat → Option Obj} {w : World} {X : List Nat} {fr : List Value} {Q : Exit → St → Prop} (hglob : X3 G H w X) (op : Int) (raw : List (List UInt8)) (hlen : raw.length ≤ 3000000) (hps : ∀ p ∈ raw, p.length ≤ 2000000)
    (hQ : ∀ (lo d s : Nat), lo ≤ raw.length → Mj op d s ((raw.drop lo).map trimB) = insV op (raw.map trimB) → ∀ S', Ent ⟨Tryz.prog, w, X, 149, fr⟩ S' ⟨[(11, .one (.a (.ref 2))), (14, .one (.a (.bool (Wh op)))), (10, .one (.a (.int .i64 op))), (2, .one (.a (.loc 0 0)))], [(0, .cells 40 [.str [], .int .i64 op, .int .i64 (d : Int), .int .i64 (s : Int), .int .i64 (0 : Int), .str []]), (1, .row 9 .str raw), (2, .view 1 1 lo raw.length)], 3⟩ → Q (.exit 0) S')
    (hE : ∀ e, insV op (raw.map trimB) = .error e → ∀ S' : St, Z1 S'.slots 2 = some (.one (.a (.loc 0 0))) → Z1 S'.slots 3 = some (.one (.a (.bool false))) → Z1 S'.slots 4 = some (.one (.a (.int .i64 e))) → Z1 S'.res 0 = some (.cells 40 [.str [], .int .i64 0, .int .i64 0, .int .i64 0, .int .i64 0, .str []]) → Q .ret S') :
    T ⟨Tryz.prog, w, X, 149, fr⟩ (.loop Zk.c34) Q ⟨[(84, .one (.a (.int .i64 0))), (83, .one (.a (.int .i64 2))), (82, .one (.a (.ref 3))), (11, .one (.a (.ref 2))), (14, .one (.a (.bool (Wh op)))), (10, .one (.a (.int .i64 op))), (2, .one (.a (.loc 0 0)))], [(0, .cells 40 [.str [], .int .i64 op, .int .i64 0, .int .i64 0, .int .i64 0, .str []]), (1, .row 9 .str raw), (2, .view 1 1 0 raw.length), (3, .lit 138 2 2 [.bool (V2 op), .loc 0 2, .bool (V1 op), .loc 0 3])], 4⟩ := by
  generalize hR : insV op (raw.map trimB) = R at hQ hE
  refine T.loop (ι := { p : Nat × Nat × Nat × Nat // p.2.1 ≤ raw.length ∧
      ((p.1 = 0 ∧ p.2.2 = (0, 0) ∧ insV op ((raw.drop p.2.1).map trimB) = R) ∨ (p.1 = 1 ∧ p.2.2.2 = 0 ∧ insS op p.2.2.1 ((raw.drop p.2.1).map trimB) = R) ∨ (p.1 = 2 ∧ Mj op p.2.2.1 p.2.2.2 ((raw.drop p.2.1).map trimB) = R)) })
    (fun y => ⟨[(84, .one (.a (.int .i64 (y.1.1 : Int)))), (83, .one (.a (.int .i64 2))), (82, .one (.a (.ref 3))), (11, .one (.a (.ref 2))), (14, .one (.a (.bool (Wh op)))), (10, .one (.a (.int .i64 op))), (2, .one (.a (.loc 0 0)))], [(0, .cells 40 [.str [], .int .i64 op, .int .i64 (y.1.2.2.1 : Int), .int .i64 (y.1.2.2.2 : Int), .int .i64 (0 : Int), .str []]), (1, .row 9 .str raw), (2, .view 1 1 y.1.2.1 raw.length), (3, .lit 138 2 2 [.bool (V2 op), .loc 0 2, .bool (V1 op), .loc 0 3])], 4⟩) (fun y => 2 - y.1.1) ⟨(0, 0, 0, 0), by simp, .inl ⟨rfl, rfl, by simpa using hR⟩⟩ (Ent.mk1 (id) (by simp [Z7])) ?_
  rintro ⟨⟨j, lo, d, s⟩, ha, hst⟩
  simp only at ha hst
  have hpe : lo < raw.length → ∃ p, p.length ≤ 2000000 ∧ raw.getD lo (Kd.dflt .str) = p ∧ (raw.drop lo).map trimB = trimB p :: (raw.drop (lo + 1)).map trimB := by
    intro hlt
    refine ⟨raw.getD lo [], hps _ (by simp [List.getD, hlt]), rfl, ?_⟩
    have hg : raw.getD lo [] = raw[lo] := by simp [List.getD, hlt]
    rw [hg, List.drop_eq_getElem_cons hlt, List.map_cons]
  have hz1 : lo + (0 : Int).toNat = lo := rfl
  have hz2 : lo + (1 : Int).toNat = lo + 1 := rfl
  have hvl : lo + (((raw.length - lo : Nat) : Int)).toNat = raw.length := by omega
  rcases hst with ⟨rfl, hz, hrun⟩ | ⟨rfl, hz, hrun⟩ | ⟨rfl, hrun⟩
  · obtain ⟨rfl, rfl⟩ : d = 0 ∧ s = 0 := by simpa using hz
    have hj : ((((0 : Nat) : Int)).toNat : Nat) = 0 := rfl
    have hw : IntKind.i64.wrap (((0 : Nat) : Int) + 1) = ((1 : Nat) : Int) := Z4 (by omega)
    rw [Gc] at hrun
    cases hd : V2 op
    · rw [hd] at hrun
      rw [Ko] at hrun
      simp only at hrun
      repeat' (first | ((first | (with_reducible first | refine T.regs ?_ | refine T.cond ?_ | refine T.reg ?_ | refine T.ret ?_ | refine T.exit ?_ | refine T.skip ?_) | ((with_reducible first | refine T.dregs ?_ ?_ | refine T.dreg ?_ ?_ | refine T.dregts ?_ ?_ | refine T.dregt ?_ ?_ | refine T.danys ?_ ?_ | refine T.dany ?_ ?_); exact mix)); simp only [Zh, Zi, Int.reduceEq, Int.reduceNeg, Int.reduceLE, Int.reduceLT, Nat.reduceSub, ↓reduceIte, reduceCtorEq, Nat.reduceEqDiff, Nat.reduceAdd, Nat.reduceMul, Nat.reduceLeDiff, Nat.reduceLT, Nat.reduceBEq, Nat.reduceBNe, implies_true, Zk.rs, Zk.res, hd, hj, hw, Int.ofNat_lt]) | (with_reducible first | refine T.seq ?_ | refine T.block ?_ | assumption | refine And.intro ?_ ?_) | (intro h; first | (exfalso; omega) | exact (tf h ‹_›).elim | exact (tf ‹_› h).elim | skip))
      all_goals first | omega | skip
      exact ⟨⟨(1, lo, 0, 0), ha, .inr (.inl ⟨rfl, rfl, hrun⟩)⟩, (Ent.mk1 (id) (by simp [Z7, hd])), by simp only; omega⟩
    · rw [hd] at hrun
      by_cases hlt : lo < raw.length
      · obtain ⟨p, hpl, hpg, hdrop⟩ := hpe hlt
        rw [hdrop] at hrun
        have hne : ¬ ((raw.length - lo : Nat) : Int) = 0 := by omega
        have hT := Rd G H p hpl
        have htl := Va p
        generalize trimB p = q at hT hrun htl
        cases hv : Sr q with
        | none =>
          rw [Mr hv] at hrun
          simp only at hrun
          obtain ⟨m, hN⟩ := P3 G H hv (by omega)
          repeat' (first | ((first | (with_reducible first | refine T.regs ?_ | refine T.cond ?_ | refine T.reg ?_ | refine T.ret ?_ | refine T.exit ?_ | refine T.skip ?_) | ((with_reducible first | refine T.dregs ?_ ?_ | refine T.dreg ?_ ?_ | refine T.dregts ?_ ?_ | refine T.dregt ?_ ?_ | refine T.danys ?_ ?_ | refine T.dany ?_ ?_); exact mix) | ((with_reducible refine Za.gcp hglob (hT) ?_ ?_); (focus ((simp [Zm]); done))) | ((with_reducible refine Za.gcp hglob (hN) ?_ ?_); (focus ((simp [Zm]); done)))); simp only [Zh, Zi, Int.reduceEq, Int.reduceNeg, Int.reduceLE, Int.reduceLT, Nat.reduceSub, ↓reduceIte, reduceCtorEq, Nat.reduceEqDiff, Nat.reduceAdd, Nat.reduceMul, Nat.reduceLeDiff, Nat.reduceLT, Nat.reduceBEq, Nat.reduceBNe, implies_true, Zk.rs, Zk.res, hd, hj, hw, hpg, hne, hz1, Int.ofNat_lt]) | (with_reducible first | refine T.seq ?_ | refine T.block ?_ | assumption | refine And.intro ?_ ?_) | (intro h; first | (exfalso; omega) | exact (tf h ‹_›).elim | exact (tf ‹_› h).elim | skip))
          all_goals first | omega | skip
          all_goals exact hE _ hrun.symm _ rfl rfl rfl rfl
        | some n =>
          rw [Le hv] at hrun
          simp only at hrun
          have hN := Qp G H hv
          repeat' (first | ((first | (with_reducible first | refine T.regs ?_ | refine T.cond ?_ | refine T.reg ?_ | refine T.ret ?_ | refine T.exit ?_ | refine T.skip ?_) | ((with_reducible first | refine T.dregs ?_ ?_ | refine T.dreg ?_ ?_ | refine T.dregts ?_ ?_ | refine T.dregt ?_ ?_ | refine T.danys ?_ ?_ | refine T.dany ?_ ?_); exact mix) | ((with_reducible refine Za.gcp hglob (hT) ?_ ?_); (focus ((simp [Zm]); done))) | ((with_reducible refine Za.gcp hglob (hN) ?_ ?_); (focus ((simp [Zm]); done)))); simp only [Zh, Zi, Int.reduceEq, Int.reduceNeg, Int.reduceLE, Int.reduceLT, Nat.reduceSub, ↓reduceIte, reduceCtorEq, Nat.reduceEqDiff, Nat.reduceAdd, Nat.reduceMul, Nat.reduceLeDiff, Nat.reduceLT, Nat.reduceBEq, Nat.reduceBNe, implies_true, Zk.rs, Zk.res, hd, hj, hw, hpg, hne, hz1, hz2, hvl, Int.ofNat_lt]) | (with_reducible first | refine T.seq ?_ | refine T.block ?_ | assumption | refine And.intro ?_ ?_) | (intro h; first | (exfalso; omega) | exact (tf h ‹_›).elim | exact (tf ‹_› h).elim | skip))
          all_goals first | omega | skip
          all_goals exact ⟨⟨(1, lo + 1, n, 0), hlt, .inr (.inl ⟨rfl, rfl, hrun⟩)⟩, (Ent.mk1 (fun n => if n = 2 then 5 else n) (by simp [Z7, hd])), by simp only; omega⟩
      · have hae : lo = raw.length := by omega
        have hd0 : raw.drop lo = [] := by rw [hae]; exact List.drop_length
        rw [hd0, List.map_nil, Li] at hrun
        simp only at hrun
        have heq : ((raw.length - lo : Nat) : Int) = 0 := by omega
        repeat' (first | ((first | (with_reducible first | refine T.regs ?_ | refine T.cond ?_ | refine T.reg ?_ | refine T.ret ?_ | refine T.exit ?_ | refine T.skip ?_) | ((with_reducible first | refine T.dregs ?_ ?_ | refine T.dreg ?_ ?_ | refine T.dregts ?_ ?_ | refine T.dregt ?_ ?_ | refine T.danys ?_ ?_ | refine T.dany ?_ ?_); exact mix)); simp only [Zh, Zi, Int.reduceEq, Int.reduceNeg, Int.reduceLE, Int.reduceLT, Nat.reduceSub, ↓reduceIte, reduceCtorEq, Nat.reduceEqDiff, Nat.reduceAdd, Nat.reduceMul, Nat.reduceLeDiff, Nat.reduceLT, Nat.reduceBEq, Nat.reduceBNe, implies_true, Zk.rs, Zk.res, hd, hj, hw, heq, Int.ofNat_lt]) | (with_reducible first | refine T.seq ?_ | refine T.block ?_ | assumption | refine And.intro ?_ ?_) | (intro h; first | (exfalso; omega) | exact (tf h ‹_›).elim | exact (tf ‹_› h).elim | skip))
        all_goals first | omega | skip
        all_goals exact hE _ hrun.symm _ rfl rfl rfl rfl
  · obtain rfl : s = 0 := hz
    have hj : ((((1 : Nat) : Int)).toNat : Nat) = 1 := rfl
    have hw : IntKind.i64.wrap (((1 : Nat) : Int) + 1) = ((2 : Nat) : Int) := Z4 (by omega)
    unfold insS at hrun
    cases hd : V1 op
    · rw [hd] at hrun
      rw [Ko] at hrun
      simp only at hrun
      repeat' (first | ((first | (with_reducible first | refine T.regs ?_ | refine T.cond ?_ | refine T.reg ?_ | refine T.ret ?_ | refine T.exit ?_ | refine T.skip ?_) | ((with_reducible first | refine T.dregs ?_ ?_ | refine T.dreg ?_ ?_ | refine T.dregts ?_ ?_ | refine T.dregt ?_ ?_ | refine T.danys ?_ ?_ | refine T.dany ?_ ?_); exact mix)); simp only [Zh, Zi, Int.reduceEq, Int.reduceNeg, Int.reduceLE, Int.reduceLT, Nat.reduceSub, ↓reduceIte, reduceCtorEq, Nat.reduceEqDiff, Nat.reduceAdd, Nat.reduceMul, Nat.reduceLeDiff, Nat.reduceLT, Nat.reduceBEq, Nat.reduceBNe, implies_true, Zk.rs, Zk.res, hd, hj, hw, Int.ofNat_lt]) | (with_reducible first | refine T.seq ?_ | refine T.block ?_ | assumption | refine And.intro ?_ ?_) | (intro h; first | (exfalso; omega) | exact (tf h ‹_›).elim | exact (tf ‹_› h).elim | skip))
      all_goals first | omega | skip
      exact ⟨⟨(2, lo, d, 0), ha, .inr (.inr ⟨rfl, hrun⟩)⟩, (Ent.mk1 (id) (by simp [Z7, hd])), by simp only; omega⟩
    · rw [hd] at hrun
      by_cases hlt : lo < raw.length
      · obtain ⟨p, hpl, hpg, hdrop⟩ := hpe hlt
        rw [hdrop] at hrun
        have hne : ¬ ((raw.length - lo : Nat) : Int) = 0 := by omega
        have hT := Rd G H p hpl
        have htl := Va p
        generalize trimB p = q at hT hrun htl
        cases hv : Sr q with
        | none =>
          rw [Mr hv] at hrun
          simp only at hrun
          obtain ⟨m, hN⟩ := P3 G H hv (by omega)
          repeat' (first | ((first | (with_reducible first | refine T.regs ?_ | refine T.cond ?_ | refine T.reg ?_ | refine T.ret ?_ | refine T.exit ?_ | refine T.skip ?_) | ((with_reducible first | refine T.dregs ?_ ?_ | refine T.dreg ?_ ?_ | refine T.dregts ?_ ?_ | refine T.dregt ?_ ?_ | refine T.danys ?_ ?_ | refine T.dany ?_ ?_); exact mix) | ((with_reducible refine Za.gcp hglob (hT) ?_ ?_); (focus ((simp [Zm]); done))) | ((with_reducible refine Za.gcp hglob (hN) ?_ ?_); (focus ((simp [Zm]); done)))); simp only [Zh, Zi, Int.reduceEq, Int.reduceNeg, Int.reduceLE, Int.reduceLT, Nat.reduceSub, ↓reduceIte, reduceCtorEq, Nat.reduceEqDiff, Nat.reduceAdd, Nat.reduceMul, Nat.reduceLeDiff, Nat.reduceLT, Nat.reduceBEq, Nat.reduceBNe, implies_true, Zk.rs, Zk.res, hd, hj, hw, hpg, hne, hz1, Int.ofNat_lt]) | (with_reducible first | refine T.seq ?_ | refine T.block ?_ | assumption | refine And.intro ?_ ?_) | (intro h; first | (exfalso; omega) | exact (tf h ‹_›).elim | exact (tf ‹_› h).elim | skip))
          all_goals first | omega | skip
          all_goals exact hE _ hrun.symm _ rfl rfl rfl rfl
        | some n =>
          rw [Le hv] at hrun
          simp only at hrun
          have hN := Qp G H hv
          repeat' (first | ((first | (with_reducible first | refine T.regs ?_ | refine T.cond ?_ | refine T.reg ?_ | refine T.ret ?_ | refine T.exit ?_ | refine T.skip ?_) | ((with_reducible first | refine T.dregs ?_ ?_ | refine T.dreg ?_ ?_ | refine T.dregts ?_ ?_ | refine T.dregt ?_ ?_ | refine T.danys ?_ ?_ | refine T.dany ?_ ?_); exact mix) | ((with_reducible refine Za.gcp hglob (hT) ?_ ?_); (focus ((simp [Zm]); done))) | ((with_reducible refine Za.gcp hglob (hN) ?_ ?_); (focus ((simp [Zm]); done)))); simp only [Zh, Zi, Int.reduceEq, Int.reduceNeg, Int.reduceLE, Int.reduceLT, Nat.reduceSub, ↓reduceIte, reduceCtorEq, Nat.reduceEqDiff, Nat.reduceAdd, Nat.reduceMul, Nat.reduceLeDiff, Nat.reduceLT, Nat.reduceBEq, Nat.reduceBNe, implies_true, Zk.rs, Zk.res, hd, hj, hw, hpg, hne, hz1, hz2, hvl, Int.ofNat_lt]) | (with_reducible first | refine T.seq ?_ | refine T.block ?_ | assumption | refine And.intro ?_ ?_) | (intro h; first | (exfalso; omega) | exact (tf h ‹_›).elim | exact (tf ‹_› h).elim | skip))
          all_goals first | omega | skip
          all_goals exact ⟨⟨(2, lo + 1, d, n), hlt, .inr (.inr ⟨rfl, hrun⟩)⟩, (Ent.mk1 (fun n => if n = 2 then 5 else n) (by simp [Z7, hd])), by simp only; omega⟩
      · have hae : lo = raw.length := by omega
        have hd0 : raw.drop lo = [] := by rw [hae]; exact List.drop_length
        rw [hd0, List.map_nil, Li] at hrun
        simp only at hrun
        have heq : ((raw.length - lo : Nat) : Int) = 0 := by omega
        repeat' (first | ((first | (with_reducible first | refine T.regs ?_ | refine T.cond ?_ | refine T.reg ?_ | refine T.ret ?_ | refine T.exit ?_ | refine T.skip ?_) | ((with_reducible first | refine T.dregs ?_ ?_ | refine T.dreg ?_ ?_ | refine T.dregts ?_ ?_ | refine T.dregt ?_ ?_ | refine T.danys ?_ ?_ | refine T.dany ?_ ?_); exact mix)); simp only [Zh, Zi, Int.reduceEq, Int.reduceNeg, Int.reduceLE, Int.reduceLT, Nat.reduceSub, ↓reduceIte, reduceCtorEq, Nat.reduceEqDiff, Nat.reduceAdd, Nat.reduceMul, Nat.reduceLeDiff, Nat.reduceLT, Nat.reduceBEq, Nat.reduceBNe, implies_true, Zk.rs, Zk.res, hd, hj, hw, heq, Int.ofNat_lt]) | (with_reducible first | refine T.seq ?_ | refine T.block ?_ | assumption | refine And.intro ?_ ?_) | (intro h; first | (exfalso; omega) | exact (tf h ‹_›).elim | exact (tf ‹_› h).elim | skip))
        all_goals first | omega | skip
        all_goals exact hE _ hrun.symm _ rfl rfl rfl rfl
  · repeat' (first | ((first | (with_reducible first | refine T.regs ?_ | refine T.cond ?_ | refine T.reg ?_ | refine T.ret ?_ | refine T.exit ?_ | refine T.skip ?_) | ((with_reducible first | refine T.dregs ?_ ?_ | refine T.dreg ?_ ?_ | refine T.dregts ?_ ?_ | refine T.dregt ?_ ?_ | refine T.danys ?_ ?_ | refine T.dany ?_ ?_); exact mix)); simp only [Zh, Zi, Int.reduceEq, Int.reduceNeg, Int.reduceLE, Int.reduceLT, Nat.reduceSub, ↓reduceIte, reduceCtorEq, Nat.reduceEqDiff, Nat.reduceAdd, Nat.reduceMul, Nat.reduceLeDiff, Nat.reduceLT, Nat.reduceBEq, Nat.reduceBNe, implies_true, Zk.rs, Zk.res, Int.ofNat_lt]) | (with_reducible first | refine T.seq ?_ | refine T.block ?_ | assumption | refine And.intro ?_ ?_) | (intro h; first | (exfalso; omega) | exact (tf h ‹_›).elim | exact (tf ‹_› h).elim | skip))
    all_goals first | omega | skip
    exact hQ lo d s ha hrun _ (Ent.mk1 (id) (by simp [Z7]))
end Go.Proofs.YtjochhncheheaaaGreatDoor
