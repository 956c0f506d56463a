/-
  A part of the proofs of this seat's laws: a step on the way. It has no conditions of its own.
-/
import Derived.Test.YtjochhncheheaaaGreatDoorReadJ
import Derived.Test.YtjochhncheheaaaGreatDoorReadK
namespace Go.Proofs.YtjochhncheheaaaGreatDoor
open Go Go.RowKit Vc
set_option linter.unusedVariables false
set_option linter.unusedSimpArgs false
attribute [local irreducible] T Za Z2 Ent RdC RwC Xl Zc Zs
theorem Ed {q : List UInt8} {n m : Nat} (h : numS q m = some n) : Q6 q = some n ∧ n ≤ m := by
  unfold numS at h
  split at h
  · rename_i v hv
    split at h
    · cases h; exact ⟨hv, by assumption⟩
    · cases h
  · cases h
theorem Kz (G : Nat) (H : Nat → Option Obj) {q : List UInt8} (h : numS q 65535 = none) (hs : q.length ≤ 2000000) :
    ∃ m : Int, GCp G H Tryz.prog 71 [.a (.str q), .a (.int .i64 65535)] [] 0 [] (.tup [.a (.int .i64 m), .a (.bool false)]) [] 0 := by
  cases hv : Q6 q with
  | none => exact ⟨0, M7 G H hv 65535 (by omega)⟩
  | some v =>
    have hN := Sg G H hv 65535
    have : ¬ v ≤ 65535 := by
      intro e
      unfold numS at h
      rw [hv] at h
      simp [e] at h
    rw [decide_eq_false (by omega)] at hN
    exact ⟨v, hN⟩
theorem K1 (G : Nat) (H : Nat → Option Obj) {q : List UInt8} {n : Nat} (h : numS q 65535 = some n) :
    GCp G H Tryz.prog 71 [.a (.str q), .a (.int .i64 65535)] [] 0 [] (.tup [.a (.int .i64 (n : Int)), .a (.bool true)]) [] 0 := by
  obtain ⟨hv, hn⟩ := Ed h
  have hN := Sg G H hv 65535
  rwa [decide_eq_true (by omega)] at hN
def rawS (rest : List UInt8) : List (List UInt8) := if trimB rest = [] then [] else splitS 44 (trimB rest)
theorem J1 (rest : List UInt8) : Tp rest = (rawS rest).map trimB := by
  unfold Tp rawS
  split <;> rfl
theorem Ey (rest : List UInt8) : (∀ p ∈ rawS rest, p.length ≤ rest.length) ∧ (rawS rest).length ≤ rest.length + 1 := by
  have ht := Va rest
  refine ⟨fun p hp => ?_, ?_⟩
  · unfold rawS at hp
    split at hp
    · cases hp
    · have h1 := V7 44 _ p hp
      omega
  · have := (Iz rest).2
    rw [J1, List.length_map] at this
    exact this
theorem IndexK (v : List UInt8) : RdC Tryz.prog 59 [.ro .str Tc, .v (.a (.str v))] (.one (.a (.int .i64 (kindS v)))) := Qe Tc v (by decide)
theorem Hq {n : Int} (h0 : 0 ≤ n) (h1 : n ≤ 32) : Wb n = true := by simp [Wb, h0, h1]
set_option maxHeartbeats 16000000 in
set_option maxRecDepth 100000 in
theorem Ld {G : Nat} {H : Nat → Option Obj} {w : World} {X : List Nat} {fr : List Value} {Q : Exit → St → Prop} (hglob : X3 G H w X) (op : Int) (raw : List (List UInt8)) (hlen : raw.length ≤ 3000000) (hps : ∀ p ∈ raw, p.length ≤ 2000000) (lo d s : Nat) (hlo : lo ≤ raw.length)
    (hE : ∀ S' : St, Z1 S'.slots 2 = some (.one (.a (.loc 0 0))) → Z1 S'.slots 3 = some (.one (.a (.bool (Fi (Mj op d s ((raw.drop lo).map trimB))).2.1))) → Z1 S'.slots 4 = some (.one (.a (.int .i64 (Fi (Mj op d s ((raw.drop lo).map trimB))).2.2))) → Z1 S'.res 0 = some (.cells 40 (Fi (Mj op d s ((raw.drop lo).map trimB))).1.cells) → Q .ret S') :
    T ⟨Tryz.prog, w, X, 149, fr⟩ Zk.c58 Q ⟨[(11, .one (.a (.ref 2))), (14, .one (.a (.bool (Wh op)))), (10, .one (.a (.int .i64 op))), (2, .one (.a (.loc 0 0)))], [(0, .cells 40 [.str [], .int .i64 op, .int .i64 (d : Int), .int .i64 (s : Int), .int .i64 0, .str []]), (1, .row 9 .str raw), (2, .view 1 1 lo raw.length)], 3⟩ := by
  generalize hR : Mj op d s ((raw.drop lo).map trimB) = R at hE
  unfold Mj at hR
  cases hi : Wh op
  · rw [Ej hi] at hR
    simp only at hR
    by_cases hd : lo < raw.length
    · have hne : (raw.drop lo).map trimB ≠ [] := by simp; omega
      rw [if_neg hne] at hR
      subst hR
      have hgt : (0 : Int) < ((raw.length - lo : Nat) : Int) := by omega
      repeat' (first | ((first | (with_reducible first | refine T.regs ?_ | refine T.cond ?_ | refine T.reg ?_ | refine T.ret ?_ | refine T.exit ?_ | refine T.skip ?_) | ((with_reducible first | refine T.dregs ?_ ?_ | refine T.dreg ?_ ?_ | refine T.dregts ?_ ?_ | refine T.dregt ?_ ?_ | refine T.danys ?_ ?_ | refine T.dany ?_ ?_); exact mix)); simp only [Zh, Zi, Int.reduceEq, Int.reduceNeg, Int.reduceLE, Int.reduceLT, Nat.reduceSub, ↓reduceIte, reduceCtorEq, Nat.reduceEqDiff, Nat.reduceAdd, Nat.reduceMul, Nat.reduceLeDiff, Nat.reduceLT, Nat.reduceBEq, Nat.reduceBNe, implies_true, Zk.rs, Zk.res, hi, hgt, Int.ofNat_lt]) | (with_reducible first | refine T.seq ?_ | refine T.block ?_ | assumption | refine And.intro ?_ ?_) | (intro h; first | (exfalso; omega) | exact (tf h ‹_›).elim | exact (tf ‹_› h).elim | skip))
      all_goals first | omega | skip
      all_goals first | exact hE _ rfl rfl rfl rfl | exact T.ret (hE _ rfl rfl rfl rfl)
    · have hne : (raw.drop lo).map trimB = [] := by simp; omega
      rw [if_pos hne] at hR
      subst hR
      have hgt : ¬ (0 : Int) < ((raw.length - lo : Nat) : Int) := by omega
      repeat' (first | ((first | (with_reducible first | refine T.regs ?_ | refine T.cond ?_ | refine T.reg ?_ | refine T.ret ?_ | refine T.exit ?_ | refine T.skip ?_) | ((with_reducible first | refine T.dregs ?_ ?_ | refine T.dreg ?_ ?_ | refine T.dregts ?_ ?_ | refine T.dregt ?_ ?_ | refine T.danys ?_ ?_ | refine T.dany ?_ ?_); exact mix)); simp only [Zh, Zi, Int.reduceEq, Int.reduceNeg, Int.reduceLE, Int.reduceLT, Nat.reduceSub, ↓reduceIte, reduceCtorEq, Nat.reduceEqDiff, Nat.reduceAdd, Nat.reduceMul, Nat.reduceLeDiff, Nat.reduceLT, Nat.reduceBEq, Nat.reduceBNe, implies_true, Zk.rs, Zk.res, hi, hgt, Int.ofNat_lt]) | (with_reducible first | refine T.seq ?_ | refine T.block ?_ | assumption | refine And.intro ?_ ?_) | (intro h; first | (exfalso; omega) | exact (tf h ‹_›).elim | exact (tf ‹_› h).elim | skip))
      all_goals first | omega | skip
      all_goals first | exact hE _ rfl rfl rfl rfl | exact T.ret (hE _ rfl rfl rfl rfl)
  · by_cases hlt : lo < raw.length
    · obtain ⟨p, hpl, hpg, hdrop⟩ : ∃ p, p.length ≤ 2000000 ∧ raw.getD lo (Kd.dflt .str) = p ∧ (raw.drop lo).map trimB = trimB p :: (raw.drop (lo + 1)).map trimB := by
        refine ⟨raw.getD lo [], hps _ (by simp [List.getD, hlt]), rfl, ?_⟩
        have hg : raw.getD lo [] = raw[lo] := by simp [List.getD, hlt]
        rw [hg, List.drop_eq_getElem_cons hlt, List.map_cons]
      rw [hdrop] at hR
      have hne : ¬ ((raw.length - lo : Nat) : Int) = 0 := by omega
      have hz1 : lo + (0 : Int).toNat = lo := rfl
      have hz2 : lo + (1 : Int).toNat = lo + 1 := rfl
      have hvl : lo + (((raw.length - lo : Nat) : Int)).toNat = raw.length := by omega
      have hT := Rd G H p hpl
      have htl := Va p
      generalize trimB p = q at hT hR htl
      have hmore : ((raw.drop (lo + 1)).map trimB ≠ [] ∧ (0 : Int) < ((raw.length - (lo + 1) : Nat) : Int)) ∨ ((raw.drop (lo + 1)).map trimB = [] ∧ ¬ (0 : Int) < ((raw.length - (lo + 1) : Nat) : Int)) := by
        by_cases hd : lo + 1 < raw.length
        · exact .inl ⟨by simp; omega, by omega⟩
        · exact .inr ⟨by simp; omega, by omega⟩
      cases hv : numS q 65535 with
      | some n =>
        rw [Gs hi hv] at hR
        simp only at hR
        have hN := K1 G H hv
        rcases hmore with ⟨hne2, hgt⟩ | ⟨hne2, hgt⟩
        · rw [if_neg hne2] at hR
          subst hR
          repeat' (first | ((first | (with_reducible first | refine T.regs ?_ | refine T.cond ?_ | refine T.reg ?_ | refine T.ret ?_ | refine T.exit ?_ | refine T.skip ?_) | ((with_reducible first | refine T.dregs ?_ ?_ | refine T.dreg ?_ ?_ | refine T.dregts ?_ ?_ | refine T.dregt ?_ ?_ | refine T.danys ?_ ?_ | refine T.dany ?_ ?_); exact mix) | ((with_reducible refine Za.gcp hglob (hT) ?_ ?_); (focus ((simp [Zm]); done))) | ((with_reducible refine Za.gcp hglob (hN) ?_ ?_); (focus ((simp [Zm]); done)))); simp only [Zh, Zi, Int.reduceEq, Int.reduceNeg, Int.reduceLE, Int.reduceLT, Nat.reduceSub, ↓reduceIte, reduceCtorEq, Nat.reduceEqDiff, Nat.reduceAdd, Nat.reduceMul, Nat.reduceLeDiff, Nat.reduceLT, Nat.reduceBEq, Nat.reduceBNe, implies_true, Zk.rs, Zk.res, hi, hpg, hne, hz1, hz2, hvl, hgt, Int.ofNat_lt]) | (with_reducible first | refine T.seq ?_ | refine T.block ?_ | assumption | refine And.intro ?_ ?_) | (intro h; first | (exfalso; omega) | exact (tf h ‹_›).elim | exact (tf ‹_› h).elim | skip))
          all_goals first | omega | skip
          all_goals first | exact hE _ rfl rfl rfl rfl | exact T.ret (hE _ rfl rfl rfl rfl)
        · rw [if_pos hne2] at hR
          subst hR
          repeat' (first | ((first | (with_reducible first | refine T.regs ?_ | refine T.cond ?_ | refine T.reg ?_ | refine T.ret ?_ | refine T.exit ?_ | refine T.skip ?_) | ((with_reducible first | refine T.dregs ?_ ?_ | refine T.dreg ?_ ?_ | refine T.dregts ?_ ?_ | refine T.dregt ?_ ?_ | refine T.danys ?_ ?_ | refine T.dany ?_ ?_); exact mix) | ((with_reducible refine Za.gcp hglob (hT) ?_ ?_); (focus ((simp [Zm]); done))) | ((with_reducible refine Za.gcp hglob (hN) ?_ ?_); (focus ((simp [Zm]); done)))); simp only [Zh, Zi, Int.reduceEq, Int.reduceNeg, Int.reduceLE, Int.reduceLT, Nat.reduceSub, ↓reduceIte, reduceCtorEq, Nat.reduceEqDiff, Nat.reduceAdd, Nat.reduceMul, Nat.reduceLeDiff, Nat.reduceLT, Nat.reduceBEq, Nat.reduceBNe, implies_true, Zk.rs, Zk.res, hi, hpg, hne, hz1, hz2, hvl, hgt, Int.ofNat_lt]) | (with_reducible first | refine T.seq ?_ | refine T.block ?_ | assumption | refine And.intro ?_ ?_) | (intro h; first | (exfalso; omega) | exact (tf h ‹_›).elim | exact (tf ‹_› h).elim | skip))
          all_goals first | omega | skip
          all_goals first | exact hE _ rfl rfl rfl rfl | exact T.ret (hE _ rfl rfl rfl rfl)
      | none =>
        obtain ⟨m, hN⟩ := Kz G H hv (by omega)
        have hNm := U2 q
        have hRf := Ta op
        by_cases hr : Xo q = true ∧ Vh op = true
        · rw [G0 hi hv hr] at hR
          simp only at hR
          rw [hr.1] at hNm
          rw [hr.2] at hRf
          rcases hmore with ⟨hne2, hgt⟩ | ⟨hne2, hgt⟩
          · rw [if_neg hne2] at hR
            subst hR
            repeat' (first | ((first | (with_reducible first | refine T.regs ?_ | refine T.cond ?_ | refine T.reg ?_ | refine T.ret ?_ | refine T.exit ?_ | refine T.skip ?_) | ((with_reducible first | refine T.dregs ?_ ?_ | refine T.dreg ?_ ?_ | refine T.dregts ?_ ?_ | refine T.dregt ?_ ?_ | refine T.danys ?_ ?_ | refine T.dany ?_ ?_); exact mix) | ((with_reducible refine Za.gcp hglob (hT) ?_ ?_); (focus ((simp [Zm]); done))) | ((with_reducible refine Za.gcp hglob (hN) ?_ ?_); (focus ((simp [Zm]); done))) | ((with_reducible first | apply Za.rd (hNm) | apply Zc.rd (hNm)); (focus ((repeat' (first | exact rfl | exact trivial | refine And.intro ?_ ?_ | (simp [SV.bd, Vc.S1.bd, At.bd, Zq, Zr, Ins.cells, Ln.cells]; done))); done))) | ((with_reducible first | apply Za.rd (hRf) | apply Zc.rd (hRf)); (focus ((repeat' (first | exact rfl | exact trivial | refine And.intro ?_ ?_ | (simp [SV.bd, Vc.S1.bd, At.bd, Zq, Zr, Ins.cells, Ln.cells]; done))); done))) | (with_reducible refine Zc.split ?_ ?_) | (with_reducible refine Zs.no ?_)) <;> simp only [Zh, Zi, Int.reduceEq, Int.reduceNeg, Int.reduceLE, Int.reduceLT, Nat.reduceSub, ↓reduceIte, reduceCtorEq, Nat.reduceEqDiff, Nat.reduceAdd, Nat.reduceMul, Nat.reduceLeDiff, Nat.reduceLT, Nat.reduceBEq, Nat.reduceBNe, implies_true, Zk.rs, Zk.res, hi, hpg, hne, hz1, hz2, hvl, hgt, Int.ofNat_lt]) | (with_reducible first | refine T.seq ?_ | refine T.block ?_ | assumption | refine And.intro ?_ ?_) | (intro h; first | (exfalso; omega) | exact (tf h ‹_›).elim | exact (tf ‹_› h).elim | skip))
            all_goals first | omega | skip
            all_goals first | exact hE _ rfl rfl rfl rfl | exact T.ret (hE _ rfl rfl rfl rfl)
          · rw [if_pos hne2] at hR
            subst hR
            repeat' (first | ((first | (with_reducible first | refine T.regs ?_ | refine T.cond ?_ | refine T.reg ?_ | refine T.ret ?_ | refine T.exit ?_ | refine T.skip ?_) | ((with_reducible first | refine T.dregs ?_ ?_ | refine T.dreg ?_ ?_ | refine T.dregts ?_ ?_ | refine T.dregt ?_ ?_ | refine T.danys ?_ ?_ | refine T.dany ?_ ?_); exact mix) | ((with_reducible refine Za.gcp hglob (hT) ?_ ?_); (focus ((simp [Zm]); done))) | ((with_reducible refine Za.gcp hglob (hN) ?_ ?_); (focus ((simp [Zm]); done))) | ((with_reducible first | apply Za.rd (hNm) | apply Zc.rd (hNm)); (focus ((repeat' (first | exact rfl | exact trivial | refine And.intro ?_ ?_ | (simp [SV.bd, Vc.S1.bd, At.bd, Zq, Zr, Ins.cells, Ln.cells]; done))); done))) | ((with_reducible first | apply Za.rd (hRf) | apply Zc.rd (hRf)); (focus ((repeat' (first | exact rfl | exact trivial | refine And.intro ?_ ?_ | (simp [SV.bd, Vc.S1.bd, At.bd, Zq, Zr, Ins.cells, Ln.cells]; done))); done))) | (with_reducible refine Zc.split ?_ ?_) | (with_reducible refine Zs.no ?_)) <;> simp only [Zh, Zi, Int.reduceEq, Int.reduceNeg, Int.reduceLE, Int.reduceLT, Nat.reduceSub, ↓reduceIte, reduceCtorEq, Nat.reduceEqDiff, Nat.reduceAdd, Nat.reduceMul, Nat.reduceLeDiff, Nat.reduceLT, Nat.reduceBEq, Nat.reduceBNe, implies_true, Zk.rs, Zk.res, hi, hpg, hne, hz1, hz2, hvl, hgt, Int.ofNat_lt]) | (with_reducible first | refine T.seq ?_ | refine T.block ?_ | assumption | refine And.intro ?_ ?_) | (intro h; first | (exfalso; omega) | exact (tf h ‹_›).elim | exact (tf ‹_› h).elim | skip))
            all_goals first | omega | skip
            all_goals first | exact hE _ rfl rfl rfl rfl | exact T.ret (hE _ rfl rfl rfl rfl)
        · rw [G7 hi hv hr] at hR
          simp only at hR
          subst hR
          cases hn : Xo q
          · rw [hn] at hNm
            repeat' (first | ((first | (with_reducible first | refine T.regs ?_ | refine T.cond ?_ | refine T.reg ?_ | refine T.ret ?_ | refine T.exit ?_ | refine T.skip ?_) | ((with_reducible first | refine T.dregs ?_ ?_ | refine T.dreg ?_ ?_ | refine T.dregts ?_ ?_ | refine T.dregt ?_ ?_ | refine T.danys ?_ ?_ | refine T.dany ?_ ?_); exact mix) | ((with_reducible refine Za.gcp hglob (hT) ?_ ?_); (focus ((simp [Zm]); done))) | ((with_reducible refine Za.gcp hglob (hN) ?_ ?_); (focus ((simp [Zm]); done))) | ((with_reducible first | apply Za.rd (hNm) | apply Zc.rd (hNm)); (focus ((repeat' (first | exact rfl | exact trivial | refine And.intro ?_ ?_ | (simp [SV.bd, Vc.S1.bd, At.bd, Zq, Zr, Ins.cells, Ln.cells]; done))); done))) | ((with_reducible first | apply Za.rd (hRf) | apply Zc.rd (hRf)); (focus ((repeat' (first | exact rfl | exact trivial | refine And.intro ?_ ?_ | (simp [SV.bd, Vc.S1.bd, At.bd, Zq, Zr, Ins.cells, Ln.cells]; done))); done))) | (with_reducible refine Zc.split ?_ ?_) | (with_reducible refine Zs.no ?_)) <;> simp only [Zh, Zi, Int.reduceEq, Int.reduceNeg, Int.reduceLE, Int.reduceLT, Nat.reduceSub, ↓reduceIte, reduceCtorEq, Nat.reduceEqDiff, Nat.reduceAdd, Nat.reduceMul, Nat.reduceLeDiff, Nat.reduceLT, Nat.reduceBEq, Nat.reduceBNe, implies_true, Zk.rs, Zk.res, hi, hpg, hne, hz1, Int.ofNat_lt]) | (with_reducible first | refine T.seq ?_ | refine T.block ?_ | assumption | refine And.intro ?_ ?_) | (intro h; first | (exfalso; omega) | exact (tf h ‹_›).elim | exact (tf ‹_› h).elim | skip))
            all_goals first | omega | skip
            all_goals first | exact hE _ rfl rfl rfl rfl | exact T.ret (hE _ rfl rfl rfl rfl)
          · have hrf : Vh op = false := by
              cases hb : Vh op with
              | false => rfl
              | true => exact absurd ⟨hn, hb⟩ hr
            rw [hn] at hNm
            rw [hrf] at hRf
            repeat' (first | ((first | (with_reducible first | refine T.regs ?_ | refine T.cond ?_ | refine T.reg ?_ | refine T.ret ?_ | refine T.exit ?_ | refine T.skip ?_) | ((with_reducible first | refine T.dregs ?_ ?_ | refine T.dreg ?_ ?_ | refine T.dregts ?_ ?_ | refine T.dregt ?_ ?_ | refine T.danys ?_ ?_ | refine T.dany ?_ ?_); exact mix) | ((with_reducible refine Za.gcp hglob (hT) ?_ ?_); (focus ((simp [Zm]); done))) | ((with_reducible refine Za.gcp hglob (hN) ?_ ?_); (focus ((simp [Zm]); done))) | ((with_reducible first | apply Za.rd (hNm) | apply Zc.rd (hNm)); (focus ((repeat' (first | exact rfl | exact trivial | refine And.intro ?_ ?_ | (simp [SV.bd, Vc.S1.bd, At.bd, Zq, Zr, Ins.cells, Ln.cells]; done))); done))) | ((with_reducible first | apply Za.rd (hRf) | apply Zc.rd (hRf)); (focus ((repeat' (first | exact rfl | exact trivial | refine And.intro ?_ ?_ | (simp [SV.bd, Vc.S1.bd, At.bd, Zq, Zr, Ins.cells, Ln.cells]; done))); done))) | (with_reducible refine Zc.split ?_ ?_) | (with_reducible refine Zs.no ?_)) <;> simp only [Zh, Zi, Int.reduceEq, Int.reduceNeg, Int.reduceLE, Int.reduceLT, Nat.reduceSub, ↓reduceIte, reduceCtorEq, Nat.reduceEqDiff, Nat.reduceAdd, Nat.reduceMul, Nat.reduceLeDiff, Nat.reduceLT, Nat.reduceBEq, Nat.reduceBNe, implies_true, Zk.rs, Zk.res, hi, hpg, hne, hz1, Int.ofNat_lt]) | (with_reducible first | refine T.seq ?_ | refine T.block ?_ | assumption | refine And.intro ?_ ?_) | (intro h; first | (exfalso; omega) | exact (tf h ‹_›).elim | exact (tf ‹_› h).elim | skip))
            all_goals first | omega | skip
            all_goals first | exact hE _ rfl rfl rfl rfl | exact T.ret (hE _ rfl rfl rfl rfl)
    · have hd0 : (raw.drop lo).map trimB = [] := by simp; omega
      rw [hd0, Gt hi] at hR
      simp only at hR
      subst hR
      have heq : ((raw.length - lo : Nat) : Int) = 0 := by omega
      repeat' (first | ((first | (with_reducible first | refine T.regs ?_ | refine T.cond ?_ | refine T.reg ?_ | refine T.ret ?_ | refine T.exit ?_ | refine T.skip ?_) | ((with_reducible first | refine T.dregs ?_ ?_ | refine T.dreg ?_ ?_ | refine T.dregts ?_ ?_ | refine T.dregt ?_ ?_ | refine T.danys ?_ ?_ | refine T.dany ?_ ?_); exact mix)); simp only [Zh, Zi, Int.reduceEq, Int.reduceNeg, Int.reduceLE, Int.reduceLT, Nat.reduceSub, ↓reduceIte, reduceCtorEq, Nat.reduceEqDiff, Nat.reduceAdd, Nat.reduceMul, Nat.reduceLeDiff, Nat.reduceLT, Nat.reduceBEq, Nat.reduceBNe, implies_true, Zk.rs, Zk.res, hi, heq, Int.ofNat_lt]) | (with_reducible first | refine T.seq ?_ | refine T.block ?_ | assumption | refine And.intro ?_ ?_) | (intro h; first | (exfalso; omega) | exact (tf h ‹_›).elim | exact (tf ‹_› h).elim | skip))
      all_goals first | omega | skip
      all_goals first | exact hE _ rfl rfl rfl rfl | exact T.ret (hE _ rfl rfl rfl rfl)
end Go.Proofs.YtjochhncheheaaaGreatDoor
