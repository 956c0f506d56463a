/-
  A part of the proofs of this seat's laws: a step on the way. It has no conditions of its own.
-/
import Derived.Test.YtjochhncheheaaaGreatDoorLibR
namespace Go.Proofs.YtjochhncheheaaaGreatDoor
open Go Go.RowKit Vc
set_option linter.unusedVariables false
set_option linter.unusedSimpArgs false
attribute [local irreducible] T Za Z2 Ent RdC RwC Xl Zc Zs
theorem Dh {s : List UInt8} {v : Nat} (h : Lib.decNat s = some v) : Lib.atoi s = some (v : Int) := by
  obtain ⟨hne, hd⟩ := Lib.decNat_some h
  cases s with
  | nil => exact absurd rfl hne
  | cons b r =>
    obtain ⟨d, hd0⟩ := Lib.digit_of_decFrom (b :: r) 0 v hd 0 b rfl
    have hb := Lib.digitVal_eq hd0
    have h45 : (b == 45) = false := by rw [beq_eq_false_iff_ne]; intro e; rw [e] at hb; simp at hb
    have h43 : (b == 43) = false := by rw [beq_eq_false_iff_ne]; intro e; rw [e] at hb; simp at hb
    unfold Lib.atoi
    simp only [h45, h43, Bool.false_eq_true, if_false, h, Option.map_some]
set_option maxHeartbeats 4000000 in
set_option maxRecDepth 100000 in
theorem Sg (G : Nat) (H : Nat → Option Obj) {s : List UInt8} {v : Nat} (h : Q6 s = some v) (most : Int) :
    GCp G H Tryz.prog 71 [.a (.str s), .a (.int .i64 most)] [] 0 [] (.tup [.a (.int .i64 (v : Int)), .a (.bool (decide ((v : Int) ≤ most)))]) [] 0 := by
  have hlt := numV_lt h
  unfold Q6 at h
  split at h
  · cases h
  rename_i hn
  simp only [not_or] at hn
  obtain ⟨h1, h2, h3⟩ := hn
  have hne : decide (s = []) = false := decide_eq_false h1
  have hT := O8 G H s O1 (by omega) (by decide) (by decide)
  have ht : Lib.trimS s O1 = [] := (H4 h1).2 ⟨v, h⟩
  rw [ht] at hT
  unfold O1 at hT
  have hA := Dj G H s (v : Int) (by omega) (Dh h)
  have h5 : ¬ (5 : Int) < s.length := by omega
  refine Yn.fn.gcp (by simp) (by simp [Yo, Yr, Yp, Zw, Zp, Vc.S1.okN, At.okN, SV.okN, Res.okN, Res.outOk, Z1, Res.own, Value.oneCell']) fun w X fr hglob => ?_
  by_cases h6 : 1 < s.length
  · have h7 : (1 : Int) < s.length := by omega
    have h8 : ¬ Y8 s 0 = 48 := by
      intro e
      refine h3 ⟨h6, ?_⟩
      unfold Y8 at e
      have : (s.getD 0 0).toNat = 48 := by omega
      exact UInt8.toNat_inj.1 this
    have h9 : ¬ Y8 s (0 : Int).toNat = 48 := h8
    repeat' (first | ((first | (with_reducible first | refine T.regs ?_ | refine T.cond ?_ | refine T.reg ?_ | refine T.ret ?_ | refine T.exit ?_ | refine T.skip ?_) | ((with_reducible first | refine T.dregs ?_ ?_ | refine T.dreg ?_ ?_ | refine T.dregts ?_ ?_ | refine T.dregt ?_ ?_ | refine T.danys ?_ ?_ | refine T.dany ?_ ?_); exact mix) | ((with_reducible refine Za.gcp hglob (hT) ?_ ?_); (focus ((simp [Zm]); done))) | ((with_reducible refine Za.gcp hglob (hA) ?_ ?_); (focus ((simp [Zm]); done))) | (with_reducible refine Zc.split ?_ ?_) | (with_reducible refine Zs.no ?_)) <;> simp only [Zh, Zi, Int.reduceEq, Int.reduceNeg, Int.reduceLE, Int.reduceLT, Nat.reduceSub, ↓reduceIte, reduceCtorEq, Nat.reduceEqDiff, Nat.reduceAdd, Nat.reduceMul, Nat.reduceLeDiff, Nat.reduceLT, Nat.reduceBEq, Nat.reduceBNe, implies_true, Yn.rs, Yn.res, hne, h5, h7, h8, h1, Int.ofNat_lt]) | (with_reducible first | refine T.seq ?_ | refine T.block ?_ | assumption | refine And.intro ?_ ?_) | (intro h; first | (exfalso; omega) | exact (tf h ‹_›).elim | exact (tf ‹_› h).elim | skip))
    all_goals first | omega | (exfalso; exact h8 (by assumption)) | (exfalso; simp_all; done) | skip
  · have h7 : ¬ (1 : Int) < s.length := by omega
    repeat' (first | ((first | (with_reducible first | refine T.regs ?_ | refine T.cond ?_ | refine T.reg ?_ | refine T.ret ?_ | refine T.exit ?_ | refine T.skip ?_) | ((with_reducible first | refine T.dregs ?_ ?_ | refine T.dreg ?_ ?_ | refine T.dregts ?_ ?_ | refine T.dregt ?_ ?_ | refine T.danys ?_ ?_ | refine T.dany ?_ ?_); exact mix) | ((with_reducible refine Za.gcp hglob (hT) ?_ ?_); (focus ((simp [Zm]); done))) | ((with_reducible refine Za.gcp hglob (hA) ?_ ?_); (focus ((simp [Zm]); done))) | (with_reducible refine Zc.split ?_ ?_) | (with_reducible refine Zs.no ?_)) <;> simp only [Zh, Zi, Int.reduceEq, Int.reduceNeg, Int.reduceLE, Int.reduceLT, Nat.reduceSub, ↓reduceIte, reduceCtorEq, Nat.reduceEqDiff, Nat.reduceAdd, Nat.reduceMul, Nat.reduceLeDiff, Nat.reduceLT, Nat.reduceBEq, Nat.reduceBNe, implies_true, Yn.rs, Yn.res, hne, h5, h7, h1, Int.ofNat_lt]) | (with_reducible first | refine T.seq ?_ | refine T.block ?_ | assumption | refine And.intro ?_ ?_) | (intro h; first | (exfalso; omega) | exact (tf h ‹_›).elim | exact (tf ‹_› h).elim | skip))
    all_goals first | omega | skip
set_option maxHeartbeats 4000000 in
set_option maxRecDepth 100000 in
theorem M7 (G : Nat) (H : Nat → Option Obj) {s : List UInt8} (h : Q6 s = none) (most : Int) (hs : s.length ≤ 9223372036854775807) :
    GCp G H Tryz.prog 71 [.a (.str s), .a (.int .i64 most)] [] 0 [] (.tup [.a (.int .i64 0), .a (.bool false)]) [] 0 := by
  refine Yn.fn.gcp (by simp) (by simp [Yo, Yr, Yp, Zw, Zp, Vc.S1.okN, At.okN, SV.okN, Res.okN, Res.outOk, Z1, Res.own, Value.oneCell']) fun w X fr hglob => ?_
  by_cases h1 : s = []
  · have hne : decide (s = []) = true := decide_eq_true h1
    repeat' (first | ((first | (with_reducible first | refine T.regs ?_ | refine T.cond ?_ | refine T.reg ?_ | refine T.ret ?_ | refine T.exit ?_ | refine T.skip ?_) | ((with_reducible first | refine T.dregs ?_ ?_ | refine T.dreg ?_ ?_ | refine T.dregts ?_ ?_ | refine T.dregt ?_ ?_ | refine T.danys ?_ ?_ | refine T.dany ?_ ?_); exact mix) | (with_reducible refine Zc.split ?_ ?_) | (with_reducible refine Zs.no ?_)) <;> simp only [Zh, Zi, Int.reduceEq, Int.reduceNeg, Int.reduceLE, Int.reduceLT, Nat.reduceSub, ↓reduceIte, reduceCtorEq, Nat.reduceEqDiff, Nat.reduceAdd, Nat.reduceMul, Nat.reduceLeDiff, Nat.reduceLT, Nat.reduceBEq, Nat.reduceBNe, implies_true, Yn.rs, Yn.res, hne, h1]) | (with_reducible first | refine T.seq ?_ | refine T.block ?_ | assumption | refine And.intro ?_ ?_) | (intro h; first | (exfalso; omega) | exact (tf h ‹_›).elim | exact (tf ‹_› h).elim | skip))
    all_goals first | omega | (exfalso; simp_all; done) | skip
  have hne : decide (s = []) = false := decide_eq_false h1
  by_cases h2 : 5 < s.length
  · have h5 : (5 : Int) < s.length := by omega
    repeat' (first | ((first | (with_reducible first | refine T.regs ?_ | refine T.cond ?_ | refine T.reg ?_ | refine T.ret ?_ | refine T.exit ?_ | refine T.skip ?_) | ((with_reducible first | refine T.dregs ?_ ?_ | refine T.dreg ?_ ?_ | refine T.dregts ?_ ?_ | refine T.dregt ?_ ?_ | refine T.danys ?_ ?_ | refine T.dany ?_ ?_); exact mix) | (with_reducible refine Zc.split ?_ ?_) | (with_reducible refine Zs.no ?_)) <;> simp only [Zh, Zi, Int.reduceEq, Int.reduceNeg, Int.reduceLE, Int.reduceLT, Nat.reduceSub, ↓reduceIte, reduceCtorEq, Nat.reduceEqDiff, Nat.reduceAdd, Nat.reduceMul, Nat.reduceLeDiff, Nat.reduceLT, Nat.reduceBEq, Nat.reduceBNe, implies_true, Yn.rs, Yn.res, hne, h5, h1, Int.ofNat_lt]) | (with_reducible first | refine T.seq ?_ | refine T.block ?_ | assumption | refine And.intro ?_ ?_) | (intro h; first | (exfalso; omega) | exact (tf h ‹_›).elim | exact (tf ‹_› h).elim | skip))
    all_goals first | omega | (exfalso; simp_all; done) | skip
  have h5 : ¬ (5 : Int) < s.length := by omega
  have hT := O8 G H s O1 hs (by decide) (by decide)
  have hda := H4 h1
  generalize Lib.trimS s O1 = t at hT hda
  unfold O1 at hT
  by_cases ht : t = []
  · subst ht
    obtain ⟨v, hv⟩ := hda.1 rfl
    have h3 : 1 < s.length ∧ s.getD 0 0 = 48 := by
      unfold Q6 at h
      split at h
      · rename_i hn
        rcases hn with hn | hn | hn
        · exact absurd hn h1
        · exact absurd hn h2
        · exact hn
      · rw [hv] at h; cases h
    have h7 : (1 : Int) < s.length := by omega
    have h8 : Y8 s 0 = 48 := by unfold Y8; rw [h3.2]; rfl
    have h9 : Y8 s (0 : Int).toNat = 48 := h8
    repeat' (first | ((first | (with_reducible first | refine T.regs ?_ | refine T.cond ?_ | refine T.reg ?_ | refine T.ret ?_ | refine T.exit ?_ | refine T.skip ?_) | ((with_reducible first | refine T.dregs ?_ ?_ | refine T.dreg ?_ ?_ | refine T.dregts ?_ ?_ | refine T.dregt ?_ ?_ | refine T.danys ?_ ?_ | refine T.dany ?_ ?_); exact mix) | ((with_reducible refine Za.gcp hglob (hT) ?_ ?_); (focus ((simp [Zm]); done))) | (with_reducible refine Zc.split ?_ ?_) | (with_reducible refine Zs.no ?_)) <;> simp only [Zh, Zi, Int.reduceEq, Int.reduceNeg, Int.reduceLE, Int.reduceLT, Nat.reduceSub, ↓reduceIte, reduceCtorEq, Nat.reduceEqDiff, Nat.reduceAdd, Nat.reduceMul, Nat.reduceLeDiff, Nat.reduceLT, Nat.reduceBEq, Nat.reduceBNe, implies_true, Yn.rs, Yn.res, hne, h5, h7, h9, h1, Int.ofNat_lt]) | (with_reducible first | refine T.seq ?_ | refine T.block ?_ | assumption | refine And.intro ?_ ?_) | (intro h; first | (exfalso; omega) | exact (tf h ‹_›).elim | exact (tf ‹_› h).elim | skip))
    all_goals first | omega | (exfalso; simp_all; done) | skip
  · have ht2 : decide (t = []) = false := decide_eq_false ht
    repeat' (first | ((first | (with_reducible first | refine T.regs ?_ | refine T.cond ?_ | refine T.reg ?_ | refine T.ret ?_ | refine T.exit ?_ | refine T.skip ?_) | ((with_reducible first | refine T.dregs ?_ ?_ | refine T.dreg ?_ ?_ | refine T.dregts ?_ ?_ | refine T.dregt ?_ ?_ | refine T.danys ?_ ?_ | refine T.dany ?_ ?_); exact mix) | ((with_reducible refine Za.gcp hglob (hT) ?_ ?_); (focus ((simp [Zm]); done))) | (with_reducible refine Zc.split ?_ ?_) | (with_reducible refine Zs.no ?_)) <;> simp only [Zh, Zi, Int.reduceEq, Int.reduceNeg, Int.reduceLE, Int.reduceLT, Nat.reduceSub, ↓reduceIte, reduceCtorEq, Nat.reduceEqDiff, Nat.reduceAdd, Nat.reduceMul, Nat.reduceLeDiff, Nat.reduceLT, Nat.reduceBEq, Nat.reduceBNe, implies_true, Yn.rs, Yn.res, hne, h5, ht, ht2, h1, Int.ofNat_lt]) | (with_reducible first | refine T.seq ?_ | refine T.block ?_ | assumption | refine And.intro ?_ ?_) | (intro h; first | (exfalso; omega) | exact (tf h ‹_›).elim | exact (tf ‹_› h).elim | skip))
    all_goals first | omega | (exfalso; simp_all; done) | skip
theorem So (t : List UInt8) : Lib.hasPrefix (114 :: t) [114] = true ∧ Lib.trimPrefix (114 :: t) [114] = t := by
  have h : Lib.hasPrefix (114 :: t) [114] = true := by simp [Lib.hasPrefix]
  exact ⟨h, by simp [Lib.trimPrefix, h]⟩
theorem G8 {s : List UInt8} (h : ∀ t, s ≠ 114 :: t) : Lib.hasPrefix s [114] = false := by
  cases s with
  | nil => rfl
  | cons b t =>
    have : b ≠ 114 := fun e => h t (by rw [e])
    simp only [Lib.hasPrefix, List.isPrefixOf, Bool.and_eq_false_iff, beq_eq_false_iff_ne]
    exact .inl fun e => this e.symm
set_option maxHeartbeats 4000000 in
set_option maxRecDepth 100000 in
theorem Qp (G : Nat) (H : Nat → Option Obj) {s : List UInt8} {n : Nat} (h : Sr s = some n) :
    GCp G H Tryz.prog 70 [.a (.str s)] [] 0 [] (.tup [.a (.int .i64 (n : Int)), .a (.bool true)]) [] 0 := by
  obtain ⟨t, rfl, hn⟩ : ∃ t, s = 114 :: t ∧ numS t 7 = some n := by
    cases s with
    | nil => cases h
    | cons b t =>
      have e : Sr (b :: t) = if b = 114 then numS t 7 else none := rfl
      rw [e] at h
      by_cases hb : b = 114
      · rw [if_pos hb] at h; exact ⟨t, by rw [hb], h⟩
      · rw [if_neg hb] at h; cases h
  obtain ⟨hv, h7⟩ : Q6 t = some n ∧ n ≤ 7 := by
    unfold numS at hn
    split at hn
    · rename_i v hv
      split at hn
      · cases hn; exact ⟨hv, by assumption⟩
      · cases hn
    · cases hn
  have hP := Ts G H (114 :: t) [114]
  rw [(So t).1, (So t).2] at hP
  have hN := Sg G H hv 7
  rw [decide_eq_true (by omega)] at hN
  refine Yj.fn.gcp (by simp) (by simp [Yo, Yr, Yp, Zw, Zp, Vc.S1.okN, At.okN, SV.okN, Res.okN, Res.outOk, Z1, Res.own, Value.oneCell']) fun w X fr hglob => ?_
  repeat' (first | ((first | (with_reducible first | refine T.regs ?_ | refine T.cond ?_ | refine T.reg ?_ | refine T.ret ?_ | refine T.exit ?_ | refine T.skip ?_) | ((with_reducible first | refine T.dregs ?_ ?_ | refine T.dreg ?_ ?_ | refine T.dregts ?_ ?_ | refine T.dregt ?_ ?_ | refine T.danys ?_ ?_ | refine T.dany ?_ ?_); exact mix) | ((with_reducible refine Za.gcp hglob (hP) ?_ ?_); (focus ((simp [Zm]); done))) | ((with_reducible refine Za.gcp hglob (hN) ?_ ?_); (focus ((simp [Zm]); done)))); simp only [Zh, Zi, Int.reduceEq, Int.reduceNeg, Int.reduceLE, Int.reduceLT, Nat.reduceSub, ↓reduceIte, reduceCtorEq, Nat.reduceEqDiff, Nat.reduceAdd, Nat.reduceMul, Nat.reduceLeDiff, Nat.reduceLT, Nat.reduceBEq, Nat.reduceBNe, implies_true, Yj.rs, Yj.res]) | (with_reducible first | refine T.seq ?_ | refine T.block ?_ | assumption | refine And.intro ?_ ?_) | (intro h; first | (exfalso; omega) | exact (tf h ‹_›).elim | exact (tf ‹_› h).elim | skip))
  all_goals first | omega | skip
set_option maxHeartbeats 4000000 in
set_option maxRecDepth 100000 in
theorem P3 (G : Nat) (H : Nat → Option Obj) {s : List UInt8} (h : Sr s = none) (hs : s.length ≤ 9223372036854775807) :
    ∃ m : Int, GCp G H Tryz.prog 70 [.a (.str s)] [] 0 [] (.tup [.a (.int .i64 m), .a (.bool false)]) [] 0 := by
  by_cases hp : ∃ t, s = 114 :: t
  · obtain ⟨t, rfl⟩ := hp
    have hP := Ts G H (114 :: t) [114]
    rw [(So t).1, (So t).2] at hP
    simp only [Sr, if_true, numS] at h
    cases hv : Q6 t with
    | none =>
      have hN := M7 G H hv 7 (by simp only [List.length_cons] at hs; omega)
      refine ⟨0, Yj.fn.gcp (by simp) (by simp [Yo, Yr, Yp, Zw, Zp, Vc.S1.okN, At.okN, SV.okN, Res.okN, Res.outOk, Z1, Res.own, Value.oneCell']) fun w X fr hglob => ?_⟩
      repeat' (first | ((first | (with_reducible first | refine T.regs ?_ | refine T.cond ?_ | refine T.reg ?_ | refine T.ret ?_ | refine T.exit ?_ | refine T.skip ?_) | ((with_reducible first | refine T.dregs ?_ ?_ | refine T.dreg ?_ ?_ | refine T.dregts ?_ ?_ | refine T.dregt ?_ ?_ | refine T.danys ?_ ?_ | refine T.dany ?_ ?_); exact mix) | ((with_reducible refine Za.gcp hglob (hP) ?_ ?_); (focus ((simp [Zm]); done))) | ((with_reducible refine Za.gcp hglob (hN) ?_ ?_); (focus ((simp [Zm]); done)))); simp only [Zh, Zi, Int.reduceEq, Int.reduceNeg, Int.reduceLE, Int.reduceLT, Nat.reduceSub, ↓reduceIte, reduceCtorEq, Nat.reduceEqDiff, Nat.reduceAdd, Nat.reduceMul, Nat.reduceLeDiff, Nat.reduceLT, Nat.reduceBEq, Nat.reduceBNe, implies_true, Yj.rs, Yj.res]) | (with_reducible first | refine T.seq ?_ | refine T.block ?_ | assumption | refine And.intro ?_ ?_) | (intro h; first | (exfalso; omega) | exact (tf h ‹_›).elim | exact (tf ‹_› h).elim | skip))
      all_goals first | omega | skip
    | some v =>
      rw [hv] at h
      have h7 : ¬ v ≤ 7 := by
        intro e
        simp [e] at h
      have hN := Sg G H hv 7
      rw [decide_eq_false (by omega)] at hN
      refine ⟨v, Yj.fn.gcp (by simp) (by simp [Yo, Yr, Yp, Zw, Zp, Vc.S1.okN, At.okN, SV.okN, Res.okN, Res.outOk, Z1, Res.own, Value.oneCell']) fun w X fr hglob => ?_⟩
      repeat' (first | ((first | (with_reducible first | refine T.regs ?_ | refine T.cond ?_ | refine T.reg ?_ | refine T.ret ?_ | refine T.exit ?_ | refine T.skip ?_) | ((with_reducible first | refine T.dregs ?_ ?_ | refine T.dreg ?_ ?_ | refine T.dregts ?_ ?_ | refine T.dregt ?_ ?_ | refine T.danys ?_ ?_ | refine T.dany ?_ ?_); exact mix) | ((with_reducible refine Za.gcp hglob (hP) ?_ ?_); (focus ((simp [Zm]); done))) | ((with_reducible refine Za.gcp hglob (hN) ?_ ?_); (focus ((simp [Zm]); done)))); simp only [Zh, Zi, Int.reduceEq, Int.reduceNeg, Int.reduceLE, Int.reduceLT, Nat.reduceSub, ↓reduceIte, reduceCtorEq, Nat.reduceEqDiff, Nat.reduceAdd, Nat.reduceMul, Nat.reduceLeDiff, Nat.reduceLT, Nat.reduceBEq, Nat.reduceBNe, implies_true, Yj.rs, Yj.res]) | (with_reducible first | refine T.seq ?_ | refine T.block ?_ | assumption | refine And.intro ?_ ?_) | (intro h; first | (exfalso; omega) | exact (tf h ‹_›).elim | exact (tf ‹_› h).elim | skip))
      all_goals first | omega | skip
  · have hP := Ts G H s [114]
    rw [G8 (fun t e => hp ⟨t, e⟩)] at hP
    generalize Lib.trimPrefix s [114] = t at hP
    refine ⟨0, Yj.fn.gcp (by simp) (by simp [Yo, Yr, Yp, Zw, Zp, Vc.S1.okN, At.okN, SV.okN, Res.okN, Res.outOk, Z1, Res.own, Value.oneCell']) fun w X fr hglob => ?_⟩
    repeat' (first | ((first | (with_reducible first | refine T.regs ?_ | refine T.cond ?_ | refine T.reg ?_ | refine T.ret ?_ | refine T.exit ?_ | refine T.skip ?_) | ((with_reducible first | refine T.dregs ?_ ?_ | refine T.dreg ?_ ?_ | refine T.dregts ?_ ?_ | refine T.dregt ?_ ?_ | refine T.danys ?_ ?_ | refine T.dany ?_ ?_); exact mix) | ((with_reducible refine Za.gcp hglob (hP) ?_ ?_); (focus ((simp [Zm]); done)))); simp only [Zh, Zi, Int.reduceEq, Int.reduceNeg, Int.reduceLE, Int.reduceLT, Nat.reduceSub, ↓reduceIte, reduceCtorEq, Nat.reduceEqDiff, Nat.reduceAdd, Nat.reduceMul, Nat.reduceLeDiff, Nat.reduceLT, Nat.reduceBEq, Nat.reduceBNe, implies_true, Yj.rs, Yj.res]) | (with_reducible first | refine T.seq ?_ | refine T.block ?_ | assumption | refine And.intro ?_ ?_) | (intro h; first | (exfalso; omega) | exact (tf h ‹_›).elim | exact (tf ‹_› h).elim | skip))
    all_goals first | omega | skip
end Go.Proofs.YtjochhncheheaaaGreatDoor
namespace Go.Proofs.YtjochhncheheaaaGreatDoor
open Go Go.RowKit Vc
set_option linter.unusedVariables false
set_option linter.unusedSimpArgs false
attribute [local irreducible] T Za Z2 Ent RdC RwC Xl Zc Zs
theorem Hk {s : List UInt8} {i : Nat} (h : i < s.length) {c : UInt8} (e : Y8 s i = ((c.toNat : Nat) : Int)) : s[i]? = some c := by
  unfold Y8 at e
  rw [List.getD_eq_getElem?_getD, List.getElem?_eq_getElem h] at e
  simp only [Option.getD_some] at e
  rw [List.getElem?_eq_getElem h]
  congr 1
  exact UInt8.toNat_inj.1 (by omega)
theorem byteAt_ne {s : List UInt8} {i : Nat} (h : i < s.length) {c : UInt8} (e : ¬ Y8 s i = ((c.toNat : Nat) : Int)) (hn : c ∉ s.take i) : c ∉ s.take (i + 1) := by
  rw [List.take_add_one, List.getElem?_eq_getElem h]
  simp only [Option.toList_some, List.mem_append, List.mem_singleton, not_or]
  refine ⟨hn, fun e2 => e ?_⟩
  unfold Y8
  rw [List.getD_eq_getElem?_getD, List.getElem?_eq_getElem h, e2]
  rfl
end Go.Proofs.YtjochhncheheaaaGreatDoor
namespace Go.Proofs.YtjochhncheheaaaGreatDoor
open Go Go.RowKit Vc
set_option linter.unusedVariables false
set_option linter.unusedSimpArgs false
attribute [local irreducible] T Za Z2 Ent RdC RwC Xl Zc Zs
theorem cut_at {t : List UInt8} {f i : Nat} (hf : f ≤ i) (hi : i < t.length) (hb : Y8 t i = 10) : t.drop f = (t.take i).drop f ++ 10 :: t.drop (i + 1) := by
  have hg := Hk (c := 10) hi hb
  have h1 : t = t.take i ++ t.drop i := (List.take_append_drop i t).symm
  have h2 : t.drop i = 10 :: t.drop (i + 1) := by
    rw [List.drop_eq_getElem_cons hi]
    rw [List.getElem?_eq_getElem hi] at hg
    rw [Option.some.inj hg]
  conv => lhs; rw [h1]
  rw [List.drop_append_of_le_length (by simp; omega), h2]
end Go.Proofs.YtjochhncheheaaaGreatDoor
namespace Go.Proofs.YtjochhncheheaaaGreatDoor
open Go Go.RowKit Vc
set_option linter.unusedVariables false
set_option linter.unusedSimpArgs false
attribute [local irreducible] T Za Z2 Ent RdC RwC Xl Zc Zs
def blk (b : UInt8) : Prop := b = 32 ∨ b = 9
theorem On (b : UInt8) : ([32, 9] : List UInt8).contains b = true ↔ blk b := by simp [blk]
theorem left_yes {x : UInt8} {r : List UInt8} (h : blk x) : Lib.trimLeftS (x :: r) [32, 9] = Lib.trimLeftS r [32, 9] := by
  unfold Lib.trimLeftS; rw [List.dropWhile_cons, if_pos ((On x).2 h)]
theorem left_no {x : UInt8} {r : List UInt8} (h : ¬ blk x) : Lib.trimLeftS (x :: r) [32, 9] = x :: r := by
  unfold Lib.trimLeftS; rw [List.dropWhile_cons, if_neg (fun e => h ((On x).1 e))]
theorem right_yes {x : UInt8} {r : List UInt8} (h : blk x) : Lib.trimRightS (r ++ [x]) [32, 9] = Lib.trimRightS r [32, 9] := by
  unfold Lib.trimRightS; rw [List.reverse_append, List.reverse_singleton, List.singleton_append, List.dropWhile_cons, if_pos ((On x).2 h)]
theorem right_no {x : UInt8} {r : List UInt8} (h : ¬ blk x) : Lib.trimRightS (r ++ [x]) [32, 9] = r ++ [x] := by
  unfold Lib.trimRightS; rw [List.reverse_append, List.reverse_singleton, List.singleton_append, List.dropWhile_cons, if_neg (fun e => h ((On x).1 e))]; simp
theorem byte_blk (x : UInt8) : blk x ↔ (((x.toNat : Nat) : Int) = 32 ∨ ((x.toNat : Nat) : Int) = 9) := by
  unfold blk
  constructor
  · rintro (rfl | rfl) <;> decide
  · rintro (h | h)
    · left; exact UInt8.toNat_inj.1 (by simp; omega)
    · right; exact UInt8.toNat_inj.1 (by simp; omega)
theorem trimLeft_len (s cs : List UInt8) : (Lib.trimLeftS s cs).length ≤ s.length := by
  unfold Lib.trimLeftS
  exact (List.dropWhile_sublist _).length_le
end Go.Proofs.YtjochhncheheaaaGreatDoor
namespace Go.Proofs.YtjochhncheheaaaGreatDoor
open Go Go.RowKit Vc
set_option linter.unusedVariables false
set_option linter.unusedSimpArgs false
attribute [local irreducible] T Za Z2 Ent RdC RwC Xl Zc Zs
def Ef (s : List UInt8) (most : Int) : Int := match Q6 s with
  | some v => if most < v then -1 else v
  | none => -1
end Go.Proofs.YtjochhncheheaaaGreatDoor
