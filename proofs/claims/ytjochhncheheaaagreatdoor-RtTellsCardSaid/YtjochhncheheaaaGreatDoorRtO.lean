/-
  A part of the proofs of this seat's laws: a step on the way. It has no conditions of its own.
-/
import Derived.Test.YtjochhncheheaaaGreatDoorRtN
import Derived.Test.YtjochhncheheaaaGreatDoorLinkC
import Derived.Test.YtjochhncheheaaaGreatDoorIrX
namespace Go.Proofs.YtjochhncheheaaaGreatDoor
open Go Go.RowKit Vc
set_option linter.unusedVariables false
set_option linter.unusedSimpArgs false
attribute [local irreducible] T Za Z2 Ent RdC RwC Xl Zc Zs
theorem Q0 (i : Nat) (hi : i ≤ 24) (ls : List Ln) (hl : ls.length ≤ 1000) : Fits (unitsTo i ++ [([], ls)]) ∧ Fits (unitsTo i) := by
  have h1 : ∀ u ∈ unitsTo i, u.2.length ≤ 9223372036854775807 := fun u hu => by
    obtain ⟨k, hk, rfl⟩ := List.mem_map.1 hu
    have := (Md k (by have := List.mem_range.1 hk; omega)).2.2
    show (linesAt k).length ≤ _
    omega
  have h2 := To i
  refine ⟨⟨by simp only [List.length_append, List.length_cons, List.length_nil]; omega, fun u hu => ?_⟩, by omega, h1⟩
  rcases List.mem_append.1 hu with h | h
  · exact h1 u h
  · simp only [List.mem_singleton] at h
    subst h
    show ls.length ≤ _
    omega
def P8 : List UInt8 := [109, 97, 105, 110]
def F4 (n : List UInt8) : Ln := ⟨[], ⟨26, 0, 0, 0⟩, n⟩
def allL (k : Nat) : List Ln := ⟨P8, W1, []⟩ :: (Ye.take k).map F4
theorem Fr (k : Nat) (hk : k < 24) : allL (k + 1) = allL k ++ [F4 (nameAt k)] := by
  have hnl : Ye.length = 24 := rfl
  have e : Ye.take (k + 1) = Ye.take k ++ [Ye.getD k []] := by
    rw [List.take_add_one, List.getElem?_eq_getElem (by omega)]
    simp [List.getD, hnl, hk]
  unfold allL nameAt
  rw [e, List.map_append]
  rfl
theorem Ig (k : Nat) (hk : k ≤ 24) : (allL k).length = k + 1 := by
  have hnl : Ye.length = 24 := rfl
  simp [allL, hnl]; omega
set_option maxRecDepth 1000000 in
theorem all_ok : (linkS (unitsTo 24 ++ [([], allL 24)]) P8).2 = (0, 0) ∧ (linkS (unitsTo 24 ++ [([], allL 24)]) P8).1.1.length < 32768 ∧ (linkS (unitsTo 24 ++ [([], allL 24)]) P8).1.2.1.length = 25 := by decide +kernel
set_option maxHeartbeats 8000000 in
set_option maxRecDepth 100000 in
theorem RtAll_gcp {G : Nat} {H : Nat → Option Obj} (hM : Xh G H) (hH : Y7 G H) :
    GCp G H Tryz.prog 4 [] [] 0 [] (.one (.a (.bool true))) [] 0 := by
  have hU := Jm hM hH
  have hnl : Ye.length = 24 := rfl
  have hL := H1 (unitsTo 24 ++ [([], allL 24)]) P8 (Q0 24 (Nat.le_refl _) _ (by rw [Ig 24 (Nat.le_refl _)]; decide)).1 (by decide)
  obtain ⟨q1, q2, q3⟩ := all_ok
  obtain ⟨e1, e2⟩ := Dd (congrArg Prod.fst q1)
  rw [e1, e2] at hL
  have hul := To 24
  generalize unitsTo 24 = us at *
  generalize linkS (us ++ [([], allL 24)]) P8 = R at *
  have hmn : P8 = [109, 97, 105, 110] := rfl
  rw [hmn] at hL
  refine Yh.fn.gcp (by simp) (by simp [Yo, Yr, Yp, Zw, Zp, Vc.S1.okN, At.okN, SV.okN, Res.okN, Res.outOk, Z1, Res.own, Value.oneCell']) fun w X fr hglob => ?_
  repeat' (first | ((first | (with_reducible first | refine T.regs ?_ | refine T.cond ?_ | refine T.reg ?_ | refine T.ret ?_ | refine T.exit ?_ | refine T.skip ?_) | ((with_reducible first | refine T.dregs ?_ ?_ | refine T.dreg ?_ ?_ | refine T.dregts ?_ ?_ | refine T.dregt ?_ ?_ | refine T.danys ?_ ?_ | refine T.dany ?_ ?_); exact mix) | ((with_reducible refine Za.gc (Rg) ?_ ?_); (focus ((simp [Zm]); done)))); simp only [Zh, Zi, Int.reduceEq, Int.reduceNeg, Int.reduceLE, Int.reduceLT, Nat.reduceSub, ↓reduceIte, reduceCtorEq, Nat.reduceEqDiff, Nat.reduceAdd, Nat.reduceMul, Nat.reduceLeDiff, Nat.reduceLT, Nat.reduceBEq, Nat.reduceBNe, implies_true, Yh.rs, Yh.res, hnl]) | (with_reducible first | refine T.seq ?_ | refine T.block ?_ | assumption | refine And.intro ?_ ?_) | (intro h; first | (exfalso; omega) | exact (tf h ‹_›).elim | exact (tf ‹_› h).elim | skip))
  all_goals first | omega | skip
  refine T.weak (Ent.litRow (m := 0) .line [⟨P8, W1, []⟩] rfl rfl rfl rfl (by decide)) ?_
  refine T.loop (ι := { k : Nat // k ≤ 24 })
    (fun x => ⟨[(10, .one (.a (.int .i64 (x.1 : Int)))), (9, .one (.a (.int .i64 24))), (8, .one (.a (.ref 0))), (1, .one (.a (.ref 1))), (0, .one (.a (.bool false)))],
      [(0, .row 9 .str Ye), (1, .row 40 .line (allL x.1))], 2⟩) (fun x => 24 - x.1) ⟨0, by simp⟩ (Ent.mk1 (fun n => if n = 0 then 1 else if n = 1 then 0 else n) (by simp [Z7, allL])) ?_
  rintro ⟨k, hk⟩
  simp only
  by_cases hlt : k < 24
  · have hal := Ig k hk
    have has := Fr k hlt
    have hw : IntKind.i64.wrap ((k : Int) + 1) = ((k + 1 : Nat) : Int) := Z4 (by omega)
    have ht : ((k : Int)).toNat = k := by omega
    have hx : Ye.getD k (Kd.dflt .str) = nameAt k := rfl
    have hlt3 : (k : Int) < 24 := by omega
    generalize nameAt k = nm at hx has
    generalize allL k = ls at has hal
    have hb1 : (ls.length + 1) * 64 ≤ 140737488355328 := by omega
    have hb2 : ls.length + 1 ≤ 4611686018427387904 := by omega
    repeat' (first | ((first | (with_reducible first | refine T.regs ?_ | refine T.cond ?_ | refine T.reg ?_ | refine T.ret ?_ | refine T.exit ?_ | refine T.skip ?_) | ((with_reducible first | refine T.dregs ?_ ?_ | refine T.dreg ?_ ?_ | refine T.dregts ?_ ?_ | refine T.dregt ?_ ?_ | refine T.danys ?_ ?_ | refine T.dany ?_ ?_); exact mix)); simp only [Zh, Zi, Int.reduceEq, Int.reduceNeg, Int.reduceLE, Int.reduceLT, Nat.reduceSub, ↓reduceIte, reduceCtorEq, Nat.reduceEqDiff, Nat.reduceAdd, Nat.reduceMul, Nat.reduceLeDiff, Nat.reduceLT, Nat.reduceBEq, Nat.reduceBNe, implies_true, Yh.rs, Yh.res, hx, hlt3, ht, hnl, hw, Int.ofNat_lt]) | (with_reducible first | refine T.seq ?_ | refine T.block ?_ | assumption | refine And.intro ?_ ?_) | (intro h; first | (exfalso; omega) | exact (tf h ‹_›).elim | exact (tf ‹_› h).elim | skip))
    all_goals first | omega | skip
    exact ⟨⟨k + 1, hlt⟩, (Ent.mk1 (fun n => if n = 1 then 3 else n) (by simp [Z7, has, hw, F4])), by simp only; omega⟩
  · have hk2 : k = 24 := by omega
    subst hk2
    generalize allL 24 = ls at *
    have h32 : ((R.1.1.length : Nat) : Int) < 32768 := by omega
    have h25 : ((R.1.2.1.length : Nat) : Int) = 25 := by omega
    repeat' (first | ((first | (with_reducible first | refine T.regs ?_ | refine T.cond ?_ | refine T.reg ?_ | refine T.ret ?_ | refine T.exit ?_ | refine T.skip ?_) | ((with_reducible first | refine T.dregs ?_ ?_ | refine T.dreg ?_ ?_ | refine T.dregts ?_ ?_ | refine T.dregt ?_ ?_ | refine T.danys ?_ ?_ | refine T.dany ?_ ?_); exact mix) | (with_reducible refine Za.ru hglob (hU) ?_) | ((with_reducible refine Za.gc (hL) ?_ ?_); (focus ((simp [Zm]); done)))); simp only [Zh, Zi, Int.reduceEq, Int.reduceNeg, Int.reduceLE, Int.reduceLT, Nat.reduceSub, ↓reduceIte, reduceCtorEq, Nat.reduceEqDiff, Nat.reduceAdd, Nat.reduceMul, Nat.reduceLeDiff, Nat.reduceLT, Nat.reduceBEq, Nat.reduceBNe, implies_true, Yh.rs, Yh.res, h32, h25, hul]) | (with_reducible first | refine T.seq ?_ | refine T.block ?_ | assumption | refine And.intro ?_ ?_) | (intro h; first | (exfalso; omega) | exact (tf h ‹_›).elim | exact (tf ‹_› h).elim | skip))
    all_goals first | omega | exact .inl rfl | skip
end Go.Proofs.YtjochhncheheaaaGreatDoor
