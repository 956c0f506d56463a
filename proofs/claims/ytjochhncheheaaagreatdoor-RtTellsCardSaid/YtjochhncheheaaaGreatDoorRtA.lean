/-
  A part of the proofs of this seat's laws: a step on the way. It has no conditions of its own.
-/
import Derived.Test.YtjochhncheheaaaGreatDoorIrX
import Derived.Test.YtjochhncheheaaaGreatDoorInstr
import Derived.Test.YtjochhncheheaaaGreatDoorShelfT
import Derived.Sort.OwnSorted
import Derived.Sort.KeysCollected
namespace Go.Proofs.YtjochhncheheaaaGreatDoor
open Go Go.RowKit Vc
set_option linter.unusedVariables false
set_option linter.unusedSimpArgs false
attribute [local irreducible] T Za Z2 Ent RdC RwC Xl Zc Zs
def S5 : List (List UInt8 × Nat) := [([109, 117, 108], 46), ([117, 100, 105, 118], 47), ([117, 114, 101, 109], 49), ([115, 100, 105, 118], 50), ([115, 114, 101, 109], 52), ([115, 104, 108], 53), ([115, 104, 114], 55), ([115, 97, 114], 56)]
set_option maxHeartbeats 4000000 in
theorem J8 : GC Tryz.prog 15 [] [] 0 [] (.one (.a (.ref 0))) [(0, .fmap S5)] 1 := by
  refine T8.fn.gc (by simp) (by simp [Yo, Yr, Yp, Zw, Zp, Vc.S1.okN, At.okN, SV.okN, Res.okN, Res.outOk, Z1, Res.own, Value.oneCell']) fun w X fr => ?_
  repeat' (first | ((first | (with_reducible first | refine T.regs ?_ | refine T.cond ?_ | refine T.reg ?_ | refine T.ret ?_ | refine T.exit ?_ | refine T.skip ?_) | ((with_reducible first | refine T.dregs ?_ ?_ | refine T.dreg ?_ ?_ | refine T.dregts ?_ ?_ | refine T.dregt ?_ ?_ | refine T.danys ?_ ?_ | refine T.dany ?_ ?_); exact mix)); simp only [Zh, Zi, Int.reduceEq, Int.reduceNeg, Int.reduceLE, Int.reduceLT, Nat.reduceSub, ↓reduceIte, reduceCtorEq, Nat.reduceEqDiff, Nat.reduceAdd, Nat.reduceMul, Nat.reduceLeDiff, Nat.reduceLT, Nat.reduceBEq, Nat.reduceBNe, implies_true, T8.rs, T8.res, S5]) | (with_reducible first | refine T.seq ?_ | refine T.block ?_ | assumption | refine And.intro ?_ ?_) | (intro h; first | (exfalso; omega) | exact (tf h ‹_›).elim | exact (tf ‹_› h).elim | skip))
  all_goals first | omega | rfl | skip
end Go.Proofs.YtjochhncheheaaaGreatDoor
namespace Go.Proofs.YtjochhncheheaaaGreatDoor
open Go Go.RowKit Vc
set_option linter.unusedVariables false
set_option linter.unusedSimpArgs false
def Q5 (l : List (List UInt8)) : List (List UInt8) := l.mergeSort fun x y => decide (x ≤ y)
theorem M1 (ρ : Env) (l : List (List UInt8)) : ((l.flatMap (Kd.enc .str)).map (At.den ρ)) = l.map encStr := by
  induction l with
  | nil => rfl
  | cons x l ih =>
    simp only [List.flatMap_cons, List.map_append, ih, List.map_cons]
    rfl
theorem Sort_gc (l : List (List UInt8)) (h0 : l ≠ []) (hl : l.length ≤ 1000) :
    GC Tryz.prog 16 [.a (.ref 0)] [(0, .row 9 .str l)] 1 [0] (.tup []) [(0, .row 9 .str (Q5 l))] 1 := by
  refine ⟨(by simp [Yo, Yr, Yp, Zw, Zp, Vc.S1.okN, At.okN, SV.okN, Res.okN, Res.outOk, Z1, Res.own, Value.oneCell']), fun ρ w hm => ?_⟩
  have hr := hm.res 0 _ (List.mem_cons_self ..)
  simp only [Res.holds] at hr
  rw [M1] at hr
  have hlen : (Q5 l).length = l.length := by simp [Q5]
  rcases hr.2 with ⟨_, hz⟩ | ⟨g, cap, cur, hv, hbase, hb, h1, h2, h3, h4⟩
  · exact absurd (List.length_eq_zero_iff.1 hz) h0
  have hsz : Kd.sz .str = 1 := rfl
  have hH := holds_of_block (ss := l) hb (by simpa [hsz] using h4)
  have hg := (Array.getElem?_eq_some_iff.1 hb).1
  have hc := Tryz.slices_Sort_string g 0 cap l w hH hg (by omega)
  have e1 : (At.den ρ (.ref 0)) = .slice (some ⟨g, 0, none⟩) l.length cap := hv
  simp only [List.map_cons, List.map_nil, S1.den, e1]
  refine hc.mono fun e w' ⟨he, n, os, hw⟩ => ⟨ρ, fun _ _ => rfl, he, ?_⟩
  have hgr := grownBy_sorted (w := w) (g := g) (n := n) (os := os) (Q5 l).toArray
  have hw' : w' = Go.Sort.grow (Go.Sort.putRow encStr (Sort.ahead w n) g 0 (Q5 l).toArray) os := hw
  rw [← hw'] at hgr
  have hrow : w'.ownsRow 0 9 1 (ρ 0) (Q5 l).length ((Q5 l).map encStr) := by
    rw [hv, hw', hlen]
    exact ownsRow_sorted hlen hbase hb h1 h2 (by simpa [hsz] using h3)
  have := Mem.step (ρ' := ρ) (nx' := 1) (w' := w') (ds := [0]) (m := 0) (r := .row 9 .str (Q5 l)) (D := [g]) hm
    (fun _ _ => rfl) (Nat.le_refl _) hm.one hgr.os hgr.tape hgr.output hgr.size
    (fun b o hbo hbn => by
      have hbl := (Array.getElem?_eq_some_iff.1 hbo).1
      rw [hgr.block b hbl (fun e => by cases e; exact hbn (List.mem_cons_self ..))]; exact hbo)
    (fun b hb' => by
      simp only [List.mem_singleton] at hb'; subst hb'
      exact ⟨0, _, List.mem_cons_self .., by simp, by simp [Res.block, hv, Value.ownBlock]⟩)
    (by omega) (.inl (by simp)) trivial
    (fun b hb' => by
      simp only [Res.block, hv, Value.ownBlock, Option.some.injEq] at hb'
      subst hb'
      exact ⟨Nat.lt_of_lt_of_le hg hgr.size, .inr ⟨0, _, List.mem_cons_self .., by simp, by simp [Res.block, hv, Value.ownBlock]⟩⟩)
    (fun O' _ _ => by simp only [Res.holds]; rw [M1]; exact hrow)
  simpa [del] using this
end Go.Proofs.YtjochhncheheaaaGreatDoor
namespace Go.Proofs.YtjochhncheheaaaGreatDoor
open Go Go.RowKit Vc
set_option linter.unusedVariables false
set_option linter.unusedSimpArgs false
attribute [local irreducible] T Za Z2 Ent RdC RwC Xl Zc Zs
def Wg : List (List UInt8) := [[49], [50], [52]]
def Xq (s : List UInt8) : List (List UInt8) := Wg.map fun t => s ++ t
def Oy (i : Nat) : List UInt8 := (S5.getD i ([], 0)).1
def Vt (seen : List Nat) : List (List UInt8) := seen.flatMap fun i => Xq (Oy i)
def Ye : List (List UInt8) := [[109, 117, 108], [115, 97, 114], [115, 100, 105, 118], [115, 104, 108], [115, 104, 114], [115, 114, 101, 109], [117, 100, 105, 118], [117, 114, 101, 109]].flatMap Xq
theorem L6 : Ye.Pairwise fun a b => decide (a ≤ b) = true := by decide +kernel
theorem Hr : Ye.Perm (Vt (List.range 8)) := List.isPerm_iff.1 (by decide +kernel)
theorem El {seen : List Nat} (hnd : seen.Nodup) (hlt : ∀ i ∈ seen, i < 8) (hall : ∀ i, i < 8 → i ∈ seen) : Q5 (Vt seen) = Ye := by
  have hp : seen.Perm (List.range 8) := (List.perm_ext_iff_of_nodup hnd List.nodup_range).2 fun i => by
    rw [List.mem_range]; exact ⟨hlt i, hall i⟩
  have hp2 : (Vt seen).Perm Ye := (hp.flatMap_right _).trans Hr.symm
  have := mergeSort_of_perm hp2
  show (Vt seen).mergeSort (fun x y => decide (x ≤ y)) = Ye
  have e : Ye.mergeSort (fun x y => decide (x ≤ y)) = Ye := List.mergeSort_of_pairwise L6
  exact Eq.trans this e
theorem Jg {seen : List Nat} (hnd : seen.Nodup) (hlt : ∀ i ∈ seen, i < 8) : seen.length ≤ 8 := by
  have hp : seen.Perm ((List.range 8).filter fun i => decide (i ∈ seen)) := (List.perm_ext_iff_of_nodup hnd (List.nodup_range.filter _)).2 fun i => by
    simp only [List.mem_filter, List.mem_range, decide_eq_true_eq]
    exact ⟨fun h => ⟨hlt i h, h⟩, fun h => h.2⟩
  rw [hp.length_eq]
  exact Nat.le_trans (List.length_filter_le _ _) (by simp)
theorem E7 : ∀ i, i < 8 → (Oy i).length ≤ 4 := by decide
theorem Kv : ∀ j, j < 3 → (Wg.getD j []).length ≤ 1 := by decide
theorem Gp (seen : List Nat) : (Vt seen).length = 3 * seen.length := by
  induction seen with
  | nil => rfl
  | cons i seen ih =>
    simp only [Vt, List.flatMap_cons, List.length_append] at ih ⊢
    rw [ih]
    simp [Xq, Wg]; omega
theorem Iw (seen : List Nat) (i : Nat) : Vt (seen ++ [i]) = Vt seen ++ Xq (Oy i) := by simp [Vt]
set_option maxHeartbeats 8000000 in
set_option maxRecDepth 100000 in
theorem Rg : GC Tryz.prog 6 [] [] 0 [] (.one (.a (.ref 0))) [(0, .row 9 .str Ye)] 1 := by
  refine Xg.fn.gc (by simp) (by simp [Yo, Yr, Yp, Zw, Zp, Vc.S1.okN, At.okN, SV.okN, Res.okN, Res.outOk, Z1, Res.own, Value.oneCell']) fun w X fr => ?_
  have hkl : S5.length = 8 := rfl
  repeat' (first | ((first | (with_reducible first | refine T.regs ?_ | refine T.cond ?_ | refine T.reg ?_ | refine T.ret ?_ | refine T.exit ?_ | refine T.skip ?_) | ((with_reducible first | refine T.dregs ?_ ?_ | refine T.dreg ?_ ?_ | refine T.dregts ?_ ?_ | refine T.dregt ?_ ?_ | refine T.danys ?_ ?_ | refine T.dany ?_ ?_); exact mix) | ((with_reducible refine Za.gc (J8) ?_ ?_); (focus ((simp [Zm]); done)))); simp only [Zh, Zi, Int.reduceEq, Int.reduceNeg, Int.reduceLE, Int.reduceLT, Nat.reduceSub, ↓reduceIte, reduceCtorEq, Nat.reduceEqDiff, Nat.reduceAdd, Nat.reduceMul, Nat.reduceLeDiff, Nat.reduceLT, Nat.reduceBEq, Nat.reduceBNe, implies_true, Xg.rs, Xg.res, hkl]) | (with_reducible first | refine T.seq ?_ | refine T.block ?_ | assumption | refine And.intro ?_ ?_) | (intro h; first | (exfalso; omega) | exact (tf h ‹_›).elim | exact (tf ‹_› h).elim | skip))
  all_goals first | omega | skip
  refine T.weak (Ent.nilRow (t := 1) 9 .str rfl) ?_
  refine T.loop (ι := { seen : List Nat // seen.Nodup ∧ ∀ i ∈ seen, i < 8 })
    (fun x => ⟨[(6, .one (.a (.ref 1))), (1, .one (.a (.ref 2)))], [(0, .fmap S5), (1, .fiter 0 8 x.1), (2, .row 9 .str (Vt x.1))], 3⟩) (fun x => 8 - x.1.length) ⟨[], by simp, by simp⟩ (Ent.mk1 (id) (by simp [Z7, Vt])) ?_
  rintro ⟨seen, hnd, hlt⟩
  simp only
  have hlen := Jg hnd hlt
  have hol := Gp seen
  refine T.regs ?_
  simp only [Zh, Zi, Int.reduceEq, Int.reduceNeg, Int.reduceLE, Int.reduceLT, Nat.reduceSub, ↓reduceIte, reduceCtorEq, Nat.reduceEqDiff, Nat.reduceAdd, Nat.reduceMul, Nat.reduceLeDiff, Nat.reduceLT, Nat.reduceBEq, Nat.reduceBNe, implies_true, Xg.r3, hkl]
  refine ⟨fun hall => ?_, fun i s f hg hn => ?_⟩
  · have hne : Vt seen ≠ [] := by
      intro e
      rw [e] at hol
      have : seen.length = 0 := by simp at hol; omega
      have h0 := hall 0 (by omega)
      rw [List.length_eq_zero_iff.1 this] at h0; cases h0
    have hS := Sort_gc (Vt seen) hne (by omega)
    rw [El hnd hlt hall] at hS
    repeat' (first | ((first | (with_reducible first | refine T.regs ?_ | refine T.cond ?_ | refine T.reg ?_ | refine T.ret ?_ | refine T.exit ?_ | refine T.skip ?_) | ((with_reducible first | refine T.dregs ?_ ?_ | refine T.dreg ?_ ?_ | refine T.dregts ?_ ?_ | refine T.dregt ?_ ?_ | refine T.danys ?_ ?_ | refine T.dany ?_ ?_); exact mix) | ((with_reducible refine Za.gc (hS) ?_ ?_); (focus ((simp [Zm]); done)))); simp only [Zh, Zi, Int.reduceEq, Int.reduceNeg, Int.reduceLE, Int.reduceLT, Nat.reduceSub, ↓reduceIte, reduceCtorEq, Nat.reduceEqDiff, Nat.reduceAdd, Nat.reduceMul, Nat.reduceLeDiff, Nat.reduceLT, Nat.reduceBEq, Nat.reduceBNe, implies_true, Xg.rs, Xg.res]) | (with_reducible first | refine T.seq ?_ | refine T.block ?_ | assumption | refine And.intro ?_ ?_) | (intro h; first | (exfalso; omega) | exact (tf h ‹_›).elim | exact (tf ‹_› h).elim | skip))
    all_goals first | omega | skip
  · have hi8 : i < 8 := by have := (List.getElem?_eq_some_iff.1 hg).1; omega
    have hk : Oy i = s := by unfold Oy; simp [List.getD, hg]
    repeat' (first | ((first | (with_reducible first | refine T.regs ?_ | refine T.cond ?_ | refine T.reg ?_ | refine T.ret ?_ | refine T.exit ?_ | refine T.skip ?_) | ((with_reducible first | refine T.dregs ?_ ?_ | refine T.dreg ?_ ?_ | refine T.dregts ?_ ?_ | refine T.dregt ?_ ?_ | refine T.danys ?_ ?_ | refine T.dany ?_ ?_); exact mix)); simp only [Zh, Zi, Int.reduceEq, Int.reduceNeg, Int.reduceLE, Int.reduceLT, Nat.reduceSub, ↓reduceIte, reduceCtorEq, Nat.reduceEqDiff, Nat.reduceAdd, Nat.reduceMul, Nat.reduceLeDiff, Nat.reduceLT, Nat.reduceBEq, Nat.reduceBNe, implies_true, Xg.rs, Xg.res, hg, hkl, List.getLast?_concat]) | (with_reducible first | refine T.seq ?_ | refine T.block ?_ | assumption | refine And.intro ?_ ?_) | (intro h; first | (exfalso; omega) | exact (tf h ‹_›).elim | exact (tf ‹_› h).elim | skip))
    all_goals first | omega | skip
    refine T.weak (Ent.litRow (m := 3) .str Wg rfl rfl rfl rfl (by decide)) ?_
    simp only [Zh, Zi, Int.reduceEq, Int.reduceNeg, Int.reduceLE, Int.reduceLT, Nat.reduceSub, ↓reduceIte, reduceCtorEq, Nat.reduceEqDiff, Nat.reduceAdd, Nat.reduceMul, Nat.reduceLeDiff, Nat.reduceLT, Nat.reduceBEq, Nat.reduceBNe, implies_true]
    refine T.loop (ι := { j : Nat // j ≤ 3 })
      (fun x => ⟨[(13, .one (.a (.int .i64 (x.1 : Int)))), (12, .one (.a (.int .i64 3))), (11, .one (.a (.ref 3))), (2, .one (.a (.str s))), (6, .one (.a (.ref 1))), (1, .one (.a (.ref 2)))],
        [(0, .fmap S5), (1, .fiter 0 8 (seen ++ [i])), (2, .row 9 .str (Vt seen ++ (Xq s).take x.1)), (3, .row 9 .str Wg)], 4⟩) (fun x => 3 - x.1) ⟨0, by simp⟩ (Ent.mk1 (id) (by simp [Z7])) ?_
    rintro ⟨j, hj⟩
    simp only
    have htl : Wg.length = 3 := rfl
    by_cases hj3 : j < 3
    · have hw : IntKind.i64.wrap ((j : Int) + 1) = ((j + 1 : Nat) : Int) := Z4 (by omega)
      have htj : ((j : Int)).toNat = j := by omega
      have htk : (Xq s).take (j + 1) = (Xq s).take j ++ [s ++ Wg.getD j (Kd.dflt .str)] := by
        have h3 : j < (Xq s).length := by simp [Xq, Wg]; omega
        rw [List.take_add_one, List.getElem?_eq_getElem h3]
        simp [Xq, List.getD, show j < Wg.length by omega]
      have hll : (Vt seen ++ (Xq s).take j).length ≤ 100 := by
        simp only [List.length_append, List.length_take, hol, Xq, List.length_map, htl]; omega
      generalize hx : Wg.getD j (Kd.dflt .str) = x at htk
      have hsx : s.length + x.length ≤ 1000 := by
        have h1 := E7 i hi8
        have h2 : x.length ≤ 1 := by rw [← hx]; exact Kv j hj3
        rw [hk] at h1; omega
      generalize hacc : Vt seen ++ (Xq s).take j = acc at hll
      have hacc2 : Vt seen ++ (Xq s).take (j + 1) = acc ++ [s ++ x] := by rw [htk, ← hacc, List.append_assoc]
      have hlt3 : (j : Int) < 3 := by omega
      repeat' (first | ((first | (with_reducible first | refine T.regs ?_ | refine T.cond ?_ | refine T.reg ?_ | refine T.ret ?_ | refine T.exit ?_ | refine T.skip ?_) | ((with_reducible first | refine T.dregs ?_ ?_ | refine T.dreg ?_ ?_ | refine T.dregts ?_ ?_ | refine T.dregt ?_ ?_ | refine T.danys ?_ ?_ | refine T.dany ?_ ?_); exact mix)); simp only [Zh, Zi, Int.reduceEq, Int.reduceNeg, Int.reduceLE, Int.reduceLT, Nat.reduceSub, ↓reduceIte, reduceCtorEq, Nat.reduceEqDiff, Nat.reduceAdd, Nat.reduceMul, Nat.reduceLeDiff, Nat.reduceLT, Nat.reduceBEq, Nat.reduceBNe, implies_true, Xg.rs, Xg.res, hx, hw, htj, htl, hlt3, Int.ofNat_lt]) | (with_reducible first | refine T.seq ?_ | refine T.block ?_ | assumption | refine And.intro ?_ ?_) | (intro h; first | (exfalso; omega) | exact (tf h ‹_›).elim | exact (tf ‹_› h).elim | skip))
      all_goals first | omega | skip
      exact ⟨⟨j + 1, hj3⟩, (Ent.mk1 (fun n => if n = 2 then 5 else n) (by simp [Z7, hacc2, hw])), by simp only; omega⟩
    · have hj2 : j = 3 := by omega
      subst hj2
      have h3 : (Xq s).take 3 = Xq s := rfl
      have hnl : (seen ++ [i]).Nodup := by
        rw [List.nodup_append]
        exact ⟨hnd, by simp, fun a ha b hb e => by simp at hb; subst hb; exact hn (e ▸ ha)⟩
      have hlt' : ∀ q ∈ seen ++ [i], q < 8 := by
        intro q hq
        rcases List.mem_append.1 hq with hq | hq
        · exact hlt q hq
        · simp only [List.mem_singleton] at hq; subst hq; exact hi8
      have hsl := Jg hnl hlt'
      have ho : Vt (seen ++ [i]) = Vt seen ++ Xq s := by rw [Iw, hk]
      have hlt3 : ¬ (((3 : Nat) : Int) < 3) := by decide
      rw [h3]
      repeat' (first | ((first | (with_reducible first | refine T.regs ?_ | refine T.cond ?_ | refine T.reg ?_ | refine T.ret ?_ | refine T.exit ?_ | refine T.skip ?_) | ((with_reducible first | refine T.dregs ?_ ?_ | refine T.dreg ?_ ?_ | refine T.dregts ?_ ?_ | refine T.dregt ?_ ?_ | refine T.danys ?_ ?_ | refine T.dany ?_ ?_); exact mix)); simp only [Zh, Zi, Int.reduceEq, Int.reduceNeg, Int.reduceLE, Int.reduceLT, Nat.reduceSub, ↓reduceIte, reduceCtorEq, Nat.reduceEqDiff, Nat.reduceAdd, Nat.reduceMul, Nat.reduceLeDiff, Nat.reduceLT, Nat.reduceBEq, Nat.reduceBNe, implies_true, Xg.rs, Xg.res, hlt3]) | (with_reducible first | refine T.seq ?_ | refine T.block ?_ | assumption | refine And.intro ?_ ?_) | (intro h; first | (exfalso; omega) | exact (tf h ‹_›).elim | exact (tf ‹_› h).elim | skip))
      all_goals first | omega | skip
      exact ⟨⟨seen ++ [i], hnl, hlt'⟩, (Ent.mk1 (id) (by simp [Z7, ho])), by simp only [List.length_append, List.length_cons, List.length_nil] at hsl ⊢; omega⟩
end Go.Proofs.YtjochhncheheaaaGreatDoor
