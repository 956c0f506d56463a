/-
  A part of the proofs of this seat's laws: a step on the way. It has no conditions of its own.
-/
import Derived.Test.YtjochhncheheaaaGreatDoorAsmB
import Derived.Test.YtjochhncheheaaaGreatDoorIrL
import Derived.Test.YtjochhncheheaaaGreatDoorRefA
namespace Go.Proofs.YtjochhncheheaaaGreatDoor
open Go.RowKit Vc
set_option linter.unusedVariables false
set_option linter.unusedSimpArgs false
attribute [local irreducible] T Za Z2 Ent RdC RwC Xl Zc Zs
def Qk (s : List UInt8) : Bool := decide (0 < s.length) && decide (Y8 s 0 = 46)
theorem Yd (s : List UInt8) (hs : s ≠ []) : RdC Tryz.prog 24 [.v (.a (.str s))] (.one (.a (.bool (Qk s)))) := by
  refine Ur.fn.rd (by simp) (by repeat' (first | exact rfl | exact trivial | refine And.intro ?_ ?_ | (simp [SV.bd, Vc.S1.bd, At.bd, Zq, Zr, Ins.cells, Ln.cells]; done))) (by repeat' (first | exact rfl | exact trivial | refine And.intro ?_ ?_ | (simp [SV.bd, Vc.S1.bd, At.bd, Zq, Zr, Ins.cells, Ln.cells]; done))) fun w => ?_
  have hl : 0 < s.length := List.length_pos_iff.2 hs
  repeat' (first | ((first | (with_reducible first | refine T.regs ?_ | refine T.cond ?_ | refine T.reg ?_ | refine T.ret ?_ | refine T.exit ?_ | refine T.skip ?_) | ((with_reducible first | refine T.dregs ?_ ?_ | refine T.dreg ?_ ?_ | refine T.dregts ?_ ?_ | refine T.dregt ?_ ?_ | refine T.danys ?_ ?_ | refine T.dany ?_ ?_); exact mix)); simp only [Zh, Zi, Int.reduceEq, Int.reduceNeg, Int.reduceLE, Int.reduceLT, Nat.reduceSub, ↓reduceIte, reduceCtorEq, Nat.reduceEqDiff, Nat.reduceAdd, Nat.reduceMul, Nat.reduceLeDiff, Nat.reduceLT, Nat.reduceBEq, Nat.reduceBNe, implies_true, Ur.rs, Ur.res, Qk, hl]) | (with_reducible first | refine T.seq ?_ | refine T.block ?_ | assumption | refine And.intro ?_ ?_) | (intro h; first | (exfalso; omega) | exact (tf h ‹_›).elim | exact (tf ‹_› h).elim | skip))
  all_goals first | omega | (simp; done) | skip
def Tl {α : Type} (p : α → Bool) : List α → Nat → Int
  | [], _ => -1
  | x :: l, k => if p x = true then k else Tl p l (k + 1)
def Ra : Spot := ⟨[], 0⟩
theorem R3 (l : List Spot) (g : List S1 → Option SV) (p : Spot → Bool) (hg : ∀ y ∈ l, g [.agg [.str y.name, .int .i64 y.at_]] = some (.one (.a (.bool (p y))))) (hlen : l.length ≤ 9223372036854775807) :
    GC Tryz.prog 30 [.a (.ref 0), .a (.ref 1)] [(0, .ro .spot l), (1, .fn Tryz.prog g)] 2 [] (.one (.a (.int .i64 (Tl p l 0)))) [] 2 := by
  refine Zf.fn.gc (by simp) (by simp [Yo, Yr, Yp, Zw, Zp, Vc.S1.okN, At.okN, SV.okN, Res.okN, Res.outOk, Z1, Res.own, Value.oneCell']) fun w X fr => ?_
  repeat' (first | ((first | (with_reducible first | refine T.regs ?_ | refine T.cond ?_ | refine T.reg ?_ | refine T.ret ?_ | refine T.exit ?_ | refine T.skip ?_) | ((with_reducible first | refine T.dregs ?_ ?_ | refine T.dreg ?_ ?_ | refine T.dregts ?_ ?_ | refine T.dregt ?_ ?_ | refine T.danys ?_ ?_ | refine T.dany ?_ ?_); exact mix)); simp only [Zh, Zi, Int.reduceEq, Int.reduceNeg, Int.reduceLE, Int.reduceLT, Nat.reduceSub, ↓reduceIte, reduceCtorEq, Nat.reduceEqDiff, Nat.reduceAdd, Nat.reduceMul, Nat.reduceLeDiff, Nat.reduceLT, Nat.reduceBEq, Nat.reduceBNe, implies_true, Zf.rs, Zf.res]) | (with_reducible first | refine T.seq ?_ | refine T.block ?_ | assumption | refine And.intro ?_ ?_) | (intro h; first | (exfalso; omega) | exact (tf h ‹_›).elim | exact (tf ‹_› h).elim | skip))
  refine T.loop (ι := { k : Nat // k ≤ l.length ∧ Tl p (l.drop k) k = Tl p l 0 })
    (fun x => ⟨[(8, .one (.a (.int .i64 (x.1 : Int)))), (7, .one (.a (.int .i64 l.length))), (1, .one (.a (.ref 1))), (0, .one (.a (.ref 0)))], [(0, .ro .spot l), (1, .fn Tryz.prog g)], 2⟩)
    (fun x => l.length - x.1) ⟨0, by simp, by simp⟩ (Ent.mk1 (id) (by simp [Z7])) ?_
  rintro ⟨k, hk, hrun⟩
  by_cases hlt : k < l.length
  · have hdrop : l.drop k = l.getD k Ra :: l.drop (k + 1) := by
      rw [List.drop_eq_getElem_cons hlt]; simp [List.getD, hlt]
    have hmem : l.getD k Ra ∈ l := by simp [List.getD, hlt]
    generalize hx : l.getD k Ra = x at hdrop hmem
    have hx' : l.getD k (Kd.dflt .spot) = x := hx
    rw [hdrop] at hrun
    simp only [Tl] at hrun
    have hgx := hg x hmem
    have hw : IntKind.i64.wrap ((k : Int) + 1) = ((k + 1 : Nat) : Int) := Z4 (by omega)
    have ht : ((k : Int)).toNat = k := by omega
    cases hp : p x with
    | true =>
      rw [if_pos hp] at hrun
      rw [hp] at hgx
      repeat' (first | ((first | (with_reducible first | refine T.regs ?_ | refine T.cond ?_ | refine T.reg ?_ | refine T.ret ?_ | refine T.exit ?_ | refine T.skip ?_) | ((with_reducible first | refine T.dregs ?_ ?_ | refine T.dreg ?_ ?_ | refine T.dregts ?_ ?_ | refine T.dregt ?_ ?_ | refine T.danys ?_ ?_ | refine T.dany ?_ ?_); exact mix)); simp only [Zh, Zi, Int.reduceEq, Int.reduceNeg, Int.reduceLE, Int.reduceLT, Nat.reduceSub, ↓reduceIte, reduceCtorEq, Nat.reduceEqDiff, Nat.reduceAdd, Nat.reduceMul, Nat.reduceLeDiff, Nat.reduceLT, Nat.reduceBEq, Nat.reduceBNe, implies_true, Zf.rs, Zf.res, hx', hw, ht, hgx, Int.ofNat_lt]) | (with_reducible first | refine T.seq ?_ | refine T.block ?_ | assumption | refine And.intro ?_ ?_) | (intro h; first | (exfalso; omega) | exact (tf h ‹_›).elim | exact (tf ‹_› h).elim | skip))
      all_goals first | omega | (rw [← hrun]; done) | skip
    | false =>
      rw [if_neg (by simp [hp])] at hrun
      rw [hp] at hgx
      repeat' (first | ((first | (with_reducible first | refine T.regs ?_ | refine T.cond ?_ | refine T.reg ?_ | refine T.ret ?_ | refine T.exit ?_ | refine T.skip ?_) | ((with_reducible first | refine T.dregs ?_ ?_ | refine T.dreg ?_ ?_ | refine T.dregts ?_ ?_ | refine T.dregt ?_ ?_ | refine T.danys ?_ ?_ | refine T.dany ?_ ?_); exact mix)); simp only [Zh, Zi, Int.reduceEq, Int.reduceNeg, Int.reduceLE, Int.reduceLT, Nat.reduceSub, ↓reduceIte, reduceCtorEq, Nat.reduceEqDiff, Nat.reduceAdd, Nat.reduceMul, Nat.reduceLeDiff, Nat.reduceLT, Nat.reduceBEq, Nat.reduceBNe, implies_true, Zf.rs, Zf.res, hx', hw, ht, hgx, Int.ofNat_lt]) | (with_reducible first | refine T.seq ?_ | refine T.block ?_ | assumption | refine And.intro ?_ ?_) | (intro h; first | (exfalso; omega) | exact (tf h ‹_›).elim | exact (tf ‹_› h).elim | skip))
      all_goals first | omega | exact ⟨⟨k + 1, hlt, hrun⟩, (Ent.mk1 (id) (by simp [Z7, hw])), by simp only; omega⟩ | skip
  · have hk2 : k = l.length := by omega
    subst hk2
    rw [List.drop_length] at hrun
    simp only [Tl] at hrun
    repeat' (first | ((first | (with_reducible first | refine T.regs ?_ | refine T.cond ?_ | refine T.reg ?_ | refine T.ret ?_ | refine T.exit ?_ | refine T.skip ?_) | ((with_reducible first | refine T.dregs ?_ ?_ | refine T.dreg ?_ ?_ | refine T.dregts ?_ ?_ | refine T.dregt ?_ ?_ | refine T.danys ?_ ?_ | refine T.dany ?_ ?_); exact mix)); simp only [Zh, Zi, Int.reduceEq, Int.reduceNeg, Int.reduceLE, Int.reduceLT, Nat.reduceSub, ↓reduceIte, reduceCtorEq, Nat.reduceEqDiff, Nat.reduceAdd, Nat.reduceMul, Nat.reduceLeDiff, Nat.reduceLT, Nat.reduceBEq, Nat.reduceBNe, implies_true, Zf.rs, Zf.res, Int.ofNat_lt]) | (with_reducible first | refine T.seq ?_ | refine T.block ?_ | assumption | refine And.intro ?_ ?_) | (intro h; first | (exfalso; omega) | exact (tf h ‹_›).elim | exact (tf ‹_› h).elim | skip))
    all_goals first | omega | (rw [← hrun]; done) | skip
theorem Pf (l : List Spot) (g : List S1 → Option SV) (p : Spot → Bool) (hg : ∀ y ∈ l, g [.agg [.str y.name, .int .i64 y.at_]] = some (.one (.a (.bool (p y))))) (hlen : l.length ≤ 9223372036854775807) :
    GC Tryz.prog 25 [.a (.ref 0), .a (.ref 1)] [(0, .ro .spot l), (1, .fn Tryz.prog g)] 2 [] (.one (.a (.bool (decide (0 ≤ Tl p l 0))))) [] 2 := by
  refine Zz.fn.gc (by simp) (by simp [Yo, Yr, Yp, Zw, Zp, Vc.S1.okN, At.okN, SV.okN, Res.okN, Res.outOk, Z1, Res.own, Value.oneCell']) fun w X fr => ?_
  repeat' (first | ((first | (with_reducible first | refine T.regs ?_ | refine T.cond ?_ | refine T.reg ?_ | refine T.ret ?_ | refine T.exit ?_ | refine T.skip ?_) | ((with_reducible first | refine T.dregs ?_ ?_ | refine T.dreg ?_ ?_ | refine T.dregts ?_ ?_ | refine T.dregt ?_ ?_ | refine T.danys ?_ ?_ | refine T.dany ?_ ?_); exact mix) | ((with_reducible refine Za.gc (R3 l g p hg hlen) ?_ ?_); (focus ((simp [Zm]))))); simp only [Zh, Zi, Int.reduceEq, Int.reduceNeg, Int.reduceLE, Int.reduceLT, Nat.reduceSub, ↓reduceIte, reduceCtorEq, Nat.reduceEqDiff, Nat.reduceAdd, Nat.reduceMul, Nat.reduceLeDiff, Nat.reduceLT, Nat.reduceBEq, Nat.reduceBNe, implies_true, Zz.rs, Zz.res]) | (with_reducible first | refine T.seq ?_ | refine T.block ?_ | assumption | refine And.intro ?_ ?_) | (intro h; first | (exfalso; omega) | exact (tf h ‹_›).elim | exact (tf ‹_› h).elim | skip))
theorem Mv (l : List Int) (v : Int) (hlen : l.length ≤ 9223372036854775807) :
    RdC Tryz.prog 75 [.ro (.int .i64) l, .v (.a (.int .i64 v))] (.one (.a (.int .i64 (Tl (fun x => decide (v = x)) l 0)))) := by
  refine Z9.fn.rd (by simp) (by repeat' (first | exact rfl | exact trivial | refine And.intro ?_ ?_ | (simp [SV.bd, Vc.S1.bd, At.bd, Zq, Zr, Ins.cells, Ln.cells]; done))) (by repeat' (first | exact rfl | exact trivial | refine And.intro ?_ ?_ | (simp [SV.bd, Vc.S1.bd, At.bd, Zq, Zr, Ins.cells, Ln.cells]; done))) fun w => ?_
  repeat' (first | ((first | (with_reducible first | refine T.regs ?_ | refine T.cond ?_ | refine T.reg ?_ | refine T.ret ?_ | refine T.exit ?_ | refine T.skip ?_) | ((with_reducible first | refine T.dregs ?_ ?_ | refine T.dreg ?_ ?_ | refine T.dregts ?_ ?_ | refine T.dregt ?_ ?_ | refine T.danys ?_ ?_ | refine T.dany ?_ ?_); exact mix)); simp only [Zh, Zi, Int.reduceEq, Int.reduceNeg, Int.reduceLE, Int.reduceLT, Nat.reduceSub, ↓reduceIte, reduceCtorEq, Nat.reduceEqDiff, Nat.reduceAdd, Nat.reduceMul, Nat.reduceLeDiff, Nat.reduceLT, Nat.reduceBEq, Nat.reduceBNe, implies_true, Z9.rs, Z9.res]) | (with_reducible first | refine T.seq ?_ | refine T.block ?_ | assumption | refine And.intro ?_ ?_) | (intro h; first | (exfalso; omega) | exact (tf h ‹_›).elim | exact (tf ‹_› h).elim | skip))
  refine T.loop (ι := { k : Nat // k ≤ l.length ∧ Tl (fun x => decide (v = x)) (l.drop k) k = Tl (fun x => decide (v = x)) l 0 })
    (fun x => ⟨[(8, .one (.a (.int .i64 (x.1 : Int)))), (7, .one (.a (.int .i64 l.length))), (1, .one (.a (.int .i64 v))), (0, .one (.a (.ref 0)))], [(0, .ro (.int .i64) l)], 1⟩)
    (fun x => l.length - x.1) ⟨0, by simp, by simp⟩ (Ent.mk1 (id) (by simp [Z7])) ?_
  rintro ⟨k, hk, hrun⟩
  by_cases hlt : k < l.length
  · have hdrop : l.drop k = l.getD k 0 :: l.drop (k + 1) := by
      rw [List.drop_eq_getElem_cons hlt]; simp [List.getD, hlt]
    generalize hx : l.getD k 0 = x at hdrop
    have hx' : l.getD k (Kd.dflt (.int .i64)) = x := hx
    rw [hdrop] at hrun
    simp only [Tl, decide_eq_true_eq] at hrun
    have hw : IntKind.i64.wrap ((k : Int) + 1) = ((k + 1 : Nat) : Int) := Z4 (by omega)
    have ht : ((k : Int)).toNat = k := by omega
    by_cases hp : v = x
    · rw [if_pos hp] at hrun
      have hpd : decide (v = x) = true := decide_eq_true hp
      repeat' (first | ((first | (with_reducible first | refine T.regs ?_ | refine T.cond ?_ | refine T.reg ?_ | refine T.ret ?_ | refine T.exit ?_ | refine T.skip ?_) | ((with_reducible first | refine T.dregs ?_ ?_ | refine T.dreg ?_ ?_ | refine T.dregts ?_ ?_ | refine T.dregt ?_ ?_ | refine T.danys ?_ ?_ | refine T.dany ?_ ?_); exact mix)); simp only [Zh, Zi, Int.reduceEq, Int.reduceNeg, Int.reduceLE, Int.reduceLT, Nat.reduceSub, ↓reduceIte, reduceCtorEq, Nat.reduceEqDiff, Nat.reduceAdd, Nat.reduceMul, Nat.reduceLeDiff, Nat.reduceLT, Nat.reduceBEq, Nat.reduceBNe, implies_true, Z9.rs, Z9.res, hx', hw, ht, hpd, Int.ofNat_lt]) | (with_reducible first | refine T.seq ?_ | refine T.block ?_ | assumption | refine And.intro ?_ ?_) | (intro h; first | (exfalso; omega) | exact (tf h ‹_›).elim | exact (tf ‹_› h).elim | skip))
      all_goals first | omega | (rw [← hrun]; done) | skip
    · rw [if_neg hp] at hrun
      have hpd : decide (v = x) = false := decide_eq_false hp
      repeat' (first | ((first | (with_reducible first | refine T.regs ?_ | refine T.cond ?_ | refine T.reg ?_ | refine T.ret ?_ | refine T.exit ?_ | refine T.skip ?_) | ((with_reducible first | refine T.dregs ?_ ?_ | refine T.dreg ?_ ?_ | refine T.dregts ?_ ?_ | refine T.dregt ?_ ?_ | refine T.danys ?_ ?_ | refine T.dany ?_ ?_); exact mix)); simp only [Zh, Zi, Int.reduceEq, Int.reduceNeg, Int.reduceLE, Int.reduceLT, Nat.reduceSub, ↓reduceIte, reduceCtorEq, Nat.reduceEqDiff, Nat.reduceAdd, Nat.reduceMul, Nat.reduceLeDiff, Nat.reduceLT, Nat.reduceBEq, Nat.reduceBNe, implies_true, Z9.rs, Z9.res, hx', hw, ht, hpd, Int.ofNat_lt]) | (with_reducible first | refine T.seq ?_ | refine T.block ?_ | assumption | refine And.intro ?_ ?_) | (intro h; first | (exfalso; omega) | exact (tf h ‹_›).elim | exact (tf ‹_› h).elim | skip))
      all_goals first | omega | exact ⟨⟨k + 1, hlt, hrun⟩, (Ent.mk1 (id) (by simp [Z7, hw])), by simp only; omega⟩ | skip
  · have hk2 : k = l.length := by omega
    subst hk2
    rw [List.drop_length] at hrun
    simp only [Tl] at hrun
    repeat' (first | ((first | (with_reducible first | refine T.regs ?_ | refine T.cond ?_ | refine T.reg ?_ | refine T.ret ?_ | refine T.exit ?_ | refine T.skip ?_) | ((with_reducible first | refine T.dregs ?_ ?_ | refine T.dreg ?_ ?_ | refine T.dregts ?_ ?_ | refine T.dregt ?_ ?_ | refine T.danys ?_ ?_ | refine T.dany ?_ ?_); exact mix)); simp only [Zh, Zi, Int.reduceEq, Int.reduceNeg, Int.reduceLE, Int.reduceLT, Nat.reduceSub, ↓reduceIte, reduceCtorEq, Nat.reduceEqDiff, Nat.reduceAdd, Nat.reduceMul, Nat.reduceLeDiff, Nat.reduceLT, Nat.reduceBEq, Nat.reduceBNe, implies_true, Z9.rs, Z9.res, Int.ofNat_lt]) | (with_reducible first | refine T.seq ?_ | refine T.block ?_ | assumption | refine And.intro ?_ ?_) | (intro h; first | (exfalso; omega) | exact (tf h ‹_›).elim | exact (tf ‹_› h).elim | skip))
    all_goals first | omega | (rw [← hrun]; done) | skip
theorem Ns {α : Type} (p : α → Bool) : ∀ (l : List α) (k : Nat), decide (0 ≤ Tl p l k) = l.any p
  | [], k => by simp [Tl]
  | x :: l, k => by
    by_cases hp : p x = true
    · simp [Tl, hp]
    · simp only [Bool.not_eq_true] at hp
      simpa [Tl, hp] using Ns p l (k + 1)
theorem Kb (l : List Int) (v : Int) (hlen : l.length ≤ 9223372036854775807) :
    RdC Tryz.prog 27 [.ro (.int .i64) l, .v (.a (.int .i64 v))] (.one (.a (.bool (decide (v ∈ l))))) := by
  refine Xd.fn.rd (by simp) (by repeat' (first | exact rfl | exact trivial | refine And.intro ?_ ?_ | (simp [SV.bd, Vc.S1.bd, At.bd, Zq, Zr, Ins.cells, Ln.cells]; done))) (by repeat' (first | exact rfl | exact trivial | refine And.intro ?_ ?_ | (simp [SV.bd, Vc.S1.bd, At.bd, Zq, Zr, Ins.cells, Ln.cells]; done))) fun w => ?_
  have h1 : decide (0 ≤ Tl (fun x => decide (v = x)) l 0) = decide (v ∈ l) := by
    rw [Ns, Bool.eq_iff_iff]; simp
  repeat' (first | ((first | (with_reducible first | refine T.regs ?_ | refine T.cond ?_ | refine T.reg ?_ | refine T.ret ?_ | refine T.exit ?_ | refine T.skip ?_) | ((with_reducible first | refine T.dregs ?_ ?_ | refine T.dreg ?_ ?_ | refine T.dregts ?_ ?_ | refine T.dregt ?_ ?_ | refine T.danys ?_ ?_ | refine T.dany ?_ ?_); exact mix) | ((with_reducible first | apply Za.rd (Mv l v hlen) | apply Zc.rd (Mv l v hlen)); (focus ((repeat' (first | exact rfl | exact trivial | refine And.intro ?_ ?_ | (simp [SV.bd, Vc.S1.bd, At.bd, Zq, Zr, Ins.cells, Ln.cells]; done))); done)))); simp only [Zh, Zi, Int.reduceEq, Int.reduceNeg, Int.reduceLE, Int.reduceLT, Nat.reduceSub, ↓reduceIte, reduceCtorEq, Nat.reduceEqDiff, Nat.reduceAdd, Nat.reduceMul, Nat.reduceLeDiff, Nat.reduceLT, Nat.reduceBEq, Nat.reduceBNe, implies_true, Xd.rs, Xd.res, h1]) | (with_reducible first | refine T.seq ?_ | refine T.block ?_ | assumption | refine And.intro ?_ ?_) | (intro h; first | (exfalso; omega) | exact (tf h ‹_›).elim | exact (tf ‹_› h).elim | skip))
def hasL (s : List UInt8) (y : Ln) : Bool := decide (y.label = s) && !Qk s
def holderL : List (List UInt8 × List Ln) → List UInt8 → Nat → Int
  | [], _, _ => -1
  | u :: l, s, k => if u.2.any (hasL s) = true then k else holderL l s (k + 1)
def Fits (l : List (List UInt8 × List Ln)) : Prop := l.length ≤ 9223372036854775807 ∧ ∀ u ∈ l, u.2.length ≤ 9223372036854775807
def Rx : List UInt8 × List Ln := ([], [])
end Go.Proofs.YtjochhncheheaaaGreatDoor
namespace Go.Proofs.YtjochhncheheaaaGreatDoor
open Go.RowKit Vc
set_option linter.unusedVariables false
set_option linter.unusedSimpArgs false
attribute [local irreducible] T Za Z2 Ent RdC RwC Xl Zc Zs
def L4 (s : Spot) : Prop := (0 ≤ s.at_ ∧ s.at_ ≤ 65536) ∧ Xo s.name = true ∧ s.name ≠ []
theorem Pj : ∀ (l : List Ln) (k : Nat) (a : Int) (seen : List (List UInt8)) (acc : List Spot), 0 ≤ a → a ≤ 65536 → (∀ s ∈ acc, L4 s) → (∀ s ∈ (Wf l k a seen acc).1, L4 s) ∧ (Wf l k a seen acc).1.length ≤ acc.length + l.length ∧ 0 ≤ (Wf l k a seen acc).2.1 ∧ (Wf l k a seen acc).2.1 ≤ 65536
  | [], k, a, seen, acc, h0, h1, h => ⟨h, Nat.le_refl _, h0, h1⟩
  | x :: l, k, a, seen, acc, h0, h1, h => by
    unfold Wf
    have hle := Ks x
    split
    · simp
    · rename_i hw
      have hw' : Ve x = 0 := by simpa using hw
      split
      · rename_i hlb
        split
        · simp
        · obtain ⟨g1, g2, g3⟩ := Pj l (k + 1) a (x.label :: seen) (acc ++ [⟨x.label, a⟩]) h0 h1 (fun s hs => by
            rcases List.mem_append.1 hs with hs | hs
            · exact h s hs
            · simp only [List.mem_singleton] at hs; subst hs
              exact ⟨⟨h0, h1⟩, (T7 hw' hlb).1, hlb⟩)
          refine ⟨g1, ?_, g3⟩
          simp only [List.length_append, List.length_cons, List.length_nil] at g2 ⊢; omega
      · split
        · simp
        · obtain ⟨g1, g2, g3⟩ := Pj l (k + 1) (a + Sw x) seen acc (by omega) (by omega) h
          refine ⟨g1, ?_, g3⟩
          simp only [List.length_cons]; omega
theorem N4 (l : List Ln) (a : Int) (h0 : 0 ≤ a) (h1 : a ≤ 65536) : (∀ s ∈ (Yf l a).1, L4 s) ∧ (Yf l a).1.length ≤ l.length ∧ 0 ≤ (Yf l a).2.1 ∧ (Yf l a).2.1 ≤ 65536 := by
  have := Pj l 0 a [] [] h0 h1 (by simp)
  simpa [Yf] using this
@[reducible] def Own : Type := List UInt8 → Option (Kd.ty (.int .i64))
def Uy : Own := fun _ => none
theorem L5 : (fun _ => none) = Uy := rfl
def Vk (u : Int) : List Spot → Own → Option Own
  | [], f => some f
  | s :: l, f => if Qk s.name = true then Vk u l f else if (f s.name).isSome = true then none else Vk u l fun t => if t = s.name then some u else f t
def Vj : List (List UInt8 × List Ln) → Nat → Own → Own × Int × Int
  | [], _, f => (f, 0, 0)
  | u :: l, k, f => if 40000 < u.2.length then (Uy, 5, k) else if (Yf u.2 0).2.2.1 ≠ 0 then (Uy, (Yf u.2 0).2.2.1, k) else
      match Vk k (Yf u.2 0).1 f with
      | none => (Uy, 7, k)
      | some f' => Vj l (k + 1) f'
def Yc (l : List (List UInt8 × List Ln)) : Own × Int × Int := if 400 < l.length then (Uy, 5, 0) else Vj l 0 Uy
def chV (l : List (List UInt8 × List Ln)) : SV := if (Yc l).2.1 = 0 then .tup [.a (.ref 1), .agg [.int .i64 0, .int .i64 0]] else .tup [.a (.raw (.map none)), .agg [.int .i64 (Yc l).2.1, .int .i64 (Yc l).2.2]]
noncomputable def chR (l : List (List UInt8 × List Ln)) : List (Nat × Res) := if (Yc l).2.1 = 0 then [(1, .smap Tryz.prog 9 3 (.int .i64) (Yc l).1 16000000)] else []
theorem Ic {l : List (List UInt8 × List Ln)} {e k : Int} {f : Own} (h : Yc l = (f, e, k)) (he : e ≠ 0) : chV l = .tup [.a (.raw (.map none)), .agg [.int .i64 e, .int .i64 k]] ∧ chR l = [] := by
  unfold chV chR; rw [h]; simp [he]
theorem ch_ok {l : List (List UInt8 × List Ln)} {k : Int} {f : Own} (h : Yc l = (f, 0, k)) : chV l = .tup [.a (.ref 1), .agg [.int .i64 0, .int .i64 0]] ∧ chR l = [(1, .smap Tryz.prog 9 3 (.int .i64) f 16000000)] := by
  unfold chV chR; rw [h]; simp
set_option maxHeartbeats 4000000 in
theorem Hy (l : List (List UInt8 × List Ln)) (hf : Fits l) :
    GC Tryz.prog 22 [.a (.ref 0)] [(0, .rou l)] 1 [] (chV l) (chR l) 2 := by
  refine Z0.fn.gc (by simp) (by
    unfold chV chR
    by_cases h : (Yc l).2.1 = 0
    · rw [if_pos h, if_pos h]; exact (by simp [Yo, Yr, Yp, Zw, Zp, Vc.S1.okN, At.okN, SV.okN, Res.okN, Res.outOk, Z1, Res.own, Value.oneCell'])
    · rw [if_neg h, if_neg h]; exact (by simp [Yo, Yr, Yp, Zw, Zp, Vc.S1.okN, At.okN, SV.okN, Res.okN, Res.outOk, Z1, Res.own, Value.oneCell'])) fun w X fr => ?_
  by_cases hbig : 400 < l.length
  · have e : Yc l = (Uy, 5, 0) := if_pos hbig
    obtain ⟨e1, e2⟩ := Ic e (by decide)
    rw [e1, e2]
    repeat' (first | ((first | (with_reducible first | refine T.regs ?_ | refine T.cond ?_ | refine T.reg ?_ | refine T.ret ?_ | refine T.exit ?_ | refine T.skip ?_) | ((with_reducible first | refine T.dregs ?_ ?_ | refine T.dreg ?_ ?_ | refine T.dregts ?_ ?_ | refine T.dregt ?_ ?_ | refine T.danys ?_ ?_ | refine T.dany ?_ ?_); exact mix)); simp only [Zh, Zi, Int.reduceEq, Int.reduceNeg, Int.reduceLE, Int.reduceLT, Nat.reduceSub, ↓reduceIte, reduceCtorEq, Nat.reduceEqDiff, Nat.reduceAdd, Nat.reduceMul, Nat.reduceLeDiff, Nat.reduceLT, Nat.reduceBEq, Nat.reduceBNe, implies_true, Z0.rs, Z0.res]) | (with_reducible first | refine T.seq ?_ | refine T.block ?_ | assumption | refine And.intro ?_ ?_) | (intro h; first | (exfalso; omega) | exact (tf h ‹_›).elim | exact (tf ‹_› h).elim | skip))
    all_goals first | omega | skip
  have e : Yc l = Vj l 0 Uy := if_neg hbig
  repeat' (first | ((first | (with_reducible first | refine T.regs ?_ | refine T.cond ?_ | refine T.reg ?_ | refine T.ret ?_ | refine T.exit ?_ | refine T.skip ?_) | ((with_reducible first | refine T.dregs ?_ ?_ | refine T.dreg ?_ ?_ | refine T.dregts ?_ ?_ | refine T.dregt ?_ ?_ | refine T.danys ?_ ?_ | refine T.dany ?_ ?_); exact mix)); simp only [Zh, Zi, Int.reduceEq, Int.reduceNeg, Int.reduceLE, Int.reduceLT, Nat.reduceSub, ↓reduceIte, reduceCtorEq, Nat.reduceEqDiff, Nat.reduceAdd, Nat.reduceMul, Nat.reduceLeDiff, Nat.reduceLT, Nat.reduceBEq, Nat.reduceBNe, implies_true, Z0.rs, Z0.res]) | (with_reducible first | refine T.seq ?_ | refine T.block ?_ | assumption | refine And.intro ?_ ?_) | (intro h; first | (exfalso; omega) | exact (tf h ‹_›).elim | exact (tf ‹_› h).elim | skip))
  all_goals first | omega | skip
  refine T.loop (ι := { p : Nat × Own × Nat // p.1 ≤ l.length ∧ Vj (l.drop p.1) p.1 p.2.1 = Yc l ∧ p.2.2 ≤ 40000 * p.1 })
    (fun x => ⟨[(21, .one (.a (.int .i64 (x.1.1 : Int)))), (20, .one (.a (.int .i64 l.length))), (19, .one (.a (.ref 0))), (4, .one (.a (.ref 2))), (3, .one (.a (.loc 1 0)))],
      [(2, .smap Tryz.prog 9 3 (.int .i64) x.1.2.1 x.1.2.2), (1, .cells 32 [.int .i64 0, .int .i64 0]), (0, .rou l)], 3⟩)
    (fun x => l.length - x.1.1) ⟨(0, Uy, 0), by simp, by simp [e], by simp⟩ (Ent.mk1 (id) (by simp [Z7, L5])) ?_
  rintro ⟨⟨k, f, n⟩, hk, hrun, hn⟩
  simp only at hk hrun hn
  by_cases hlt : k < l.length
  · have hdrop : l.drop k = l.getD k Rx :: l.drop (k + 1) := by
      rw [List.drop_eq_getElem_cons hlt]; simp [List.getD, hlt]
    generalize hx : l.getD k Rx = u at hdrop
    have hx' : l.getD k ([], []) = u := hx
    rw [hdrop] at hrun
    simp only [Vj] at hrun
    have hw : IntKind.i64.wrap ((k : Int) + 1) = ((k + 1 : Nat) : Int) := Z4 (by omega)
    have ht : ((k : Int)).toNat = k := by omega
    by_cases hul : 40000 < u.2.length
    · rw [if_pos hul] at hrun
      obtain ⟨e1, e2⟩ := Ic hrun.symm (by decide)
      rw [e1, e2]
      repeat' (first | ((first | (with_reducible first | refine T.regs ?_ | refine T.cond ?_ | refine T.reg ?_ | refine T.ret ?_ | refine T.exit ?_ | refine T.skip ?_) | ((with_reducible first | refine T.dregs ?_ ?_ | refine T.dreg ?_ ?_ | refine T.dregts ?_ ?_ | refine T.dregt ?_ ?_ | refine T.danys ?_ ?_ | refine T.dany ?_ ?_); exact mix)); simp only [Zh, Zi, Int.reduceEq, Int.reduceNeg, Int.reduceLE, Int.reduceLT, Nat.reduceSub, ↓reduceIte, reduceCtorEq, Nat.reduceEqDiff, Nat.reduceAdd, Nat.reduceMul, Nat.reduceLeDiff, Nat.reduceLT, Nat.reduceBEq, Nat.reduceBNe, implies_true, Z0.rs, Z0.res, hx', hw, ht, Int.ofNat_lt]) | (with_reducible first | refine T.seq ?_ | refine T.block ?_ | assumption | refine And.intro ?_ ?_) | (intro h; first | (exfalso; omega) | exact (tf h ‹_›).elim | exact (tf ‹_› h).elim | skip))
      all_goals first | omega | skip
    rw [if_neg hul] at hrun
    by_cases hsp : (Yf u.2 0).2.2.1 = 0
    · rw [if_neg (by simpa using hsp)] at hrun
      obtain ⟨hsok, hslen, _, _⟩ := N4 u.2 0 (by omega) (by omega)
      have hSp := Rt u.2 0 (by omega) (by omega) (by omega)
      generalize hsp1 : (Yf u.2 0).1 = sp at hrun hsok hslen hSp
      repeat' (first | ((first | (with_reducible first | refine T.regs ?_ | refine T.cond ?_ | refine T.reg ?_ | refine T.ret ?_ | refine T.exit ?_ | refine T.skip ?_) | ((with_reducible first | refine T.dregs ?_ ?_ | refine T.dreg ?_ ?_ | refine T.dregts ?_ ?_ | refine T.dregt ?_ ?_ | refine T.danys ?_ ?_ | refine T.dany ?_ ?_); exact mix) | ((with_reducible apply Za.rw (hSp)); (focus ((repeat' (first | exact rfl | exact trivial | refine And.intro ?_ ?_ | (simp [SV.bd, Vc.S1.bd, At.bd, Zq, Zr, Ins.cells, Ln.cells]; done))); done)))); simp only [Zh, Zi, Int.reduceEq, Int.reduceNeg, Int.reduceLE, Int.reduceLT, Nat.reduceSub, ↓reduceIte, reduceCtorEq, Nat.reduceEqDiff, Nat.reduceAdd, Nat.reduceMul, Nat.reduceLeDiff, Nat.reduceLT, Nat.reduceBEq, Nat.reduceBNe, implies_true, Z0.rs, Z0.res, hx', hw, ht, hsp, Int.ofNat_lt]) | (with_reducible first | refine T.seq ?_ | refine T.block ?_ | assumption | refine And.intro ?_ ?_) | (intro h; first | (exfalso; omega) | exact (tf h ‹_›).elim | exact (tf ‹_› h).elim | skip))
      all_goals first | omega | skip
      refine T.loop (ι := { p : Nat × Own × Nat // p.1 ≤ sp.length ∧ Vk k (sp.drop p.1) p.2.1 = Vk k sp f ∧ p.2.2 ≤ 40000 * k + p.1 })
        (fun x => ⟨[(48, .one (.a (.int .i64 (x.1.1 : Int)))), (47, .one (.a (.int .i64 sp.length))), (46, .one (.a (.ref 3))), (21, .one (.a (.int .i64 (k : Int)))), (20, .one (.a (.int .i64 l.length))), (19, .one (.a (.ref 0))), (5, .one (.a (.int .i64 (k : Int)))), (4, .one (.a (.ref 2))), (3, .one (.a (.loc 1 0)))],
          [(3, .row 79 .spot sp), (2, .smap Tryz.prog 9 3 (.int .i64) x.1.2.1 x.1.2.2), (1, .cells 32 [.int .i64 0, .int .i64 0]), (0, .rou l)], 4⟩)
        (fun x => sp.length - x.1.1) ⟨(0, f, n), by simp, by simp, by simpa using hn⟩ (Ent.mk1 (fun n => if n = 3 then 5 else n) (by simp [Z7])) ?_
      rintro ⟨⟨j, f', n'⟩, hj, hrun2, hn'⟩
      simp only at hj hrun2 hn'
      by_cases hlt2 : j < sp.length
      · have hdrop2 : sp.drop j = sp.getD j Ra :: sp.drop (j + 1) := by
          rw [List.drop_eq_getElem_cons hlt2]; simp [List.getD, hlt2]
        have hmem2 : sp.getD j Ra ∈ sp := by simp [List.getD, hlt2]
        generalize hy : sp.getD j Ra = y at hdrop2 hmem2
        have hy' : sp.getD j (Kd.dflt .spot) = y := hy
        obtain ⟨⟨hy0, hy1⟩, hyn, hyne⟩ := hsok y hmem2
        have hyl := Rk hyn
        rw [hdrop2] at hrun2
        simp only [Vk] at hrun2
        have hw2 : IntKind.i64.wrap ((j : Int) + 1) = ((j + 1 : Nat) : Int) := Z4 (by omega)
        have ht2 : ((j : Int)).toNat = j := by omega
        cases hown : Qk y.name with
        | true =>
          rw [if_pos hown] at hrun2
          repeat' (first | ((first | (with_reducible first | refine T.regs ?_ | refine T.cond ?_ | refine T.reg ?_ | refine T.ret ?_ | refine T.exit ?_ | refine T.skip ?_) | ((with_reducible first | refine T.dregs ?_ ?_ | refine T.dreg ?_ ?_ | refine T.dregts ?_ ?_ | refine T.dregt ?_ ?_ | refine T.danys ?_ ?_ | refine T.dany ?_ ?_); exact mix) | ((with_reducible first | apply Za.rd (Yd y.name hyne) | apply Zc.rd (Yd y.name hyne)); (focus ((repeat' (first | exact rfl | exact trivial | refine And.intro ?_ ?_ | (simp [SV.bd, Vc.S1.bd, At.bd, Zq, Zr, Ins.cells, Ln.cells]; done))); done)))); simp only [Zh, Zi, Int.reduceEq, Int.reduceNeg, Int.reduceLE, Int.reduceLT, Nat.reduceSub, ↓reduceIte, reduceCtorEq, Nat.reduceEqDiff, Nat.reduceAdd, Nat.reduceMul, Nat.reduceLeDiff, Nat.reduceLT, Nat.reduceBEq, Nat.reduceBNe, implies_true, Z0.rs, Z0.res, hy', hw2, ht2, hown, Int.ofNat_lt]) | (with_reducible first | refine T.seq ?_ | refine T.block ?_ | assumption | refine And.intro ?_ ?_) | (intro h; first | (exfalso; omega) | exact (tf h ‹_›).elim | exact (tf ‹_› h).elim | skip))
          all_goals first | omega | skip
          exact ⟨⟨(j + 1, f', n'), hlt2, hrun2, by simp only; omega⟩, (Ent.mk1 (id) (by simp [Z7, hw2])), by simp only; omega⟩
        | false =>
          rw [if_neg (by simp [hown])] at hrun2
          cases hfy : f' y.name with
          | some v =>
            rw [if_pos (by rw [hfy]; rfl)] at hrun2
            rw [← hrun2] at hrun
            simp only at hrun
            obtain ⟨e1, e2⟩ := Ic hrun.symm (by decide)
            rw [e1, e2]
            repeat' (first | ((first | (with_reducible first | refine T.regs ?_ | refine T.cond ?_ | refine T.reg ?_ | refine T.ret ?_ | refine T.exit ?_ | refine T.skip ?_) | ((with_reducible first | refine T.dregs ?_ ?_ | refine T.dreg ?_ ?_ | refine T.dregts ?_ ?_ | refine T.dregt ?_ ?_ | refine T.danys ?_ ?_ | refine T.dany ?_ ?_); exact mix) | ((with_reducible first | apply Za.rd (Yd y.name hyne) | apply Zc.rd (Yd y.name hyne)); (focus ((repeat' (first | exact rfl | exact trivial | refine And.intro ?_ ?_ | (simp [SV.bd, Vc.S1.bd, At.bd, Zq, Zr, Ins.cells, Ln.cells]; done))); done)))); simp only [Zh, Zi, Int.reduceEq, Int.reduceNeg, Int.reduceLE, Int.reduceLT, Nat.reduceSub, ↓reduceIte, reduceCtorEq, Nat.reduceEqDiff, Nat.reduceAdd, Nat.reduceMul, Nat.reduceLeDiff, Nat.reduceLT, Nat.reduceBEq, Nat.reduceBNe, implies_true, Z0.rs, Z0.res, hy', hw2, ht2, hown, hfy, Int.ofNat_lt]) | (with_reducible first | refine T.seq ?_ | refine T.block ?_ | assumption | refine And.intro ?_ ?_) | (intro h; first | (exfalso; omega) | exact (tf h ‹_›).elim | exact (tf ‹_› h).elim | skip))
            all_goals first | omega | skip
          | none =>
            rw [if_neg (by rw [hfy]; simp)] at hrun2
            repeat' (first | ((first | (with_reducible first | refine T.regs ?_ | refine T.cond ?_ | refine T.reg ?_ | refine T.ret ?_ | refine T.exit ?_ | refine T.skip ?_) | ((with_reducible first | refine T.dregs ?_ ?_ | refine T.dreg ?_ ?_ | refine T.dregts ?_ ?_ | refine T.dregt ?_ ?_ | refine T.danys ?_ ?_ | refine T.dany ?_ ?_); exact mix) | ((with_reducible first | apply Za.rd (Yd y.name hyne) | apply Zc.rd (Yd y.name hyne)); (focus ((repeat' (first | exact rfl | exact trivial | refine And.intro ?_ ?_ | (simp [SV.bd, Vc.S1.bd, At.bd, Zq, Zr, Ins.cells, Ln.cells]; done))); done)))); simp only [Zh, Zi, Int.reduceEq, Int.reduceNeg, Int.reduceLE, Int.reduceLT, Nat.reduceSub, ↓reduceIte, reduceCtorEq, Nat.reduceEqDiff, Nat.reduceAdd, Nat.reduceMul, Nat.reduceLeDiff, Nat.reduceLT, Nat.reduceBEq, Nat.reduceBNe, implies_true, Z0.rs, Z0.res, hy', hw2, ht2, hown, hfy, Int.ofNat_lt]) | (with_reducible first | refine T.seq ?_ | refine T.block ?_ | assumption | refine And.intro ?_ ?_) | (intro h; first | (exfalso; omega) | exact (tf h ‹_›).elim | exact (tf ‹_› h).elim | skip))
            all_goals first | omega | skip
            all_goals try (first | (show (-9223372036854775808 : Int) ≤ (k : Int); omega) | (show (k : Int) ≤ 9223372036854775807; omega))
            exact ⟨⟨(j + 1, fun t => if t = y.name then some (k : Int) else f' t, n' + 1), hlt2, hrun2, by simp only; omega⟩, (Ent.mk1 (id) (by simp [Z7, hw2])), by simp only; omega⟩
      · have hj2 : j = sp.length := by omega
        subst hj2
        rw [List.drop_length] at hrun2
        simp only [Vk] at hrun2
        rw [← hrun2] at hrun
        simp only at hrun
        repeat' (first | ((first | (with_reducible first | refine T.regs ?_ | refine T.cond ?_ | refine T.reg ?_ | refine T.ret ?_ | refine T.exit ?_ | refine T.skip ?_) | ((with_reducible first | refine T.dregs ?_ ?_ | refine T.dreg ?_ ?_ | refine T.dregts ?_ ?_ | refine T.dregt ?_ ?_ | refine T.danys ?_ ?_ | refine T.dany ?_ ?_); exact mix)); simp only [Zh, Zi, Int.reduceEq, Int.reduceNeg, Int.reduceLE, Int.reduceLT, Nat.reduceSub, ↓reduceIte, reduceCtorEq, Nat.reduceEqDiff, Nat.reduceAdd, Nat.reduceMul, Nat.reduceLeDiff, Nat.reduceLT, Nat.reduceBEq, Nat.reduceBNe, implies_true, Z0.rs, Z0.res, hw, Int.ofNat_lt]) | (with_reducible first | refine T.seq ?_ | refine T.block ?_ | assumption | refine And.intro ?_ ?_) | (intro h; first | (exfalso; omega) | exact (tf h ‹_›).elim | exact (tf ‹_› h).elim | skip))
        all_goals first | omega | skip
        exact ⟨⟨(k + 1, f', n'), hlt, hrun, by simp only; omega⟩, (Ent.mk1 (id) (by simp [Z7, hw])), by simp only; omega⟩
    · rw [if_pos (by simpa using hsp)] at hrun
      obtain ⟨e1, e2⟩ := Ic hrun.symm (by simpa using hsp)
      rw [e1, e2]
      repeat' (first | ((first | (with_reducible first | refine T.regs ?_ | refine T.cond ?_ | refine T.reg ?_ | refine T.ret ?_ | refine T.exit ?_ | refine T.skip ?_) | ((with_reducible first | refine T.dregs ?_ ?_ | refine T.dreg ?_ ?_ | refine T.dregts ?_ ?_ | refine T.dregt ?_ ?_ | refine T.danys ?_ ?_ | refine T.dany ?_ ?_); exact mix) | ((with_reducible apply Za.rw (Rt u.2 0 (by omega) (by omega) (by omega))); (focus ((repeat' (first | exact rfl | exact trivial | refine And.intro ?_ ?_ | (simp [SV.bd, Vc.S1.bd, At.bd, Zq, Zr, Ins.cells, Ln.cells]; done))); done)))); simp only [Zh, Zi, Int.reduceEq, Int.reduceNeg, Int.reduceLE, Int.reduceLT, Nat.reduceSub, ↓reduceIte, reduceCtorEq, Nat.reduceEqDiff, Nat.reduceAdd, Nat.reduceMul, Nat.reduceLeDiff, Nat.reduceLT, Nat.reduceBEq, Nat.reduceBNe, implies_true, Z0.rs, Z0.res, hx', hw, ht, hsp, Int.ofNat_lt]) | (with_reducible first | refine T.seq ?_ | refine T.block ?_ | assumption | refine And.intro ?_ ?_) | (intro h; first | (exfalso; omega) | exact (tf h ‹_›).elim | exact (tf ‹_› h).elim | skip))
      all_goals first | omega | skip
  · have hk2 : k = l.length := by omega
    subst hk2
    rw [List.drop_length] at hrun
    simp only [Vj] at hrun
    obtain ⟨e1, e2⟩ := ch_ok hrun.symm
    rw [e1, e2]
    refine T.weak (Ent.smapLe (m := 2) 16000000 rfl (by simp only; omega)) ?_
    repeat' (first | ((first | (with_reducible first | refine T.regs ?_ | refine T.cond ?_ | refine T.reg ?_ | refine T.ret ?_ | refine T.exit ?_ | refine T.skip ?_) | ((with_reducible first | refine T.dregs ?_ ?_ | refine T.dreg ?_ ?_ | refine T.dregts ?_ ?_ | refine T.dregt ?_ ?_ | refine T.danys ?_ ?_ | refine T.dany ?_ ?_); exact mix)); simp only [Zh, Zi, Int.reduceEq, Int.reduceNeg, Int.reduceLE, Int.reduceLT, Nat.reduceSub, ↓reduceIte, reduceCtorEq, Nat.reduceEqDiff, Nat.reduceAdd, Nat.reduceMul, Nat.reduceLeDiff, Nat.reduceLT, Nat.reduceBEq, Nat.reduceBNe, implies_true, Z0.rs, Z0.res, Int.ofNat_lt]) | (with_reducible first | refine T.seq ?_ | refine T.block ?_ | assumption | refine And.intro ?_ ?_) | (intro h; first | (exfalso; omega) | exact (tf h ‹_›).elim | exact (tf ‹_› h).elim | skip))
    all_goals first | omega | skip
end Go.Proofs.YtjochhncheheaaaGreatDoor
