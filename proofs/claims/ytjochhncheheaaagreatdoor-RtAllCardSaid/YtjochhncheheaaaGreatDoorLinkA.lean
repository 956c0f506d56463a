/-
  A part of the proofs of this seat's laws: a step on the way. It has no conditions of its own.
-/
import Derived.Test.YtjochhncheheaaaGreatDoorAsmB
import Derived.Test.YtjochhncheheaaaGreatDoorIrL
import Derived.Test.YtjochhncheheaaaGreatDoorRefA
namespace Go.Proofs.YtjochhncheheaaaGreatDoor
open Go.RowKit Vc
set_option linter.unusedVariables false
set_option linter.unusedSimpArgs false
attribute [local irreducible] T Za Z2 Ent RdC RwC Xm Zc Zs
def R7 (s : List UInt8) : Bool := decide (0 < s.length) && decide (Y3 s 0 = 46)
theorem Ya (s : List UInt8) (hs : s ≠ []) : RdC Tryz.prog 24 [.v (.a (.str s))] (.one (.a (.bool (R7 s)))) := by
  refine Ur.fn.rd (by simp) (by repeat' (first | exact rfl | exact trivial | refine And.intro ?_ ?_ | (simp [SV.bd, Vc.S1.bd, At.bd, Zo, Zr, Ins.cells, Ln.cells]; done))) (by repeat' (first | exact rfl | exact trivial | refine And.intro ?_ ?_ | (simp [SV.bd, Vc.S1.bd, At.bd, Zo, Zr, Ins.cells, Ln.cells]; done))) fun w => ?_
  have hl : 0 < s.length := List.length_pos_iff.2 hs
  repeat' (first | ((first | (with_reducible first | refine T.regs ?_ | refine T.cond ?_ | refine T.reg ?_ | refine T.ret ?_ | refine T.exit ?_ | refine T.skip ?_) | ((with_reducible first | refine T.dregs ?_ ?_ | refine T.dreg ?_ ?_ | refine T.dregts ?_ ?_ | refine T.dregt ?_ ?_ | refine T.danys ?_ ?_ | refine T.dany ?_ ?_); exact mix)); simp only [Zj, Zk, Int.reduceEq, Int.reduceNeg, Int.reduceLE, Int.reduceLT, Nat.reduceSub, ↓reduceIte, reduceCtorEq, Nat.reduceEqDiff, Nat.reduceAdd, Nat.reduceMul, Nat.reduceLeDiff, Nat.reduceLT, Nat.reduceBEq, Nat.reduceBNe, implies_true, Ur.rs, Ur.res, R7, hl]) | (with_reducible first | refine T.seq ?_ | refine T.block ?_ | assumption | refine And.intro ?_ ?_) | (intro h; first | (exfalso; omega) | exact (tf h ‹_›).elim | exact (tf ‹_› h).elim | skip))
  all_goals first | omega | (simp; done) | skip
def Tg {α : Type} (p : α → Bool) : List α → Nat → Int
  | [], _ => -1
  | x :: l, k => if p x = true then k else Tg p l (k + 1)
def S5 : Spot := ⟨[], 0⟩
theorem R5 (l : List Spot) (g : List S1 → Option SV) (p : Spot → Bool) (hg : ∀ y ∈ l, g [.agg [.str y.name, .int .i64 y.at_]] = some (.one (.a (.bool (p y))))) (hlen : l.length ≤ 9223372036854775807) :
    GC Tryz.prog 30 [.a (.ref 0), .a (.ref 1)] [(0, .ro .spot l), (1, .fn Tryz.prog g)] 2 [] (.one (.a (.int .i64 (Tg p l 0)))) [] 2 := by
  refine Zf.fn.gc (by simp) (by simp [Yn, Yp, Yo, Zw, Zq, Vc.S1.okN, At.okN, SV.okN, Res.okN, Res.outOk, Z1, Res.own, Value.oneCell']) fun w X fr => ?_
  repeat' (first | ((first | (with_reducible first | refine T.regs ?_ | refine T.cond ?_ | refine T.reg ?_ | refine T.ret ?_ | refine T.exit ?_ | refine T.skip ?_) | ((with_reducible first | refine T.dregs ?_ ?_ | refine T.dreg ?_ ?_ | refine T.dregts ?_ ?_ | refine T.dregt ?_ ?_ | refine T.danys ?_ ?_ | refine T.dany ?_ ?_); exact mix)); simp only [Zj, Zk, Int.reduceEq, Int.reduceNeg, Int.reduceLE, Int.reduceLT, Nat.reduceSub, ↓reduceIte, reduceCtorEq, Nat.reduceEqDiff, Nat.reduceAdd, Nat.reduceMul, Nat.reduceLeDiff, Nat.reduceLT, Nat.reduceBEq, Nat.reduceBNe, implies_true, Zf.rs, Zf.res]) | (with_reducible first | refine T.seq ?_ | refine T.block ?_ | assumption | refine And.intro ?_ ?_) | (intro h; first | (exfalso; omega) | exact (tf h ‹_›).elim | exact (tf ‹_› h).elim | skip))
  refine T.loop (ι := { k : Nat // k ≤ l.length ∧ Tg p (l.drop k) k = Tg p l 0 })
    (fun x => ⟨[(8, .one (.a (.int .i64 (x.1 : Int)))), (7, .one (.a (.int .i64 l.length))), (1, .one (.a (.ref 1))), (0, .one (.a (.ref 0)))], [(0, .ro .spot l), (1, .fn Tryz.prog g)], 2⟩)
    (fun x => l.length - x.1) ⟨0, by simp, by simp⟩ (Ent.mk1 (id) (by simp [Z8])) ?_
  rintro ⟨k, hk, hrun⟩
  by_cases hlt : k < l.length
  · have hdrop : l.drop k = l.getD k S5 :: l.drop (k + 1) := by
      rw [List.drop_eq_getElem_cons hlt]; simp [List.getD, hlt]
    have hmem : l.getD k S5 ∈ l := by simp [List.getD, hlt]
    generalize hx : l.getD k S5 = x at hdrop hmem
    have hx' : l.getD k (Kd.dflt .spot) = x := hx
    rw [hdrop] at hrun
    simp only [Tg] at hrun
    have hgx := hg x hmem
    have hw : IntKind.i64.wrap ((k : Int) + 1) = ((k + 1 : Nat) : Int) := Z5 (by omega)
    have ht : ((k : Int)).toNat = k := by omega
    cases hp : p x with
    | true =>
      rw [if_pos hp] at hrun
      rw [hp] at hgx
      repeat' (first | ((first | (with_reducible first | refine T.regs ?_ | refine T.cond ?_ | refine T.reg ?_ | refine T.ret ?_ | refine T.exit ?_ | refine T.skip ?_) | ((with_reducible first | refine T.dregs ?_ ?_ | refine T.dreg ?_ ?_ | refine T.dregts ?_ ?_ | refine T.dregt ?_ ?_ | refine T.danys ?_ ?_ | refine T.dany ?_ ?_); exact mix)); simp only [Zj, Zk, Int.reduceEq, Int.reduceNeg, Int.reduceLE, Int.reduceLT, Nat.reduceSub, ↓reduceIte, reduceCtorEq, Nat.reduceEqDiff, Nat.reduceAdd, Nat.reduceMul, Nat.reduceLeDiff, Nat.reduceLT, Nat.reduceBEq, Nat.reduceBNe, implies_true, Zf.rs, Zf.res, hx', hw, ht, hgx, Int.ofNat_lt]) | (with_reducible first | refine T.seq ?_ | refine T.block ?_ | assumption | refine And.intro ?_ ?_) | (intro h; first | (exfalso; omega) | exact (tf h ‹_›).elim | exact (tf ‹_› h).elim | skip))
      all_goals first | omega | (rw [← hrun]; done) | skip
    | false =>
      rw [if_neg (by simp [hp])] at hrun
      rw [hp] at hgx
      repeat' (first | ((first | (with_reducible first | refine T.regs ?_ | refine T.cond ?_ | refine T.reg ?_ | refine T.ret ?_ | refine T.exit ?_ | refine T.skip ?_) | ((with_reducible first | refine T.dregs ?_ ?_ | refine T.dreg ?_ ?_ | refine T.dregts ?_ ?_ | refine T.dregt ?_ ?_ | refine T.danys ?_ ?_ | refine T.dany ?_ ?_); exact mix)); simp only [Zj, Zk, Int.reduceEq, Int.reduceNeg, Int.reduceLE, Int.reduceLT, Nat.reduceSub, ↓reduceIte, reduceCtorEq, Nat.reduceEqDiff, Nat.reduceAdd, Nat.reduceMul, Nat.reduceLeDiff, Nat.reduceLT, Nat.reduceBEq, Nat.reduceBNe, implies_true, Zf.rs, Zf.res, hx', hw, ht, hgx, Int.ofNat_lt]) | (with_reducible first | refine T.seq ?_ | refine T.block ?_ | assumption | refine And.intro ?_ ?_) | (intro h; first | (exfalso; omega) | exact (tf h ‹_›).elim | exact (tf ‹_› h).elim | skip))
      all_goals first | omega | exact ⟨⟨k + 1, hlt, hrun⟩, (Ent.mk1 (id) (by simp [Z8, hw])), by simp only; omega⟩ | skip
  · have hk2 : k = l.length := by omega
    subst hk2
    rw [List.drop_length] at hrun
    simp only [Tg] at hrun
    repeat' (first | ((first | (with_reducible first | refine T.regs ?_ | refine T.cond ?_ | refine T.reg ?_ | refine T.ret ?_ | refine T.exit ?_ | refine T.skip ?_) | ((with_reducible first | refine T.dregs ?_ ?_ | refine T.dreg ?_ ?_ | refine T.dregts ?_ ?_ | refine T.dregt ?_ ?_ | refine T.danys ?_ ?_ | refine T.dany ?_ ?_); exact mix)); simp only [Zj, Zk, Int.reduceEq, Int.reduceNeg, Int.reduceLE, Int.reduceLT, Nat.reduceSub, ↓reduceIte, reduceCtorEq, Nat.reduceEqDiff, Nat.reduceAdd, Nat.reduceMul, Nat.reduceLeDiff, Nat.reduceLT, Nat.reduceBEq, Nat.reduceBNe, implies_true, Zf.rs, Zf.res, Int.ofNat_lt]) | (with_reducible first | refine T.seq ?_ | refine T.block ?_ | assumption | refine And.intro ?_ ?_) | (intro h; first | (exfalso; omega) | exact (tf h ‹_›).elim | exact (tf ‹_› h).elim | skip))
    all_goals first | omega | (rw [← hrun]; done) | skip
theorem Pd (l : List Spot) (g : List S1 → Option SV) (p : Spot → Bool) (hg : ∀ y ∈ l, g [.agg [.str y.name, .int .i64 y.at_]] = some (.one (.a (.bool (p y))))) (hlen : l.length ≤ 9223372036854775807) :
    GC Tryz.prog 25 [.a (.ref 0), .a (.ref 1)] [(0, .ro .spot l), (1, .fn Tryz.prog g)] 2 [] (.one (.a (.bool (decide (0 ≤ Tg p l 0))))) [] 2 := by
  refine Zy.fn.gc (by simp) (by simp [Yn, Yp, Yo, Zw, Zq, Vc.S1.okN, At.okN, SV.okN, Res.okN, Res.outOk, Z1, Res.own, Value.oneCell']) fun w X fr => ?_
  repeat' (first | ((first | (with_reducible first | refine T.regs ?_ | refine T.cond ?_ | refine T.reg ?_ | refine T.ret ?_ | refine T.exit ?_ | refine T.skip ?_) | ((with_reducible first | refine T.dregs ?_ ?_ | refine T.dreg ?_ ?_ | refine T.dregts ?_ ?_ | refine T.dregt ?_ ?_ | refine T.danys ?_ ?_ | refine T.dany ?_ ?_); exact mix) | ((with_reducible refine Za.gc (R5 l g p hg hlen) ?_ ?_); (focus ((simp [Zl]))))); simp only [Zj, Zk, Int.reduceEq, Int.reduceNeg, Int.reduceLE, Int.reduceLT, Nat.reduceSub, ↓reduceIte, reduceCtorEq, Nat.reduceEqDiff, Nat.reduceAdd, Nat.reduceMul, Nat.reduceLeDiff, Nat.reduceLT, Nat.reduceBEq, Nat.reduceBNe, implies_true, Zy.rs, Zy.res]) | (with_reducible first | refine T.seq ?_ | refine T.block ?_ | assumption | refine And.intro ?_ ?_) | (intro h; first | (exfalso; omega) | exact (tf h ‹_›).elim | exact (tf ‹_› h).elim | skip))
theorem Mp (l : List Int) (v : Int) (hlen : l.length ≤ 9223372036854775807) :
    RdC Tryz.prog 75 [.ro (.int .i64) l, .v (.a (.int .i64 v))] (.one (.a (.int .i64 (Tg (fun x => decide (v = x)) l 0)))) := by
  refine Z6.fn.rd (by simp) (by repeat' (first | exact rfl | exact trivial | refine And.intro ?_ ?_ | (simp [SV.bd, Vc.S1.bd, At.bd, Zo, Zr, Ins.cells, Ln.cells]; done))) (by repeat' (first | exact rfl | exact trivial | refine And.intro ?_ ?_ | (simp [SV.bd, Vc.S1.bd, At.bd, Zo, Zr, Ins.cells, Ln.cells]; done))) fun w => ?_
  repeat' (first | ((first | (with_reducible first | refine T.regs ?_ | refine T.cond ?_ | refine T.reg ?_ | refine T.ret ?_ | refine T.exit ?_ | refine T.skip ?_) | ((with_reducible first | refine T.dregs ?_ ?_ | refine T.dreg ?_ ?_ | refine T.dregts ?_ ?_ | refine T.dregt ?_ ?_ | refine T.danys ?_ ?_ | refine T.dany ?_ ?_); exact mix)); simp only [Zj, Zk, Int.reduceEq, Int.reduceNeg, Int.reduceLE, Int.reduceLT, Nat.reduceSub, ↓reduceIte, reduceCtorEq, Nat.reduceEqDiff, Nat.reduceAdd, Nat.reduceMul, Nat.reduceLeDiff, Nat.reduceLT, Nat.reduceBEq, Nat.reduceBNe, implies_true, Z6.rs, Z6.res]) | (with_reducible first | refine T.seq ?_ | refine T.block ?_ | assumption | refine And.intro ?_ ?_) | (intro h; first | (exfalso; omega) | exact (tf h ‹_›).elim | exact (tf ‹_› h).elim | skip))
  refine T.loop (ι := { k : Nat // k ≤ l.length ∧ Tg (fun x => decide (v = x)) (l.drop k) k = Tg (fun x => decide (v = x)) l 0 })
    (fun x => ⟨[(8, .one (.a (.int .i64 (x.1 : Int)))), (7, .one (.a (.int .i64 l.length))), (1, .one (.a (.int .i64 v))), (0, .one (.a (.ref 0)))], [(0, .ro (.int .i64) l)], 1⟩)
    (fun x => l.length - x.1) ⟨0, by simp, by simp⟩ (Ent.mk1 (id) (by simp [Z8])) ?_
  rintro ⟨k, hk, hrun⟩
  by_cases hlt : k < l.length
  · have hdrop : l.drop k = l.getD k 0 :: l.drop (k + 1) := by
      rw [List.drop_eq_getElem_cons hlt]; simp [List.getD, hlt]
    generalize hx : l.getD k 0 = x at hdrop
    have hx' : l.getD k (Kd.dflt (.int .i64)) = x := hx
    rw [hdrop] at hrun
    simp only [Tg, decide_eq_true_eq] at hrun
    have hw : IntKind.i64.wrap ((k : Int) + 1) = ((k + 1 : Nat) : Int) := Z5 (by omega)
    have ht : ((k : Int)).toNat = k := by omega
    by_cases hp : v = x
    · rw [if_pos hp] at hrun
      have hpd : decide (v = x) = true := decide_eq_true hp
      repeat' (first | ((first | (with_reducible first | refine T.regs ?_ | refine T.cond ?_ | refine T.reg ?_ | refine T.ret ?_ | refine T.exit ?_ | refine T.skip ?_) | ((with_reducible first | refine T.dregs ?_ ?_ | refine T.dreg ?_ ?_ | refine T.dregts ?_ ?_ | refine T.dregt ?_ ?_ | refine T.danys ?_ ?_ | refine T.dany ?_ ?_); exact mix)); simp only [Zj, Zk, Int.reduceEq, Int.reduceNeg, Int.reduceLE, Int.reduceLT, Nat.reduceSub, ↓reduceIte, reduceCtorEq, Nat.reduceEqDiff, Nat.reduceAdd, Nat.reduceMul, Nat.reduceLeDiff, Nat.reduceLT, Nat.reduceBEq, Nat.reduceBNe, implies_true, Z6.rs, Z6.res, hx', hw, ht, hpd, Int.ofNat_lt]) | (with_reducible first | refine T.seq ?_ | refine T.block ?_ | assumption | refine And.intro ?_ ?_) | (intro h; first | (exfalso; omega) | exact (tf h ‹_›).elim | exact (tf ‹_› h).elim | skip))
      all_goals first | omega | (rw [← hrun]; done) | skip
    · rw [if_neg hp] at hrun
      have hpd : decide (v = x) = false := decide_eq_false hp
      repeat' (first | ((first | (with_reducible first | refine T.regs ?_ | refine T.cond ?_ | refine T.reg ?_ | refine T.ret ?_ | refine T.exit ?_ | refine T.skip ?_) | ((with_reducible first | refine T.dregs ?_ ?_ | refine T.dreg ?_ ?_ | refine T.dregts ?_ ?_ | refine T.dregt ?_ ?_ | refine T.danys ?_ ?_ | refine T.dany ?_ ?_); exact mix)); simp only [Zj, Zk, Int.reduceEq, Int.reduceNeg, Int.reduceLE, Int.reduceLT, Nat.reduceSub, ↓reduceIte, reduceCtorEq, Nat.reduceEqDiff, Nat.reduceAdd, Nat.reduceMul, Nat.reduceLeDiff, Nat.reduceLT, Nat.reduceBEq, Nat.reduceBNe, implies_true, Z6.rs, Z6.res, hx', hw, ht, hpd, Int.ofNat_lt]) | (with_reducible first | refine T.seq ?_ | refine T.block ?_ | assumption | refine And.intro ?_ ?_) | (intro h; first | (exfalso; omega) | exact (tf h ‹_›).elim | exact (tf ‹_› h).elim | skip))
      all_goals first | omega | exact ⟨⟨k + 1, hlt, hrun⟩, (Ent.mk1 (id) (by simp [Z8, hw])), by simp only; omega⟩ | skip
  · have hk2 : k = l.length := by omega
    subst hk2
    rw [List.drop_length] at hrun
    simp only [Tg] at hrun
    repeat' (first | ((first | (with_reducible first | refine T.regs ?_ | refine T.cond ?_ | refine T.reg ?_ | refine T.ret ?_ | refine T.exit ?_ | refine T.skip ?_) | ((with_reducible first | refine T.dregs ?_ ?_ | refine T.dreg ?_ ?_ | refine T.dregts ?_ ?_ | refine T.dregt ?_ ?_ | refine T.danys ?_ ?_ | refine T.dany ?_ ?_); exact mix)); simp only [Zj, Zk, Int.reduceEq, Int.reduceNeg, Int.reduceLE, Int.reduceLT, Nat.reduceSub, ↓reduceIte, reduceCtorEq, Nat.reduceEqDiff, Nat.reduceAdd, Nat.reduceMul, Nat.reduceLeDiff, Nat.reduceLT, Nat.reduceBEq, Nat.reduceBNe, implies_true, Z6.rs, Z6.res, Int.ofNat_lt]) | (with_reducible first | refine T.seq ?_ | refine T.block ?_ | assumption | refine And.intro ?_ ?_) | (intro h; first | (exfalso; omega) | exact (tf h ‹_›).elim | exact (tf ‹_› h).elim | skip))
    all_goals first | omega | (rw [← hrun]; done) | skip
theorem Nf {α : Type} (p : α → Bool) : ∀ (l : List α) (k : Nat), decide (0 ≤ Tg p l k) = l.any p
  | [], k => by simp [Tg]
  | x :: l, k => by
    by_cases hp : p x = true
    · simp [Tg, hp]
    · simp only [Bool.not_eq_true] at hp
      simpa [Tg, hp] using Nf p l (k + 1)
theorem Lk (l : List Int) (v : Int) (hlen : l.length ≤ 9223372036854775807) :
    RdC Tryz.prog 27 [.ro (.int .i64) l, .v (.a (.int .i64 v))] (.one (.a (.bool (decide (v ∈ l))))) := by
  refine Y9.fn.rd (by simp) (by repeat' (first | exact rfl | exact trivial | refine And.intro ?_ ?_ | (simp [SV.bd, Vc.S1.bd, At.bd, Zo, Zr, Ins.cells, Ln.cells]; done))) (by repeat' (first | exact rfl | exact trivial | refine And.intro ?_ ?_ | (simp [SV.bd, Vc.S1.bd, At.bd, Zo, Zr, Ins.cells, Ln.cells]; done))) fun w => ?_
  have h1 : decide (0 ≤ Tg (fun x => decide (v = x)) l 0) = decide (v ∈ l) := by
    rw [Nf, Bool.eq_iff_iff]; simp
  repeat' (first | ((first | (with_reducible first | refine T.regs ?_ | refine T.cond ?_ | refine T.reg ?_ | refine T.ret ?_ | refine T.exit ?_ | refine T.skip ?_) | ((with_reducible first | refine T.dregs ?_ ?_ | refine T.dreg ?_ ?_ | refine T.dregts ?_ ?_ | refine T.dregt ?_ ?_ | refine T.danys ?_ ?_ | refine T.dany ?_ ?_); exact mix) | ((with_reducible first | apply Za.rd (Mp l v hlen) | apply Zc.rd (Mp l v hlen)); (focus ((repeat' (first | exact rfl | exact trivial | refine And.intro ?_ ?_ | (simp [SV.bd, Vc.S1.bd, At.bd, Zo, Zr, Ins.cells, Ln.cells]; done))); done)))); simp only [Zj, Zk, Int.reduceEq, Int.reduceNeg, Int.reduceLE, Int.reduceLT, Nat.reduceSub, ↓reduceIte, reduceCtorEq, Nat.reduceEqDiff, Nat.reduceAdd, Nat.reduceMul, Nat.reduceLeDiff, Nat.reduceLT, Nat.reduceBEq, Nat.reduceBNe, implies_true, Y9.rs, Y9.res, h1]) | (with_reducible first | refine T.seq ?_ | refine T.block ?_ | assumption | refine And.intro ?_ ?_) | (intro h; first | (exfalso; omega) | exact (tf h ‹_›).elim | exact (tf ‹_› h).elim | skip))
def hasL (s : List UInt8) (y : Ln) : Bool := decide (y.label = s) && !R7 s
def holderL : List (List UInt8 × List Ln) → List UInt8 → Nat → Int
  | [], _, _ => -1
  | u :: l, s, k => if u.2.any (hasL s) = true then k else holderL l s (k + 1)
def Fits (l : List (List UInt8 × List Ln)) : Prop := l.length ≤ 9223372036854775807 ∧ ∀ u ∈ l, u.2.length ≤ 9223372036854775807
def Rv : List UInt8 × List Ln := ([], [])
end Go.Proofs.YtjochhncheheaaaGreatDoor
namespace Go.Proofs.YtjochhncheheaaaGreatDoor
open Go.RowKit Vc
set_option linter.unusedVariables false
set_option linter.unusedSimpArgs false
attribute [local irreducible] T Za Z2 Ent RdC RwC Xm Zc Zs
def L8 (s : Spot) : Prop := (0 ≤ s.at_ ∧ s.at_ ≤ 65536) ∧ Xl s.name = true ∧ s.name ≠ []
theorem Pp : ∀ (l : List Ln) (k : Nat) (a : Int) (seen : List (List UInt8)) (acc : List Spot), 0 ≤ a → a ≤ 65536 → (∀ s ∈ acc, L8 s) → (∀ s ∈ (Wc l k a seen acc).1, L8 s) ∧ (Wc l k a seen acc).1.length ≤ acc.length + l.length ∧ 0 ≤ (Wc l k a seen acc).2.1 ∧ (Wc l k a seen acc).2.1 ≤ 65536
  | [], k, a, seen, acc, h0, h1, h => ⟨h, Nat.le_refl _, h0, h1⟩
  | x :: l, k, a, seen, acc, h0, h1, h => by
    unfold Wc
    have hle := Jb x
    split
    · simp
    · rename_i hw
      have hw' : Vl x = 0 := by simpa using hw
      split
      · rename_i hlb
        split
        · simp
        · obtain ⟨g1, g2, g3⟩ := Pp l (k + 1) a (x.label :: seen) (acc ++ [⟨x.label, a⟩]) h0 h1 (fun s hs => by
            rcases List.mem_append.1 hs with hs | hs
            · exact h s hs
            · simp only [List.mem_singleton] at hs; subst hs
              exact ⟨⟨h0, h1⟩, (Sf hw' hlb).1, hlb⟩)
          refine ⟨g1, ?_, g3⟩
          simp only [List.length_append, List.length_cons, List.length_nil] at g2 ⊢; omega
      · split
        · simp
        · obtain ⟨g1, g2, g3⟩ := Pp l (k + 1) (a + So x) seen acc (by omega) (by omega) h
          refine ⟨g1, ?_, g3⟩
          simp only [List.length_cons]; omega
theorem O3 (l : List Ln) (a : Int) (h0 : 0 ≤ a) (h1 : a ≤ 65536) : (∀ s ∈ (Yc l a).1, L8 s) ∧ (Yc l a).1.length ≤ l.length ∧ 0 ≤ (Yc l a).2.1 ∧ (Yc l a).2.1 ≤ 65536 := by
  have := Pp l 0 a [] [] h0 h1 (by simp)
  simpa [Yc] using this
@[reducible] def Own : Type := List UInt8 → Option (Kd.ty (.int .i64))
def Un : Own := fun _ => none
theorem L4 : (fun _ => none) = Un := rfl
def Vd (u : Int) : List Spot → Own → Option Own
  | [], f => some f
  | s :: l, f => if R7 s.name = true then Vd u l f else if (f s.name).isSome = true then none else Vd u l fun t => if t = s.name then some u else f t
def Vf : List (List UInt8 × List Ln) → Nat → Own → Own × Int × Int
  | [], _, f => (f, 0, 0)
  | u :: l, k, f => if 40000 < u.2.length then (Un, 5, k) else if (Yc u.2 0).2.2.1 ≠ 0 then (Un, (Yc u.2 0).2.2.1, k) else
      match Vd k (Yc u.2 0).1 f with
      | none => (Un, 7, k)
      | some f' => Vf l (k + 1) f'
def Z9 (l : List (List UInt8 × List Ln)) : Own × Int × Int := if 400 < l.length then (Un, 5, 0) else Vf l 0 Un
def chV (l : List (List UInt8 × List Ln)) : SV := if (Z9 l).2.1 = 0 then .tup [.a (.ref 1), .agg [.int .i64 0, .int .i64 0]] else .tup [.a (.raw (.map none)), .agg [.int .i64 (Z9 l).2.1, .int .i64 (Z9 l).2.2]]
noncomputable def chR (l : List (List UInt8 × List Ln)) : List (Nat × Res) := if (Z9 l).2.1 = 0 then [(1, .smap Tryz.prog 9 3 (.int .i64) (Z9 l).1 16000000)] else []
theorem Jj {l : List (List UInt8 × List Ln)} {e k : Int} {f : Own} (h : Z9 l = (f, e, k)) (he : e ≠ 0) : chV l = .tup [.a (.raw (.map none)), .agg [.int .i64 e, .int .i64 k]] ∧ chR l = [] := by
  unfold chV chR; rw [h]; simp [he]
theorem ch_ok {l : List (List UInt8 × List Ln)} {k : Int} {f : Own} (h : Z9 l = (f, 0, k)) : chV l = .tup [.a (.ref 1), .agg [.int .i64 0, .int .i64 0]] ∧ chR l = [(1, .smap Tryz.prog 9 3 (.int .i64) f 16000000)] := by
  unfold chV chR; rw [h]; simp
set_option maxHeartbeats 4000000 in
theorem Io (l : List (List UInt8 × List Ln)) (hf : Fits l) :
    GC Tryz.prog 22 [.a (.ref 0)] [(0, .rou l)] 1 [] (chV l) (chR l) 2 := by
  refine Zz.fn.gc (by simp) (by
    unfold chV chR
    by_cases h : (Z9 l).2.1 = 0
    · rw [if_pos h, if_pos h]; exact (by simp [Yn, Yp, Yo, Zw, Zq, Vc.S1.okN, At.okN, SV.okN, Res.okN, Res.outOk, Z1, Res.own, Value.oneCell'])
    · rw [if_neg h, if_neg h]; exact (by simp [Yn, Yp, Yo, Zw, Zq, Vc.S1.okN, At.okN, SV.okN, Res.okN, Res.outOk, Z1, Res.own, Value.oneCell'])) fun w X fr => ?_
  by_cases hbig : 400 < l.length
  · have e : Z9 l = (Un, 5, 0) := if_pos hbig
    obtain ⟨e1, e2⟩ := Jj e (by decide)
    rw [e1, e2]
    repeat' (first | ((first | (with_reducible first | refine T.regs ?_ | refine T.cond ?_ | refine T.reg ?_ | refine T.ret ?_ | refine T.exit ?_ | refine T.skip ?_) | ((with_reducible first | refine T.dregs ?_ ?_ | refine T.dreg ?_ ?_ | refine T.dregts ?_ ?_ | refine T.dregt ?_ ?_ | refine T.danys ?_ ?_ | refine T.dany ?_ ?_); exact mix)); simp only [Zj, Zk, Int.reduceEq, Int.reduceNeg, Int.reduceLE, Int.reduceLT, Nat.reduceSub, ↓reduceIte, reduceCtorEq, Nat.reduceEqDiff, Nat.reduceAdd, Nat.reduceMul, Nat.reduceLeDiff, Nat.reduceLT, Nat.reduceBEq, Nat.reduceBNe, implies_true, Zz.rs, Zz.res]) | (with_reducible first | refine T.seq ?_ | refine T.block ?_ | assumption | refine And.intro ?_ ?_) | (intro h; first | (exfalso; omega) | exact (tf h ‹_›).elim | exact (tf ‹_› h).elim | skip))
    all_goals first | omega | skip
  have e : Z9 l = Vf l 0 Un := if_neg hbig
  repeat' (first | ((first | (with_reducible first | refine T.regs ?_ | refine T.cond ?_ | refine T.reg ?_ | refine T.ret ?_ | refine T.exit ?_ | refine T.skip ?_) | ((with_reducible first | refine T.dregs ?_ ?_ | refine T.dreg ?_ ?_ | refine T.dregts ?_ ?_ | refine T.dregt ?_ ?_ | refine T.danys ?_ ?_ | refine T.dany ?_ ?_); exact mix)); simp only [Zj, Zk, Int.reduceEq, Int.reduceNeg, Int.reduceLE, Int.reduceLT, Nat.reduceSub, ↓reduceIte, reduceCtorEq, Nat.reduceEqDiff, Nat.reduceAdd, Nat.reduceMul, Nat.reduceLeDiff, Nat.reduceLT, Nat.reduceBEq, Nat.reduceBNe, implies_true, Zz.rs, Zz.res]) | (with_reducible first | refine T.seq ?_ | refine T.block ?_ | assumption | refine And.intro ?_ ?_) | (intro h; first | (exfalso; omega) | exact (tf h ‹_›).elim | exact (tf ‹_› h).elim | skip))
  all_goals first | omega | skip
  refine T.loop (ι := { p : Nat × Own × Nat // p.1 ≤ l.length ∧ Vf (l.drop p.1) p.1 p.2.1 = Z9 l ∧ p.2.2 ≤ 40000 * p.1 })
    (fun x => ⟨[(21, .one (.a (.int .i64 (x.1.1 : Int)))), (20, .one (.a (.int .i64 l.length))), (19, .one (.a (.ref 0))), (4, .one (.a (.ref 2))), (3, .one (.a (.loc 1 0)))],
      [(2, .smap Tryz.prog 9 3 (.int .i64) x.1.2.1 x.1.2.2), (1, .cells 32 [.int .i64 0, .int .i64 0]), (0, .rou l)], 3⟩)
    (fun x => l.length - x.1.1) ⟨(0, Un, 0), by simp, by simp [e], by simp⟩ (Ent.mk1 (id) (by simp [Z8, L4])) ?_
  rintro ⟨⟨k, f, n⟩, hk, hrun, hn⟩
  simp only at hk hrun hn
  by_cases hlt : k < l.length
  · have hdrop : l.drop k = l.getD k Rv :: l.drop (k + 1) := by
      rw [List.drop_eq_getElem_cons hlt]; simp [List.getD, hlt]
    generalize hx : l.getD k Rv = u at hdrop
    have hx' : l.getD k ([], []) = u := hx
    rw [hdrop] at hrun
    simp only [Vf] at hrun
    have hw : IntKind.i64.wrap ((k : Int) + 1) = ((k + 1 : Nat) : Int) := Z5 (by omega)
    have ht : ((k : Int)).toNat = k := by omega
    by_cases hul : 40000 < u.2.length
    · rw [if_pos hul] at hrun
      obtain ⟨e1, e2⟩ := Jj hrun.symm (by decide)
      rw [e1, e2]
      repeat' (first | ((first | (with_reducible first | refine T.regs ?_ | refine T.cond ?_ | refine T.reg ?_ | refine T.ret ?_ | refine T.exit ?_ | refine T.skip ?_) | ((with_reducible first | refine T.dregs ?_ ?_ | refine T.dreg ?_ ?_ | refine T.dregts ?_ ?_ | refine T.dregt ?_ ?_ | refine T.danys ?_ ?_ | refine T.dany ?_ ?_); exact mix)); simp only [Zj, Zk, Int.reduceEq, Int.reduceNeg, Int.reduceLE, Int.reduceLT, Nat.reduceSub, ↓reduceIte, reduceCtorEq, Nat.reduceEqDiff, Nat.reduceAdd, Nat.reduceMul, Nat.reduceLeDiff, Nat.reduceLT, Nat.reduceBEq, Nat.reduceBNe, implies_true, Zz.rs, Zz.res, hx', hw, ht, Int.ofNat_lt]) | (with_reducible first | refine T.seq ?_ | refine T.block ?_ | assumption | refine And.intro ?_ ?_) | (intro h; first | (exfalso; omega) | exact (tf h ‹_›).elim | exact (tf ‹_› h).elim | skip))
      all_goals first | omega | skip
    rw [if_neg hul] at hrun
    by_cases hsp : (Yc u.2 0).2.2.1 = 0
    · rw [if_neg (by simpa using hsp)] at hrun
      obtain ⟨hsok, hslen, _, _⟩ := O3 u.2 0 (by omega) (by omega)
      have hSp := Rp u.2 0 (by omega) (by omega) (by omega)
      generalize hsp1 : (Yc u.2 0).1 = sp at hrun hsok hslen hSp
      repeat' (first | ((first | (with_reducible first | refine T.regs ?_ | refine T.cond ?_ | refine T.reg ?_ | refine T.ret ?_ | refine T.exit ?_ | refine T.skip ?_) | ((with_reducible first | refine T.dregs ?_ ?_ | refine T.dreg ?_ ?_ | refine T.dregts ?_ ?_ | refine T.dregt ?_ ?_ | refine T.danys ?_ ?_ | refine T.dany ?_ ?_); exact mix) | ((with_reducible apply Za.rw (hSp)); (focus ((repeat' (first | exact rfl | exact trivial | refine And.intro ?_ ?_ | (simp [SV.bd, Vc.S1.bd, At.bd, Zo, Zr, Ins.cells, Ln.cells]; done))); done)))); simp only [Zj, Zk, Int.reduceEq, Int.reduceNeg, Int.reduceLE, Int.reduceLT, Nat.reduceSub, ↓reduceIte, reduceCtorEq, Nat.reduceEqDiff, Nat.reduceAdd, Nat.reduceMul, Nat.reduceLeDiff, Nat.reduceLT, Nat.reduceBEq, Nat.reduceBNe, implies_true, Zz.rs, Zz.res, hx', hw, ht, hsp, Int.ofNat_lt]) | (with_reducible first | refine T.seq ?_ | refine T.block ?_ | assumption | refine And.intro ?_ ?_) | (intro h; first | (exfalso; omega) | exact (tf h ‹_›).elim | exact (tf ‹_› h).elim | skip))
      all_goals first | omega | skip
      refine T.loop (ι := { p : Nat × Own × Nat // p.1 ≤ sp.length ∧ Vd k (sp.drop p.1) p.2.1 = Vd k sp f ∧ p.2.2 ≤ 40000 * k + p.1 })
        (fun x => ⟨[(48, .one (.a (.int .i64 (x.1.1 : Int)))), (47, .one (.a (.int .i64 sp.length))), (46, .one (.a (.ref 3))), (21, .one (.a (.int .i64 (k : Int)))), (20, .one (.a (.int .i64 l.length))), (19, .one (.a (.ref 0))), (5, .one (.a (.int .i64 (k : Int)))), (4, .one (.a (.ref 2))), (3, .one (.a (.loc 1 0)))],
          [(3, .row 79 .spot sp), (2, .smap Tryz.prog 9 3 (.int .i64) x.1.2.1 x.1.2.2), (1, .cells 32 [.int .i64 0, .int .i64 0]), (0, .rou l)], 4⟩)
        (fun x => sp.length - x.1.1) ⟨(0, f, n), by simp, by simp, by simpa using hn⟩ (Ent.mk1 (fun n => if n = 3 then 5 else n) (by simp [Z8])) ?_
      rintro ⟨⟨j, f', n'⟩, hj, hrun2, hn'⟩
      simp only at hj hrun2 hn'
      by_cases hlt2 : j < sp.length
      · have hdrop2 : sp.drop j = sp.getD j S5 :: sp.drop (j + 1) := by
          rw [List.drop_eq_getElem_cons hlt2]; simp [List.getD, hlt2]
        have hmem2 : sp.getD j S5 ∈ sp := by simp [List.getD, hlt2]
        generalize hy : sp.getD j S5 = y at hdrop2 hmem2
        have hy' : sp.getD j (Kd.dflt .spot) = y := hy
        obtain ⟨⟨hy0, hy1⟩, hyn, hyne⟩ := hsok y hmem2
        have hyl := Rh hyn
        rw [hdrop2] at hrun2
        simp only [Vd] at hrun2
        have hw2 : IntKind.i64.wrap ((j : Int) + 1) = ((j + 1 : Nat) : Int) := Z5 (by omega)
        have ht2 : ((j : Int)).toNat = j := by omega
        cases hown : R7 y.name with
        | true =>
          rw [if_pos hown] at hrun2
          repeat' (first | ((first | (with_reducible first | refine T.regs ?_ | refine T.cond ?_ | refine T.reg ?_ | refine T.ret ?_ | refine T.exit ?_ | refine T.skip ?_) | ((with_reducible first | refine T.dregs ?_ ?_ | refine T.dreg ?_ ?_ | refine T.dregts ?_ ?_ | refine T.dregt ?_ ?_ | refine T.danys ?_ ?_ | refine T.dany ?_ ?_); exact mix) | ((with_reducible first | apply Za.rd (Ya y.name hyne) | apply Zc.rd (Ya y.name hyne)); (focus ((repeat' (first | exact rfl | exact trivial | refine And.intro ?_ ?_ | (simp [SV.bd, Vc.S1.bd, At.bd, Zo, Zr, Ins.cells, Ln.cells]; done))); done)))); simp only [Zj, Zk, Int.reduceEq, Int.reduceNeg, Int.reduceLE, Int.reduceLT, Nat.reduceSub, ↓reduceIte, reduceCtorEq, Nat.reduceEqDiff, Nat.reduceAdd, Nat.reduceMul, Nat.reduceLeDiff, Nat.reduceLT, Nat.reduceBEq, Nat.reduceBNe, implies_true, Zz.rs, Zz.res, hy', hw2, ht2, hown, Int.ofNat_lt]) | (with_reducible first | refine T.seq ?_ | refine T.block ?_ | assumption | refine And.intro ?_ ?_) | (intro h; first | (exfalso; omega) | exact (tf h ‹_›).elim | exact (tf ‹_› h).elim | skip))
          all_goals first | omega | skip
          exact ⟨⟨(j + 1, f', n'), hlt2, hrun2, by simp only; omega⟩, (Ent.mk1 (id) (by simp [Z8, hw2])), by simp only; omega⟩
        | false =>
          rw [if_neg (by simp [hown])] at hrun2
          cases hfy : f' y.name with
          | some v =>
            rw [if_pos (by rw [hfy]; rfl)] at hrun2
            rw [← hrun2] at hrun
            simp only at hrun
            obtain ⟨e1, e2⟩ := Jj hrun.symm (by decide)
            rw [e1, e2]
            repeat' (first | ((first | (with_reducible first | refine T.regs ?_ | refine T.cond ?_ | refine T.reg ?_ | refine T.ret ?_ | refine T.exit ?_ | refine T.skip ?_) | ((with_reducible first | refine T.dregs ?_ ?_ | refine T.dreg ?_ ?_ | refine T.dregts ?_ ?_ | refine T.dregt ?_ ?_ | refine T.danys ?_ ?_ | refine T.dany ?_ ?_); exact mix) | ((with_reducible first | apply Za.rd (Ya y.name hyne) | apply Zc.rd (Ya y.name hyne)); (focus ((repeat' (first | exact rfl | exact trivial | refine And.intro ?_ ?_ | (simp [SV.bd, Vc.S1.bd, At.bd, Zo, Zr, Ins.cells, Ln.cells]; done))); done)))); simp only [Zj, Zk, Int.reduceEq, Int.reduceNeg, Int.reduceLE, Int.reduceLT, Nat.reduceSub, ↓reduceIte, reduceCtorEq, Nat.reduceEqDiff, Nat.reduceAdd, Nat.reduceMul, Nat.reduceLeDiff, Nat.reduceLT, Nat.reduceBEq, Nat.reduceBNe, implies_true, Zz.rs, Zz.res, hy', hw2, ht2, hown, hfy, Int.ofNat_lt]) | (with_reducible first | refine T.seq ?_ | refine T.block ?_ | assumption | refine And.intro ?_ ?_) | (intro h; first | (exfalso; omega) | exact (tf h ‹_›).elim | exact (tf ‹_› h).elim | skip))
            all_goals first | omega | skip
          | none =>
            rw [if_neg (by rw [hfy]; simp)] at hrun2
            repeat' (first | ((first | (with_reducible first | refine T.regs ?_ | refine T.cond ?_ | refine T.reg ?_ | refine T.ret ?_ | refine T.exit ?_ | refine T.skip ?_) | ((with_reducible first | refine T.dregs ?_ ?_ | refine T.dreg ?_ ?_ | refine T.dregts ?_ ?_ | refine T.dregt ?_ ?_ | refine T.danys ?_ ?_ | refine T.dany ?_ ?_); exact mix) | ((with_reducible first | apply Za.rd (Ya y.name hyne) | apply Zc.rd (Ya y.name hyne)); (focus ((repeat' (first | exact rfl | exact trivial | refine And.intro ?_ ?_ | (simp [SV.bd, Vc.S1.bd, At.bd, Zo, Zr, Ins.cells, Ln.cells]; done))); done)))); simp only [Zj, Zk, Int.reduceEq, Int.reduceNeg, Int.reduceLE, Int.reduceLT, Nat.reduceSub, ↓reduceIte, reduceCtorEq, Nat.reduceEqDiff, Nat.reduceAdd, Nat.reduceMul, Nat.reduceLeDiff, Nat.reduceLT, Nat.reduceBEq, Nat.reduceBNe, implies_true, Zz.rs, Zz.res, hy', hw2, ht2, hown, hfy, Int.ofNat_lt]) | (with_reducible first | refine T.seq ?_ | refine T.block ?_ | assumption | refine And.intro ?_ ?_) | (intro h; first | (exfalso; omega) | exact (tf h ‹_›).elim | exact (tf ‹_› h).elim | skip))
            all_goals first | omega | skip
            all_goals try (first | (show (-9223372036854775808 : Int) ≤ (k : Int); omega) | (show (k : Int) ≤ 9223372036854775807; omega))
            exact ⟨⟨(j + 1, fun t => if t = y.name then some (k : Int) else f' t, n' + 1), hlt2, hrun2, by simp only; omega⟩, (Ent.mk1 (id) (by simp [Z8, hw2])), by simp only; omega⟩
      · have hj2 : j = sp.length := by omega
        subst hj2
        rw [List.drop_length] at hrun2
        simp only [Vd] at hrun2
        rw [← hrun2] at hrun
        simp only at hrun
        repeat' (first | ((first | (with_reducible first | refine T.regs ?_ | refine T.cond ?_ | refine T.reg ?_ | refine T.ret ?_ | refine T.exit ?_ | refine T.skip ?_) | ((with_reducible first | refine T.dregs ?_ ?_ | refine T.dreg ?_ ?_ | refine T.dregts ?_ ?_ | refine T.dregt ?_ ?_ | refine T.danys ?_ ?_ | refine T.dany ?_ ?_); exact mix)); simp only [Zj, Zk, Int.reduceEq, Int.reduceNeg, Int.reduceLE, Int.reduceLT, Nat.reduceSub, ↓reduceIte, reduceCtorEq, Nat.reduceEqDiff, Nat.reduceAdd, Nat.reduceMul, Nat.reduceLeDiff, Nat.reduceLT, Nat.reduceBEq, Nat.reduceBNe, implies_true, Zz.rs, Zz.res, hw, Int.ofNat_lt]) | (with_reducible first | refine T.seq ?_ | refine T.block ?_ | assumption | refine And.intro ?_ ?_) | (intro h; first | (exfalso; omega) | exact (tf h ‹_›).elim | exact (tf ‹_› h).elim | skip))
        all_goals first | omega | skip
        exact ⟨⟨(k + 1, f', n'), hlt, hrun, by simp only; omega⟩, (Ent.mk1 (id) (by simp [Z8, hw])), by simp only; omega⟩
    · rw [if_pos (by simpa using hsp)] at hrun
      obtain ⟨e1, e2⟩ := Jj hrun.symm (by simpa using hsp)
      rw [e1, e2]
      repeat' (first | ((first | (with_reducible first | refine T.regs ?_ | refine T.cond ?_ | refine T.reg ?_ | refine T.ret ?_ | refine T.exit ?_ | refine T.skip ?_) | ((with_reducible first | refine T.dregs ?_ ?_ | refine T.dreg ?_ ?_ | refine T.dregts ?_ ?_ | refine T.dregt ?_ ?_ | refine T.danys ?_ ?_ | refine T.dany ?_ ?_); exact mix) | ((with_reducible apply Za.rw (Rp u.2 0 (by omega) (by omega) (by omega))); (focus ((repeat' (first | exact rfl | exact trivial | refine And.intro ?_ ?_ | (simp [SV.bd, Vc.S1.bd, At.bd, Zo, Zr, Ins.cells, Ln.cells]; done))); done)))); simp only [Zj, Zk, Int.reduceEq, Int.reduceNeg, Int.reduceLE, Int.reduceLT, Nat.reduceSub, ↓reduceIte, reduceCtorEq, Nat.reduceEqDiff, Nat.reduceAdd, Nat.reduceMul, Nat.reduceLeDiff, Nat.reduceLT, Nat.reduceBEq, Nat.reduceBNe, implies_true, Zz.rs, Zz.res, hx', hw, ht, hsp, Int.ofNat_lt]) | (with_reducible first | refine T.seq ?_ | refine T.block ?_ | assumption | refine And.intro ?_ ?_) | (intro h; first | (exfalso; omega) | exact (tf h ‹_›).elim | exact (tf ‹_› h).elim | skip))
      all_goals first | omega | skip
  · have hk2 : k = l.length := by omega
    subst hk2
    rw [List.drop_length] at hrun
    simp only [Vf] at hrun
    obtain ⟨e1, e2⟩ := ch_ok hrun.symm
    rw [e1, e2]
    refine T.weak (Ent.smapLe (m := 2) 16000000 rfl (by simp only; omega)) ?_
    repeat' (first | ((first | (with_reducible first | refine T.regs ?_ | refine T.cond ?_ | refine T.reg ?_ | refine T.ret ?_ | refine T.exit ?_ | refine T.skip ?_) | ((with_reducible first | refine T.dregs ?_ ?_ | refine T.dreg ?_ ?_ | refine T.dregts ?_ ?_ | refine T.dregt ?_ ?_ | refine T.danys ?_ ?_ | refine T.dany ?_ ?_); exact mix)); simp only [Zj, Zk, Int.reduceEq, Int.reduceNeg, Int.reduceLE, Int.reduceLT, Nat.reduceSub, ↓reduceIte, reduceCtorEq, Nat.reduceEqDiff, Nat.reduceAdd, Nat.reduceMul, Nat.reduceLeDiff, Nat.reduceLT, Nat.reduceBEq, Nat.reduceBNe, implies_true, Zz.rs, Zz.res, Int.ofNat_lt]) | (with_reducible first | refine T.seq ?_ | refine T.block ?_ | assumption | refine And.intro ?_ ?_) | (intro h; first | (exfalso; omega) | exact (tf h ‹_›).elim | exact (tf ‹_› h).elim | skip))
    all_goals first | omega | skip
end Go.Proofs.YtjochhncheheaaaGreatDoor
