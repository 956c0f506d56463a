/-
  A part of the proofs of this seat's laws: a step on the way. It has no conditions of its own.
-/
import Derived.Test.YtccjjcdjgibilaaGreatDoorAsmF
import Derived.Test.YtccjjcdjgibilaaGreatDoorLibA
import Derived.Test.YtccjjcdjgibilaaGreatDoorMnem
namespace Go.Proofs.YtccjjcdjgibilaaGreatDoor
open Go.RowKit Vc
set_option linter.unusedVariables false
set_option linter.unusedSimpArgs false
def Ov (n : Int) : List UInt8 := 114 :: Lib.itoa n
def Vl (x : Ln) : List UInt8 := if x.ref = [] then Lib.itoa x.ins.imm else x.ref
def Xw (x : Ln) : List (List UInt8) := (if Uh x.ins.op then [Ov x.ins.d] else []) ++ ((if Ue x.ins.op then [Ov x.ins.s] else []) ++ (if W7 x.ins.op then [Vl x] else []))
def Ux (x : Ln) : List UInt8 := if x.label = [] then (9 :: wordS x.ins.op) ++ ((if Xw x = [] then [] else [32]) ++ (Lib.join (Xw x) [44, 32] ++ [10])) else x.label ++ [58, 10]
def T7 : List Ln → Nat → List UInt8 → List UInt8 × Int × Int
  | [], _, acc => (acc, 0, 0)
  | x :: l, k, acc => if Wi x = 0 then T7 l (k + 1) (acc ++ Ux x) else ([], Wi x, k)
def showS (l : List Ln) : List UInt8 × Int × Int := if 40000 < l.length then ([], 5, 0) else T7 l 0 []
theorem Vd {x : Ln} (h : Wi x = 0) (hl : x.label = []) : (Uh x.ins.op = true → 0 ≤ x.ins.d ∧ x.ins.d ≤ 7) ∧ (Ue x.ins.op = true → 0 ≤ x.ins.s ∧ x.ins.s ≤ 7) ∧ (W7 x.ins.op = true → 0 ≤ x.ins.imm ∧ x.ins.imm ≤ 65535) ∧ Wy x.ins.op = true ∧ x.ref.length ≤ 32 := by
  obtain ⟨hw, hr⟩ := Un h hl
  have hk := Ry hw
  have hrl : x.ref.length ≤ 32 := by
    by_cases h0 : x.ref = []
    · simp [h0]
    · exact Ta (hr h0).1
  unfold W8 at hw
  rw [if_neg (by simp [hk])] at hw
  refine ⟨fun h => ?_, fun h => ?_, fun h => ?_, hk, hrl⟩
  all_goals
    simp only [h, Bool.true_and, Bool.or_eq_true, Bool.not_eq_true', reg, Of] at hw
    split at hw
    · cases hw
    · rename_i hn
      simp only [not_or, Bool.not_eq_false, decide_eq_true_eq, Bool.and_eq_true] at hn
      first | (have := hn.1; simp_all; done) | (have := hn.2.1; simp_all; done) | (have := hn.2.2; simp_all; done)
theorem Ro {n : Int} (h0 : 0 ≤ n) (h1 : n ≤ 65535) : (Lib.itoa n).length ≤ 21 := Lib.itoa_length_le n (by omega) (by omega)
theorem P7 (l : List (List UInt8)) (m : Nat) (h : ∀ x ∈ l, x.length ≤ m) : (Lib.join l [44, 32]).length ≤ l.length * (m + 2) := by
  unfold Lib.join
  induction l with
  | nil => simp [List.intercalate]
  | cons x l ih =>
    have ih' := ih fun y hy => h y (List.mem_cons_of_mem _ hy)
    have hx := h x (List.mem_cons_self ..)
    cases l with
    | nil => simp [List.intercalate]; omega
    | cons y l =>
      simp only [List.intercalate, List.intersperse, List.flatten_cons, List.length_append, List.length_cons, List.length_nil, Nat.add_mul] at ih' ⊢
      omega
theorem R9 {x : Ln} (h : Wi x = 0) (hl : x.label = []) : (Xw x).length ≤ 3 ∧ ∀ y ∈ Xw x, y.length ≤ 32 := by
  obtain ⟨h1, h2, h3, _, h5⟩ := Vd h hl
  refine ⟨?_, ?_⟩
  · unfold Xw
    split <;> split <;> split <;> simp
  · intro y hy
    unfold Xw at hy
    simp only [List.mem_append] at hy
    rcases hy with hy | hy | hy
    · split at hy
      · rename_i hd
        simp only [List.mem_singleton] at hy
        subst hy
        have := Ro (h1 hd).1 (by have := (h1 hd).2; omega)
        simp [Ov]; omega
      · cases hy
    · split at hy
      · rename_i hd
        simp only [List.mem_singleton] at hy
        subst hy
        have := Ro (h2 hd).1 (by have := (h2 hd).2; omega)
        simp [Ov]; omega
      · cases hy
    · split at hy
      · rename_i hd
        simp only [List.mem_singleton] at hy
        subst hy
        have := Ro (h3 hd).1 (h3 hd).2
        unfold Vl
        split <;> omega
      · cases hy
theorem Iz {x : Ln} (h : Wi x = 0) : (Ux x).length ≤ 110 := by
  unfold Ux
  split
  · rename_i hl
    obtain ⟨h1, h2⟩ := R9 h hl
    have h3 := P7 (Xw x) 32 h2
    have h4 := Qd x.ins.op
    simp only [List.length_append, List.length_cons, List.length_nil]
    split <;> simp <;> omega
  · rename_i hl
    have := Ta (Vg h hl).1
    simp; omega
end Go.Proofs.YtccjjcdjgibilaaGreatDoor
