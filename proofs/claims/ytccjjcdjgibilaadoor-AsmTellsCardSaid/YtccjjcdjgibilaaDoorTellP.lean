/-
  A part of the proofs of this seat's laws: a step on the way. It has no conditions of its own.
-/
import Derived.Test.YtccjjcdjgibilaaDoorAsmF
import Derived.Test.YtccjjcdjgibilaaDoorLibA
namespace Go.Proofs.YtccjjcdjgibilaaDoor
open Go.RowKit Vc
set_option linter.unusedVariables false
set_option linter.unusedSimpArgs false
def Ss : List (List UInt8) := [[104, 97, 108, 116], [109, 111, 118], [108, 100, 105], [108, 100], [115, 116], [97, 100, 100], [97, 100, 99], [115, 117, 98], [115, 98, 99], [97, 110, 100], [111, 114], [120, 111, 114], [99, 109, 112], [99, 112, 99], [115, 104, 108], [114, 111, 108], [115, 104, 114], [115, 97, 114], [114, 111, 114], [106, 109, 112], [106, 122], [106, 110, 122], [106, 99], [106, 110, 99], [106, 108, 116], [106, 103, 101], [99, 97, 108, 108], [114, 101, 116], [112, 117, 115, 104], [112, 111, 112], [111, 117, 116], [105, 110], [116, 114, 97, 112]]
def wordS (op : Int) : List UInt8 := Ss.getD op.toNat []
theorem Tz (op : Int) : (wordS op).length ≤ 4 := by
  unfold wordS
  generalize op.toNat = k
  by_cases hk : k < 33
  · revert k; decide
  · have : Ss.length ≤ k := by simp [Ss]; omega
    simp [List.getD, this]
def T5 (n : Int) : List UInt8 := 114 :: Lib.itoa n
def V0 (x : Ln) : List UInt8 := if x.ref = [] then Lib.itoa x.ins.imm else x.ref
def Xw (x : Ln) : List (List UInt8) := (if Ug x.ins.op then [T5 x.ins.d] else []) ++ ((if Uf x.ins.op then [T5 x.ins.s] else []) ++ (if hasI x.ins.op then [V0 x] else []))
def U0 (x : Ln) : List UInt8 := if x.label = [] then (9 :: wordS x.ins.op) ++ ((if Xw x = [] then [] else [32]) ++ (Lib.join (Xw x) [44, 32] ++ [10])) else x.label ++ [58, 10]
def Qt : List Ln → Nat → List UInt8 → List UInt8 × Int × Int
  | [], _, acc => (acc, 0, 0)
  | x :: l, k, acc => if Wt x = 0 then Qt l (k + 1) (acc ++ U0 x) else ([], Wt x, k)
def showS (l : List Ln) : List UInt8 × Int × Int := if 40000 < l.length then ([], 5, 0) else Qt l 0 []
theorem Ul {x : Ln} (h : Wt x = 0) (hl : x.label = []) : (Ug x.ins.op = true → 0 ≤ x.ins.d ∧ x.ins.d ≤ 7) ∧ (Uf x.ins.op = true → 0 ≤ x.ins.s ∧ x.ins.s ≤ 7) ∧ (hasI x.ins.op = true → 0 ≤ x.ins.imm ∧ x.ins.imm ≤ 65535) ∧ Wz x.ins.op = true ∧ x.ref.length ≤ 32 := by
  obtain ⟨hw, hr⟩ := Tl h hl
  have hk := Rp hw
  have hrl : x.ref.length ≤ 32 := by
    by_cases h0 : x.ref = []
    · simp [h0]
    · exact Uw (hr h0).1
  unfold X2 at hw
  rw [if_neg (by simp [hk])] at hw
  refine ⟨fun h => ?_, fun h => ?_, fun h => ?_, hk, hrl⟩
  all_goals
    simp only [h, Bool.true_and, Bool.or_eq_true, Bool.not_eq_true', reg, Vn] at hw
    split at hw
    · cases hw
    · rename_i hn
      simp only [not_or, Bool.not_eq_false, decide_eq_true_eq, Bool.and_eq_true] at hn
      first | (have := hn.1; simp_all; done) | (have := hn.2.1; simp_all; done) | (have := hn.2.2; simp_all; done)
theorem V6 {n : Int} (h0 : 0 ≤ n) (h1 : n ≤ 65535) : (Lib.itoa n).length ≤ 21 := Lib.itoa_length_le n (by omega) (by omega)
theorem Pr (l : List (List UInt8)) (m : Nat) (h : ∀ x ∈ l, x.length ≤ m) : (Lib.join l [44, 32]).length ≤ l.length * (m + 2) := by
  unfold Lib.join
  induction l with
  | nil => simp [List.intercalate]
  | cons x l ih =>
    have ih' := ih fun y hy => h y (List.mem_cons_of_mem _ hy)
    have hx := h x (List.mem_cons_self ..)
    cases l with
    | nil => simp [List.intercalate]; omega
    | cons y l =>
      simp only [List.intercalate, List.intersperse, List.flatten_cons, List.length_append, List.length_cons, List.length_nil, Nat.add_mul] at ih' ⊢
      omega
theorem Qg {x : Ln} (h : Wt x = 0) (hl : x.label = []) : (Xw x).length ≤ 3 ∧ ∀ y ∈ Xw x, y.length ≤ 32 := by
  obtain ⟨h1, h2, h3, _, h5⟩ := Ul h hl
  refine ⟨?_, ?_⟩
  · unfold Xw
    split <;> split <;> split <;> simp
  · intro y hy
    unfold Xw at hy
    simp only [List.mem_append] at hy
    rcases hy with hy | hy | hy
    · split at hy
      · rename_i hd
        simp only [List.mem_singleton] at hy
        subst hy
        have := V6 (h1 hd).1 (by have := (h1 hd).2; omega)
        simp [T5]; omega
      · cases hy
    · split at hy
      · rename_i hd
        simp only [List.mem_singleton] at hy
        subst hy
        have := V6 (h2 hd).1 (by have := (h2 hd).2; omega)
        simp [T5]; omega
      · cases hy
    · split at hy
      · rename_i hd
        simp only [List.mem_singleton] at hy
        subst hy
        have := V6 (h3 hd).1 (h3 hd).2
        unfold V0
        split <;> omega
      · cases hy
theorem N8 {x : Ln} (h : Wt x = 0) : (U0 x).length ≤ 110 := by
  unfold U0
  split
  · rename_i hl
    obtain ⟨h1, h2⟩ := Qg h hl
    have h3 := Pr (Xw x) 32 h2
    have h4 := Tz x.ins.op
    simp only [List.length_append, List.length_cons, List.length_nil]
    split <;> simp <;> omega
  · rename_i hl
    have := Uw (Vs h hl).1
    simp; omega
end Go.Proofs.YtccjjcdjgibilaaDoor
