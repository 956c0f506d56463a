/-
  A part of the proofs of this seat's laws: what the reference's Fields, Has, Wrong and Bare compute. It has no conditions of its own.
-/
import Derived.Test.YtjochhncheheaaaGreatDoorInstr
import Derived.Test.YtjochhncheheaaaGreatDoorEncode
namespace Go.Proofs.YtjochhncheheaaaGreatDoor
open Go.RowKit Vc
set_option linter.unusedVariables false
set_option linter.unusedSimpArgs false
attribute [local irreducible] T Za Z2 Ent RdC RwC Xl Zc Zs
def Q1 : List (List UInt8) := [[46], [100, 115], [100, 105], [100, 115, 105], [100, 115, 105], [100, 115], [100, 115], [100, 115], [100, 115], [100, 115], [100, 115], [100, 115], [100, 115], [100, 115], [100], [100], [100], [100], [100], [105], [105], [105], [105], [105], [105], [105], [105], [46], [115], [100], [115], [100], [105]]
def Uu (op : Int) : List UInt8 := if op < 0 ∨ 33 ≤ op then [] else Q1.getD op.toNat []
def Ly (op f : Int) : Bool := (Uu op).any fun c => decide (((c.toNat : Nat) : Int) = f)
theorem fields_len (op : Int) : (Uu op).length ≤ 3 := by
  unfold Uu
  split
  · simp
  · have : ∀ k : Nat, (Q1.getD k []).length ≤ 3 := by
      intro k
      by_cases hk : k < 33
      · revert k; decide
      · have : Q1.getD k [] = [] := by
          have : Q1.length ≤ k := by simp [Q1]; omega
          simp [List.getD, this]
        rw [this]; simp
    exact this _
theorem H9 (P : Int → Prop) (h1 : ∀ k : Nat, k < 33 → P k) (h2 : ∀ n : Int, n < 0 ∨ 33 ≤ n → P n) (n : Int) : P n := by
  by_cases h : n < 0 ∨ 33 ≤ n
  · exact h2 n h
  · obtain ⟨k, rfl⟩ := Int.eq_ofNat_of_zero_le (show 0 ≤ n by omega)
    exact h1 k (by omega)
theorem hasF_d (n : Int) : Ly n 100 = V2 n := by
  refine H9 (fun n => Ly n 100 = V2 n) (by decide +kernel) (fun n h => ?_) n
  simp only [Ly, Uu, if_pos h, List.any_nil, V2]
  symm; simp only [decide_eq_false_iff_not]; omega
theorem hasF_s (n : Int) : Ly n 115 = V1 n := by
  refine H9 (fun n => Ly n 115 = V1 n) (by decide +kernel) (fun n h => ?_) n
  simp only [Ly, Uu, if_pos h, List.any_nil, V1]
  symm; simp only [decide_eq_false_iff_not]; omega
theorem hasF_i (n : Int) : Ly n 105 = Wh n := by
  refine H9 (fun n => Ly n 105 = Wh n) (by decide +kernel) (fun n h => ?_) n
  simp only [Ly, Uu, if_pos h, List.any_nil, Wh]
  symm; simp only [decide_eq_false_iff_not]; omega
theorem fields_known (n : Int) : decide (Uu n = []) = !Wb n := by
  refine H9 (fun n => decide (Uu n = []) = !Wb n) (by decide +kernel) (fun n h => ?_) n
  simp only [Uu, if_pos h, Wb]
  simp; omega
def Wy (x : Ins) : Ins := ⟨x.op, if V2 x.op then x.d else 0, if V1 x.op then x.s else 0, if Wh x.op then x.imm else 0⟩
end Go.Proofs.YtjochhncheheaaaGreatDoor
namespace Go.Proofs.YtjochhncheheaaaGreatDoor
open Go.RowKit Vc
set_option linter.unusedVariables false
set_option linter.unusedSimpArgs false
attribute [local irreducible] T Za Z2 Ent RdC RwC Xl Zc Zs
theorem wordI_le {x : Ins} (h : Xp x = 0) : 0 ≤ W3 x ∧ W3 x ≤ 65535 := by
  obtain ⟨h1, h2, h3, _⟩ := Ty x h
  unfold W3
  split <;> split <;> simp_all <;> omega
theorem refword {x : Ins} (h : Xp x = 0) : IntKind.i64.wrap (IntKind.i64.wrap (IntKind.i64.wrap ((Wy x).op * 1024) + IntKind.i64.wrap ((Wy x).d * 128)) + IntKind.i64.wrap ((Wy x).s * 16)) = W3 x := by
  obtain ⟨h1, h2, h3, _⟩ := Ty x h
  have e : W3 x = (Wy x).op * 1024 + (Wy x).d * 128 + (Wy x).s * 16 := by
    unfold W3 Wy
    split <;> split <;> simp_all
  have hd : 0 ≤ (Wy x).d ∧ (Wy x).d ≤ 7 := by
    cases hD : V2 x.op <;> simp_all [Wy]
  have hs : 0 ≤ (Wy x).s ∧ (Wy x).s ≤ 7 := by
    cases hD : V1 x.op <;> simp_all [Wy]
  have ho : (Wy x).op = x.op := rfl
  rw [Ya (n := (Wy x).op * 1024) (by omega) (by omega), Ya (n := (Wy x).d * 128) (by omega) (by omega), Ya (n := (Wy x).s * 16) (by omega) (by omega),
    Ya (n := (Wy x).op * 1024 + (Wy x).d * 128) (by omega) (by omega), Ya (by omega) (by omega), e]
theorem bare_imm {x : Ins} (h : Wh x.op = true) : (Wy x).imm = x.imm := by simp [Wy, h]
theorem encS_one (x : Ins) : Ml [x] = if Xp x = 0 then (Rm x, 0, 0) else ([], Xp x, 0) := by
  simp only [Ml, K8, List.nil_append]
  split
  · rw [if_neg]
    unfold Rm; split <;> simp
  · rfl
theorem okW_iff {x : Int} (hwx : Uo x = true) (imm : Int) (hi : Wh (x / 1024) = true → Uo imm = true) :
    okW x = true ↔ (Xp (Jq x imm) = 0 ∧ W3 (Jq x imm) = x) := by
  have hb := Oc hwx
  simp only [okW, hwx, Bool.true_and, Bool.and_eq_true, Bool.or_eq_true, decide_eq_true_eq]
  unfold Xp W3 Jq
  simp only
  have hr : ∀ y : Int, reg (y % 8) = true := fun y => by simp [reg]; omega
  cases hk : Wb (x / 1024) <;> cases hd : V2 (x / 1024) <;> cases hs : V1 (x / 1024) <;> cases hI : Wh (x / 1024) <;> simp_all [hr] <;> omega
end Go.Proofs.YtjochhncheheaaaGreatDoor
namespace Go.Proofs.YtjochhncheheaaaGreatDoor
open Go.RowKit Vc
set_option linter.unusedVariables false
set_option linter.unusedSimpArgs false
attribute [local irreducible] T Za Z2 Ent RdC RwC Xl Zc Zs
end Go.Proofs.YtjochhncheheaaaGreatDoor
