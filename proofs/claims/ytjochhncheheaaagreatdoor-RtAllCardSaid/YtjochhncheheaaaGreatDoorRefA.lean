/-
  A part of the proofs of this seat's laws: what the reference's Fields, Has, Wrong and Bare compute. It has no conditions of its own.
-/
import Derived.Test.YtjochhncheheaaaGreatDoorInstr
import Derived.Test.YtjochhncheheaaaGreatDoorEncode
namespace Go.Proofs.YtjochhncheheaaaGreatDoor
open Go.RowKit Vc
set_option linter.unusedVariables false
set_option linter.unusedSimpArgs false
attribute [local irreducible] T Za Z2 Ent RdC RwC Xm Zc Zs
def Qs : List (List UInt8) := [[46], [100, 115], [100, 105], [100, 115, 105], [100, 115, 105], [100, 115], [100, 115], [100, 115], [100, 115], [100, 115], [100, 115], [100, 115], [100, 115], [100, 115], [100], [100], [100], [100], [100], [105], [105], [105], [105], [105], [105], [105], [105], [46], [115], [100], [115], [100], [105]]
def Uo (op : Int) : List UInt8 := if op < 0 ∨ 33 ≤ op then [] else Qs.getD op.toNat []
def Lp (op f : Int) : Bool := (Uo op).any fun c => decide (((c.toNat : Nat) : Int) = f)
theorem fields_len (op : Int) : (Uo op).length ≤ 3 := by
  unfold Uo
  split
  · simp
  · have : ∀ k : Nat, (Qs.getD k []).length ≤ 3 := by
      intro k
      by_cases hk : k < 33
      · revert k; decide
      · have : Qs.getD k [] = [] := by
          have : Qs.length ≤ k := by simp [Qs]; omega
          simp [List.getD, this]
        rw [this]; simp
    exact this _
theorem H5 (P : Int → Prop) (h1 : ∀ k : Nat, k < 33 → P k) (h2 : ∀ n : Int, n < 0 ∨ 33 ≤ n → P n) (n : Int) : P n := by
  by_cases h : n < 0 ∨ 33 ≤ n
  · exact h2 n h
  · obtain ⟨k, rfl⟩ := Int.eq_ofNat_of_zero_le (show 0 ≤ n by omega)
    exact h1 k (by omega)
theorem hasF_d (n : Int) : Lp n 100 = Vw n := by
  refine H5 (fun n => Lp n 100 = Vw n) (by decide +kernel) (fun n h => ?_) n
  simp only [Lp, Uo, if_pos h, List.any_nil, Vw]
  symm; simp only [decide_eq_false_iff_not]; omega
theorem hasF_s (n : Int) : Lp n 115 = Vv n := by
  refine H5 (fun n => Lp n 115 = Vv n) (by decide +kernel) (fun n h => ?_) n
  simp only [Lp, Uo, if_pos h, List.any_nil, Vv]
  symm; simp only [decide_eq_false_iff_not]; omega
theorem hasF_i (n : Int) : Lp n 105 = Wd n := by
  refine H5 (fun n => Lp n 105 = Wd n) (by decide +kernel) (fun n h => ?_) n
  simp only [Lp, Uo, if_pos h, List.any_nil, Wd]
  symm; simp only [decide_eq_false_iff_not]; omega
theorem fields_known (n : Int) : decide (Uo n = []) = !X4 n := by
  refine H5 (fun n => decide (Uo n = []) = !X4 n) (by decide +kernel) (fun n h => ?_) n
  simp only [Uo, if_pos h, X4]
  simp; omega
def Wv (x : Ins) : Ins := ⟨x.op, if Vw x.op then x.d else 0, if Vv x.op then x.s else 0, if Wd x.op then x.imm else 0⟩
end Go.Proofs.YtjochhncheheaaaGreatDoor
namespace Go.Proofs.YtjochhncheheaaaGreatDoor
open Go.RowKit Vc
set_option linter.unusedVariables false
set_option linter.unusedSimpArgs false
attribute [local irreducible] T Za Z2 Ent RdC RwC Xm Zc Zs
theorem wordI_le {x : Ins} (h : Xj x = 0) : 0 ≤ Ww x ∧ Ww x ≤ 65535 := by
  obtain ⟨h1, h2, h3, _⟩ := T0 x h
  unfold Ww
  split <;> split <;> simp_all <;> omega
theorem refword {x : Ins} (h : Xj x = 0) : IntKind.i64.wrap (IntKind.i64.wrap (IntKind.i64.wrap ((Wv x).op * 1024) + IntKind.i64.wrap ((Wv x).d * 128)) + IntKind.i64.wrap ((Wv x).s * 16)) = Ww x := by
  obtain ⟨h1, h2, h3, _⟩ := T0 x h
  have e : Ww x = (Wv x).op * 1024 + (Wv x).d * 128 + (Wv x).s * 16 := by
    unfold Ww Wv
    split <;> split <;> simp_all
  have hd : 0 ≤ (Wv x).d ∧ (Wv x).d ≤ 7 := by
    cases hD : Vw x.op <;> simp_all [Wv]
  have hs : 0 ≤ (Wv x).s ∧ (Wv x).s ≤ 7 := by
    cases hD : Vv x.op <;> simp_all [Wv]
  have ho : (Wv x).op = x.op := rfl
  rw [Z7 (n := (Wv x).op * 1024) (by omega) (by omega), Z7 (n := (Wv x).d * 128) (by omega) (by omega), Z7 (n := (Wv x).s * 16) (by omega) (by omega),
    Z7 (n := (Wv x).op * 1024 + (Wv x).d * 128) (by omega) (by omega), Z7 (by omega) (by omega), e]
theorem bare_imm {x : Ins} (h : Wd x.op = true) : (Wv x).imm = x.imm := by simp [Wv, h]
theorem encS_one (x : Ins) : N9 [x] = if Xj x = 0 then (Re x, 0, 0) else ([], Xj x, 0) := by
  simp only [N9, Kf, List.nil_append]
  split
  · rw [if_neg]
    unfold Re; split <;> simp
  · rfl
theorem okW_iff {x : Int} (hwx : Ui x = true) (imm : Int) (hi : Wd (x / 1024) = true → Ui imm = true) :
    okW x = true ↔ (Xj (J2 x imm) = 0 ∧ Ww (J2 x imm) = x) := by
  have hb := P9 hwx
  simp only [okW, hwx, Bool.true_and, Bool.and_eq_true, Bool.or_eq_true, decide_eq_true_eq]
  unfold Xj Ww J2
  simp only
  have hr : ∀ y : Int, reg (y % 8) = true := fun y => by simp [reg]; omega
  cases hk : X4 (x / 1024) <;> cases hd : Vw (x / 1024) <;> cases hs : Vv (x / 1024) <;> cases hI : Wd (x / 1024) <;> simp_all [hr] <;> omega
end Go.Proofs.YtjochhncheheaaaGreatDoor
namespace Go.Proofs.YtjochhncheheaaaGreatDoor
open Go.RowKit Vc
set_option linter.unusedVariables false
set_option linter.unusedSimpArgs false
attribute [local irreducible] T Za Z2 Ent RdC RwC Xm Zc Zs
end Go.Proofs.YtjochhncheheaaaGreatDoor
