/-
  A part of the proofs of this seat's laws: a step on the way. It has no conditions of its own.
-/
import Derived.Test.YtjochhncheheaaaGreatDoorReadP
import Derived.Test.YtjochhncheheaaaGreatDoorLibA
import Derived.Test.YtjochhncheheaaaGreatDoorInstr
import Derived.Test.YtjochhncheheaaaGreatDoorShelfT
import Derived.Test.YtjochhncheheaaaGreatDoorIrA
import Derived.Shelf.Strings.SlTrimAscii
import Derived.Lib.AtoiErrMem
namespace Go.Proofs.YtjochhncheheaaaGreatDoor
open Go Go.RowKit Vc
set_option linter.unusedVariables false
set_option linter.unusedSimpArgs false
attribute [local irreducible] T Za Z2 Ent RdC RwC Xl Zc Zs
@[reducible] def Xh (G : Nat) (H : Nat → Option Obj) : Prop := ∀ w X, X3 G H w X → ∃ m, w.cell? ⟨0, 0, none⟩ = some (.int .i64 m)
theorem O8 (G : Nat) (H : Nat → Option Obj) (s cs : List UInt8) (hs : s.length ≤ 9223372036854775807) (hcl : cs.length ≤ 100) (hc : cs.all (fun b => decide (b.toNat < 128)) = true) :
    GCp G H Tryz.prog 65 [.a (.str s), .a (.str cs)] [] 0 [] (.one (.a (.str (Lib.trimS s cs)))) [] 0 :=
  GCp.plain (by simp [S1.bd, At.bd]) (by simp [SV.bd, S1.bd, At.bd]) (by simp [Yo, Yr, Yp, Zw, Zp, Vc.S1.okN, At.okN, SV.okN, Res.okN, Res.outOk, Z1, Res.own, Value.oneCell']) fun w hg =>
    Any.strings_Trim_laid Tryz.lays160 (by kernel_rfl) ⟨s.toArray⟩ ⟨cs.toArray⟩ w (by simpa [ByteArray.size] using hs) (by simp [ByteArray.size]; omega) (ascii_of_all (by simpa using hc))
theorem Ts (G : Nat) (H : Nat → Option Obj) (s p : List UInt8) :
    GCp G H Tryz.prog 125 [.a (.str s), .a (.str p)] [] 0 [] (.tup [.a (.str (Lib.trimPrefix s p)), .a (.bool (Lib.hasPrefix s p))]) [] 0 :=
  GCp.plain (by simp [S1.bd, At.bd]) (by simp [SV.bd, S1.bd, At.bd]) (by simp [Yo, Yr, Yp, Zw, Zp, Vc.S1.okN, At.okN, SV.okN, Res.okN, Res.outOk, Z1, Res.own, Value.oneCell']) fun w hg =>
    (Tryz.strings_CutPrefix ⟨s.toArray⟩ ⟨p.toArray⟩ w).mono fun e w' ⟨he, hw⟩ => ⟨he, hw ▸ Below.refl _ _⟩
theorem Mm (G : Nat) (H : Nat → Option Obj) (s p : List UInt8) (hs : s.length ≤ 9223372036854775807) :
    GCp G H Tryz.prog 66 [.a (.str s), .a (.str p)] [] 0 [] (.tup [.a (.str (Lib.trimSuffix s p)), .a (.bool (Lib.hasSuffix s p))]) [] 0 :=
  GCp.plain (by simp [S1.bd, At.bd]) (by simp [SV.bd, S1.bd, At.bd]) (by simp [Yo, Yr, Yp, Zw, Zp, Vc.S1.okN, At.okN, SV.okN, Res.okN, Res.outOk, Z1, Res.own, Value.oneCell']) fun w hg =>
    (Tryz.strings_CutSuffix ⟨s.toArray⟩ ⟨p.toArray⟩ w (by simpa [ByteArray.size] using hs)).mono fun e w' ⟨he, hw⟩ => ⟨he, hw ▸ Below.refl _ _⟩
theorem H2 {G : Nat} {H : Nat → Option Obj} (hM : Xh G H) (s : List UInt8) (c : UInt8) (hs : s.length < 4294967281) :
    GCp G H Tryz.prog 64 [.a (.str s), .a (.str [c])] [] 0 [] (.tup [.a (.str (upToS c s).1), .a (.str (upToS c s).2.1), .a (.bool (upToS c s).2.2)]) [] 0 :=
  GCp.plain (by simp [S1.bd, At.bd]) (by simp [SV.bd, S1.bd, At.bd]) (by simp [Yo, Yr, Yp, Zw, Zp, Vc.S1.okN, At.okN, SV.okN, Res.okN, Res.outOk, Z1, Res.own, Value.oneCell']) fun w hg => by
    obtain ⟨m, hm⟩ := hM w _ hg
    have := Tryz.strings_Cut ⟨s.toArray⟩ ⟨[c].toArray⟩ m w (by simpa [ByteArray.size] using hs) hm
    simp only [List.toList_toArray, Qo] at this
    exact this.mono fun e w' ⟨he, n, hw⟩ => ⟨he, hw ▸ ⟨rfl, rfl, rfl, Nat.le_refl _, fun _ _ => rfl⟩⟩
theorem Dj (G : Nat) (H : Nat → Option Obj) (s : List UInt8) (n : Int) (hs : s.length ≤ 18) (hn : Lib.atoi s = some n) :
    GCp G H Tryz.prog 126 [.a (.str s)] [] 0 [] (.tup [.a (.int .i64 n), .a (.raw .nilIface)]) [] 0 :=
  GCp.plain (by simp [S1.bd, At.bd]) (by simp [SV.bd, S1.bd, At.bd, Value.oneCell']) (by simp [Yo, Yr, Yp, Zw, Zp, Vc.S1.okN, At.okN, SV.okN, Res.okN, Res.outOk, Z1, Res.own, Value.oneCell']) fun w hg =>
    (Tryz.strconv_Atoi ⟨s.toArray⟩ n (by simpa [ByteArray.size] using hs) hn w).mono fun e w' ⟨he, t, hw⟩ => ⟨he, hw ▸ Lib.bytesWorld_below w _ t⟩
theorem M0 {G : Nat} {H : Nat → Option Obj} (hM : Xh G H) (s : List UInt8) (c : UInt8) (hs : s.length ≤ 2000000) :
    GCp G H Tryz.prog 20 [.a (.str s), .a (.str [c])] [] 0 [] (.one (.a (.ref 0))) [(0, .row 9 .str (splitS c s))] 1 := by
  refine ⟨(by simp [Yo, Yr, Yp, Zw, Zp, Vc.S1.okN, At.okN, SV.okN, Res.okN, Res.outOk, Z1, Res.own, Value.oneCell']), fun ρ w hm hg => ?_⟩
  obtain ⟨m, hmx⟩ := hM w _ hg
  have hcnt : Lib.countB ⟨s.toArray⟩ ⟨[c].toArray⟩ = s.count c := by simpa [Lib.countB] using Lib.count_one c s
  have hsp : (Lib.splitB ⟨[c].toArray⟩ 0 (s.count c) ⟨s.toArray⟩).map (·.data.toList) = splitS c s := by
    rw [Lib.splitB_data]
    exact Hw c _ s rfl
  have hl := Sm c s
  have := Tryz.strings_Split ⟨s.toArray⟩ ⟨[c].toArray⟩ m w (by simp [ByteArray.size]; omega) hmx (by simp [ByteArray.size])
  refine this.mono fun e w' ⟨he, hw⟩ => ?_
  rw [hcnt] at he hw
  have hB : Below w.heap.size w w' := hw ▸ (Below.refl _ w).alloc (Nat.le_refl _) _
  have hcells : (Lib.splitB ⟨[c].toArray⟩ 0 (s.count c) ⟨s.toArray⟩).map Value.string = (splitS c s).map fun y => Value.string ⟨y.toArray⟩ := by
    rw [← hsp, List.map_map]
    rfl
  have hcl := List.count_le_length (a := c) (l := s)
  have hown : Rf w.heap.size w' (.slice (some ⟨w.heap.size, 0, none⟩) (s.count c + 1) (s.count c + 1)) 9 .str (splitS c s) := by
    unfold Rf
    rw [N3, hl]
    refine ⟨by simp [hl, Kd.sz], .inr ⟨w.heap.size, s.count c + 1, ((splitS c s).map fun y => Value.string ⟨y.toArray⟩).toArray, rfl, Nat.le_refl _, ?_, Nat.le_refl _, by simp only [maxLen]; omega, ?_, ?_⟩⟩
    · rw [hw, hcells]; exact heap_alloc_new w _
    · simp [hl, Kd.sz]
    · simp [Kd.sz, hl]
      exact List.take_of_length_le (by simp [hl])
  refine ⟨Yg ρ 0 (.slice (some ⟨w.heap.size, 0, none⟩) (s.count c + 1) (s.count c + 1)), (fun n hn => nomatch hn), by rw [he]; simp [SV.den, S1.den, At.den, Zj], ?_⟩
  exact hm.addRow hB hown
end Go.Proofs.YtjochhncheheaaaGreatDoor
