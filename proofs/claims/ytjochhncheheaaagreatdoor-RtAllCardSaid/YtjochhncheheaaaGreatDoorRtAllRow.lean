/-
  RtAll: the law returns true: a unit that calls all routines is linked, within half the memory. Condition: the listed variables of Go's library lie as their initialisers lay them (the tie is given).
-/
import Derived.Lay
import Derived.Test.YtjochhncheheaaaGreatDoorHandS
import Derived.Test.YtjochhncheheaaaGreatDoorRtO
import Derived.Test.YtjochhncheheaaaGreatDoorCards
import Derived.Test.YtjochhncheheaaaGreatDoorTie
namespace Go.Proofs.YtjochhncheheaaaGreatDoor
open Go.ChangeShapes Go.WideShapes Go.ChangeAt Go.WideMaps Go.WideElems Go.RowKit Vc
set_option linter.unusedVariables false
theorem asm_own : ownKnob Tryz.prog.godebug = none := by kernel_rfl
theorem Fz {P : Program} {f : Nat} {W : World} (h : GCp W.heap.size (fun b => W.heap[b]?) P f [] [] 0 [] (.one (.a (.bool true))) [] 0) :
    Calls P f #[] W fun e W' => e = .returned (.bool true) ∧ Below W.heap.size W W' := by
  refine (h.run (fun _ => Xa) W (Mem.none P W [] 0 0 []) (G2 W)).mono fun e W' hl => ?_
  obtain ⟨ρ', _, rfl, hm'⟩ := hl
  exact ⟨rfl, hm'.toBelow⟩
theorem Fx {W : World} (h : laidMetH Tryz.prog Rows.rtAllRow.laid W) : Lib.TabIs Tryz.prog W "internal/strconv.uint64pow10" .u64 Lib.pow10Tab := by
  rw [MakeChecks.laidMetH_plain _ _ _ (by kernel_rfl)] at h
  have h1 : laidMet Tryz.prog (_ :: _ :: _ :: _) W := h
  have h3 := laidMet.tail (laidMet.tail h1)
  exact Lib.tabIs_of_head (P := Tryz.prog) (g := 5) (t := 266) (e := 49) (n := 20) (k := .u64) (zs := Lib.pow10Tab) (rest := _) (by kernel_rfl) (by kernel_rfl) Tryz.underlying266 Tryz.underlying49 (by kernel_rfl) (by kernel_rfl) h3
theorem itoa_ok {W : World} (hT : Lib.TabIs Tryz.prog W "internal/strconv.uint64pow10" .u64 Lib.pow10Tab) : Y6 W.heap.size (fun b => W.heap[b]?) := by
  intro w X hg
  have hgn : Tryz.prog.globalNamed "internal/strconv.uint64pow10" = some 5 := by kernel_rfl
  unfold Lib.TabIs World.var? at hT ⊢
  rw [hgn] at hT ⊢
  simp only [Option.bind_some] at hT ⊢
  rcases Nat.lt_or_ge 5 W.heap.size with h | h
  · rw [hg.2.1 _ h]; exact hT
  · rw [Array.getElem?_eq_none h] at hT; cases hT
set_option maxRecDepth 100000 in
theorem Lf (os : Os) (started : os.Started) (H : Type) (enc : TypeId × Value → H) :
    ReturnsInHanded {} Tryz.checked os 4 .any (fun w args => (Rows.rtAllSpec.pre enc Tryz.prog Tryz.f4 [] false w args ∧ laidMetH Tryz.prog Rows.rtAllRow.laid w) ∧ sizedMet enc Tryz.prog Tryz.f4 (OpenSpec.ofChange Rows.rtAllSpec) false w args)
      (Rows.rtAllSpec.post enc Tryz.prog Tryz.f4 false true false false) := by
  refine Q6 (C := Tryz.checked) (X := fun w _ => laidMetH Tryz.prog Rows.rtAllRow.laid w) (fun _ _ _ hh h => h.of_heap hh) asm_own started (by kernel_rfl) Tryz.func4
    (ChangeSpec.witness_shaped (enc := enc) (C := Tryz.checked) (os := os) (X := fun w _ => laidMetH Tryz.prog Rows.rtAllRow.laid w) false (World.laidAll Tryz.prog os Rows.rtAllRow.laid) #[] 8 (World.laidAll_os _ _ _) (World.shaped_of_ZipB (by kernel_rfl) (by kernel_rfl)) (by kernel_rfl) (by kernel_rfl) (by kernel_rfl)
      (by rw [MakeChecks.laidMetH_plain _ _ _ (by kernel_rfl)]; exact laidMet_laidAll _ (by kernel_rfl) (by kernel_rfl))) ?_
  intro W base args ds gs before hval0 hW _ _ hL hsh _
  have hval : ∀ (j : Nat) t v, Tryz.f4.params[j]? = some t → args[j]? = some v → Value.okWide Tryz.prog W .any base t v := hval0
  have hW' := hW
  obtain ⟨p, q, hA0, hV, hpq, hfz, hnd⟩ := hW
  have hA : DataW.TrodAll enc Tryz.prog W 0 (fun _ => true) true Tryz.f4.params.toList args.toList ds p := hA0
  rw [Tryz.params4] at hA hval
  obtain ⟨rfl, rfl⟩ : args = #[] ∧ ds = [] := by
    rcases args with ⟨l⟩
    cases l with
    | cons x l => cases ds <;> simp [DataW.TrodAll] at hA
    | nil => cases ds with
      | nil => exact ⟨rfl, rfl⟩
      | cons d ds => simp [DataW.TrodAll] at hA
  obtain ⟨rfl, rfl⟩ := trodVars_none hV
  refine (Fz (Gh (max_ok hsh) (itoa_ok (Fx hL)))).mono fun e W' ⟨he, hB⟩ => ?_
  subst he
  exact ⟨_, rfl, F1 rfl (by kernel_rfl) (by decide +kernel) (by kernel_rfl) Tryz.underlying4 hW' rfl hB⟩
theorem G4 : Rows.RtAllSaid :=
  OpenClaim.holds_of_wide 4 Tryz.f4 rfl rfl rfl rfl rfl rfl rfl ⟨rfl, rfl, rfl, rfl, rfl⟩ rfl rfl rfl rfl rfl (by kernel_rfl) Tryz.func4 (by kernel_rfl)
    (of_decide_eq_true (by kernel_rfl)) (by unfold Func.isWrapper; first | (rw [if_pos (by decide +kernel)]; kernel_rfl) | (rw [if_neg (by decide +kernel)]; exact ⟨rfl, rfl⟩))
    (fun os started H enc _ => Lf os started H enc)
theorem rtAll_proved : Rows.RtAllCardSaid :=
  Claim7.holds_tied_plain_at .later [] [.data, .data, .data, .data, .sentinel, .sentinel, .pinned] true (true, "02044cd41f7f42a5d89fdd66e4a1ed4f42a2164c28a7918a91f7c1263bf2f6b0") true
    G4 (fun _ h => by cases h) (by kernel_rfl) (fun _ h => by cases h) rtAll_row_tie rfl ⟨rfl, rfl⟩ (by kernel_rfl) rfl
    (fun f fn hf hfn => by
      obtain rfl : f = 4 := Option.some.inj ((show Tryz.prog.funcNamed "pairlegal/pairlegallaw6.RtAll" = some 4 by kernel_rfl).symm.trans hf) |>.symm
      obtain rfl : fn = Tryz.f4 := (Option.some.inj (Tryz.func4.symm.trans hfn)).symm
      exact ⟨by kernel_rfl, fun j t ht => by
        rw [Tryz.params4] at ht
        simp at ht⟩)
    (by kernel_rfl)
end Go.Proofs.YtjochhncheheaaaGreatDoor
