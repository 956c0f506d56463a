/-
  AsmRemarks: for every text and every remark the law returns true; all read behind the call as before. Condition: the listed variables of Go's library lie as their initialisers lay them (the tie is given).
-/
import Derived.Lay
import Derived.Test.YtccjjcdjgibilaaDoorHandS
import Derived.Test.YtccjjcdjgibilaaDoorRemA
import Derived.Test.YtccjjcdjgibilaaDoorCards
import Derived.Test.YtccjjcdjgibilaaDoorTie
namespace Go.Proofs.YtccjjcdjgibilaaDoor
open Go.ChangeShapes Go.WideShapes Go.ChangeAt Go.WideMaps Go.WideElems Go.RowKit Vc
set_option linter.unusedVariables false
theorem asm_own : ownKnob Tryd.prog.godebug = none := by kernel_rfl
theorem Jm {P : Program} {f : Nat} {W : World} {s r : List UInt8} (h : GCp W.heap.size (fun b => W.heap[b]?) P f [.a (.str s), .a (.str r)] [] 0 [] (.one (.a (.bool true))) [] 0) :
    Calls P f #[.string ⟨s.toArray⟩, .string ⟨r.toArray⟩] W fun e W' => e = .returned (.bool true) ∧ Below W.heap.size W W' := by
  refine (h.run (fun _ => X0) W (Mem.none P W [] 0 0 []) (K9 W)).mono fun e W' hl => ?_
  obtain ⟨ρ', _, rfl, hm'⟩ := hl
  exact ⟨rfl, hm'.toBelow⟩
set_option maxRecDepth 100000 in
theorem Ro (os : Os) (started : os.Started) (H : Type) (enc : TypeId × Value → H) :
    ReturnsInHanded {} Tryd.checked os 5 .any (fun w args => (Rows.asmRemarksSpec.pre enc Tryd.prog Tryd.f5 [] false w args ∧ laidMetH Tryd.prog Rows.asmRemarksRow.laid w) ∧ sizedMet enc Tryd.prog Tryd.f5 (OpenSpec.ofChange Rows.asmRemarksSpec) false w args)
      (Rows.asmRemarksSpec.post enc Tryd.prog Tryd.f5 false true false false) := by
  refine Rm (C := Tryd.checked) (X := fun w _ => laidMetH Tryd.prog Rows.asmRemarksRow.laid w) (fun _ _ _ hh h => h.of_heap hh) asm_own started (by kernel_rfl) Tryd.func5
    (ChangeSpec.witness_shaped (enc := enc) (C := Tryd.checked) (os := os) (X := fun w _ => laidMetH Tryd.prog Rows.asmRemarksRow.laid w) false (World.laidAll Tryd.prog os Rows.asmRemarksRow.laid) #[.string ⟨#[]⟩, .string ⟨#[]⟩] 8 (World.laidAll_os _ _ _) (World.shaped_of_ZipB (by kernel_rfl) (by kernel_rfl)) (by kernel_rfl) (by kernel_rfl) (by kernel_rfl)
      (by rw [MakeChecks.laidMetH_plain _ _ _ (by kernel_rfl)]; exact laidMet_laidAll _ (by kernel_rfl) (by kernel_rfl))) ?_
  intro W base args ds gs before hval0 hW _ _ hL hsh _
  have hval : ∀ (j : Nat) t v, Tryd.f5.params[j]? = some t → args[j]? = some v → Value.okWide Tryd.prog W .any base t v := hval0
  have hW' := hW
  obtain ⟨p, q, hA0, hV, hpq, hfz, hnd⟩ := hW
  have hA : DataW.TrodAll enc Tryd.prog W 0 (fun _ => true) true Tryd.f5.params.toList args.toList ds p := hA0
  rw [Tryd.params5] at hA hval
  obtain ⟨v0, v1, d0, d1, p0, p1, hargs, rfl, rfl, h0, h1⟩ := trodAll_two hA
  subst hargs
  obtain ⟨rfl, rfl⟩ := trodVars_none hV
  obtain ⟨s, rfl, hs⟩ := N7 Tryd.underlying9 (hval 0 9 v0 rfl rfl) h0
  obtain ⟨r, rfl, hr⟩ := N7 Tryd.underlying9 (hval 1 9 v1 rfl rfl) h1
  refine (Jm (Pd (max_ok hsh) s r hs hr)).mono fun e W' ⟨he, hB⟩ => ?_
  subst he
  exact ⟨_, rfl, Jy rfl (by kernel_rfl) (by decide +kernel) (by kernel_rfl) Tryd.underlying4 hW' rfl hB⟩
theorem Q6 : Rows.AsmRemarksSaid :=
  OpenClaim.holds_of_wide 5 Tryd.f5 rfl rfl rfl rfl rfl rfl rfl ⟨rfl, rfl, rfl, rfl, rfl⟩ rfl rfl rfl rfl rfl (by kernel_rfl) Tryd.func5 (by kernel_rfl)
    (of_decide_eq_true (by kernel_rfl)) (by unfold Func.isWrapper; first | (rw [if_pos (by decide +kernel)]; kernel_rfl) | (rw [if_neg (by decide +kernel)]; exact ⟨rfl, rfl⟩))
    (fun os started H enc _ => Ro os started H enc)
theorem asmRemarks_proved : Rows.AsmRemarksCardSaid :=
  Claim7.holds_tied_plain_at .later [] [.data, .data, .data, .data, .sentinel, .sentinel, .pinned] true (true, "e1a8894b109df1da22eaa41ce2b04d84bf76c671ad24be7c7d742b6ace5b26c0") true
    Q6 (fun _ h => by cases h) (by kernel_rfl) (fun _ h => by cases h) asmRemarks_row_tie rfl ⟨rfl, rfl⟩ (by kernel_rfl) rfl
    (fun f fn hf hfn => by
      obtain rfl : f = 5 := Option.some.inj ((show Tryd.prog.funcNamed "pairlegal/pairlegallaw4.AsmRemarks" = some 5 by kernel_rfl).symm.trans hf) |>.symm
      obtain rfl : fn = Tryd.f5 := (Option.some.inj (Tryd.func5.symm.trans hfn)).symm
      exact ⟨by kernel_rfl, fun j t ht => by
        rw [Tryd.params5] at ht
        have hm : t ∈ [9, 9] := by simpa using Array.mem_of_getElem? ht
        have hall : ([9, 9].all fun u => !Tryd.prog.wantsStandIn u) = true := by kernel_rfl
        exact (show Tryd.prog.wantsStandIn t = false by simpa using List.all_eq_true.1 hall t hm)⟩)
    (by kernel_rfl)
end Go.Proofs.YtccjjcdjgibilaaDoor
