/-
  AsmTells: for every list of lines and every name the law returns true; all read behind the call as before. Condition: the listed variables of Go's library lie as their initialisers lay them (the tie is given).
-/
import Derived.Test.YtccjjcdjgibilaaDoorRead
import Derived.Test.YtccjjcdjgibilaaDoorTellH
import Derived.Test.YtccjjcdjgibilaaDoorCards
import Derived.Test.YtccjjcdjgibilaaDoorTie
import Derived.LaidMore
import Derived.Lib.LaidTab
import Derived.Stop.Joined
import Derived.Stop.LaidErr
import Derived.SevenTiedAt
namespace Go.Proofs.YtccjjcdjgibilaaDoor
open Go.ChangeShapes Go.WideShapes Go.ChangeAt Go.WideMaps Go.WideElems Go.RowKit Vc
set_option linter.unusedVariables false
theorem asm_own : ownKnob Tryd.prog.godebug = none := by kernel_rfl
theorem line_ty : LineTy Tryd.prog 22 27 25 :=
  ⟨Tryd.underlying22, by kernel_rfl, by kernel_rfl, ⟨_, _, _, Tryd.underlying27, ⟨Tryd.underlying9, rfl, Tryd.underlying9⟩, ⟨by kernel_rfl, by kernel_rfl⟩, by decide⟩,
    ⟨_, _, _, _, Tryd.underlying25, ⟨Tryd.underlying3, Tryd.underlying3, Tryd.underlying3, Tryd.underlying3⟩, ⟨by kernel_rfl, by kernel_rfl, by kernel_rfl, by kernel_rfl⟩, by decide⟩⟩
theorem Jk (W : World) : Te W.heap.size (fun b => W.heap[b]?) W [] := ⟨Nat.le_refl _, fun b hb => rfl, fun b hb => nomatch hb⟩
theorem Lv {P : Program} {f : Nat} {W : World} {v : Value} {l : List Ln} {s : List UInt8} (h : GCp W.heap.size (fun b => W.heap[b]?) P f [.a (.ref 0), .a (.str s)] [(0, .ro .line l)] 1 [] (.one (.a (.bool true))) [] 1) (hv : Tm W v .line l) :
    Calls P f #[v, .string ⟨s.toArray⟩] W fun e W' => e = .returned (.bool true) ∧ Below W.heap.size W W' := by
  have hm := (Mem.none P W [] 0 0 []).addRo hv (by simp [Yz])
  refine (h.run (Wf (fun _ => X8) 0 v) W hm (Jk W)).mono fun e W' hl => ?_
  obtain ⟨ρ', _, rfl, hm'⟩ := hl
  exact ⟨rfl, hm'.toBelow⟩
theorem P8 (os : Os) (args : Array Value) : laidMetH Tryd.prog Rows.asmTellsRow.laid ((World.doorLaid Tryd.prog 72 os).forCall (fun _ _ => 0) ⟨#[], args, []⟩).memory :=
  laidMetH_of_parts3 (fuel := 8) (laidMet_of_run' 8 (by kernel_rfl) (by kernel_rfl)) (by kernel_rfl) (by kernel_rfl)
theorem Jg {W : World} (h : laidMetH Tryd.prog Rows.asmTellsRow.laid W) : Lib.TabIs Tryd.prog W "internal/strconv.uint64pow10" .u64 Lib.pow10Tab := by
  rw [MakeChecks.laidMetH_plain _ _ _ (by kernel_rfl)] at h
  have h1 : laidMet Tryd.prog (_ :: _ :: _ :: []) W := h
  have h3 := laidMet.tail (laidMet.tail h1)
  exact Lib.tabIs_of_head (P := Tryd.prog) (g := 0) (t := 139) (e := 124) (n := 20) (k := .u64) (zs := Lib.pow10Tab) (rest := []) (by kernel_rfl) (by kernel_rfl) Tryd.underlying139 Tryd.underlying124 (by kernel_rfl) (by kernel_rfl) h3
theorem itoa_ok {W : World} (hT : Lib.TabIs Tryd.prog W "internal/strconv.uint64pow10" .u64 Lib.pow10Tab) : Pp W.heap.size (fun b => W.heap[b]?) := by
  intro w X hg
  have hgn : Tryd.prog.globalNamed "internal/strconv.uint64pow10" = some 0 := by kernel_rfl
  unfold Lib.TabIs World.var? at hT ⊢
  rw [hgn] at hT ⊢
  simp only [Option.bind_some] at hT ⊢
  rcases Nat.lt_or_ge 0 W.heap.size with h | h
  · rw [hg.2.1 _ h]; exact hT
  · rw [Array.getElem?_eq_none h] at hT; cases hT
set_option maxRecDepth 100000 in
theorem Qw (os : Os) (started : os.Started) (H : Type) (enc : TypeId × Value → H) :
    ReturnsInHanded {} Tryd.checked os 3 .any (fun w args => (Rows.asmTellsSpec.pre enc Tryd.prog Tryd.f3 [] false w args ∧ laidMetH Tryd.prog Rows.asmTellsRow.laid w) ∧ sizedMet enc Tryd.prog Tryd.f3 (OpenSpec.ofChange Rows.asmTellsSpec) false w args)
      (Rows.asmTellsSpec.post enc Tryd.prog Tryd.f3 false true false false) := by
  refine returnsInHanded_of_change_and (C := Tryd.checked) (X := fun w _ => laidMetH Tryd.prog Rows.asmTellsRow.laid w) (fun _ _ _ hh h => h.of_heap hh) asm_own started (by kernel_rfl) Tryd.func3
    (ChangeSpec.witness_shaped (enc := enc) (C := Tryd.checked) (os := os) (X := fun w _ => laidMetH Tryd.prog Rows.asmTellsRow.laid w) false (World.doorLaid Tryd.prog 72 os) #[.slice none 0 0, .string ⟨#[]⟩] 8 rfl (World.shaped_of_RefB (by kernel_rfl) (by kernel_rfl)) (by kernel_rfl) (by kernel_rfl) (by kernel_rfl) (P8 os _)) ?_
  intro W base args ds gs before hval0 hW _ _ hL _
  have hval : ∀ (j : Nat) t v, Tryd.f3.params[j]? = some t → args[j]? = some v → Value.okWide Tryd.prog W .any base t v := hval0
  have hW' := hW
  obtain ⟨p, q, hA0, hV, hpq, hfz, hnd⟩ := hW
  have hA : DataW.TrodAll enc Tryd.prog W 0 (fun _ => true) true Tryd.f3.params.toList args.toList ds p := hA0
  rw [Tryd.params3] at hA hval
  obtain ⟨v0, v1, d0, d1, p0, p1, hargs, rfl, rfl, h0, h1⟩ := trodAll_two hA
  subst hargs
  obtain ⟨rfl, rfl⟩ := trodVars_none hV
  obtain ⟨l, hl, hlen⟩ := Mz line_ty (hval 0 22 v0 rfl rfl) h0
  obtain ⟨s, rfl, hs⟩ := Ku Tryd.underlying9 (hval 1 9 v1 rfl rfl) h1
  have hT := Jg hL
  have hI := itoa_ok hT
  refine (Lv (O7 hI l s hlen hs) hl).mono fun e W' ⟨he, hB⟩ => ?_
  subst he
  exact ⟨_, rfl, Ky rfl (by kernel_rfl) (by decide +kernel) (by kernel_rfl) Tryd.underlying4 hW' rfl hB⟩
theorem O3 : Rows.AsmTellsSaid :=
  OpenClaim.holds_of_wide 3 Tryd.f3 rfl rfl rfl rfl rfl rfl rfl ⟨rfl, rfl, rfl, rfl, rfl⟩ rfl rfl rfl rfl rfl (by kernel_rfl) Tryd.func3 (by kernel_rfl)
    (of_decide_eq_true (by kernel_rfl)) (by unfold Func.isWrapper; first | (rw [if_pos (by decide +kernel)]; kernel_rfl) | (rw [if_neg (by decide +kernel)]; exact ⟨rfl, rfl⟩))
    (fun os started H enc _ => Qw os started H enc)
theorem asmTells_proved : Rows.AsmTellsCardSaid :=
  Claim7.holds_tied_plain_at .later [] [.data, .data, .data] true (true, "e1a8894b109df1da22eaa41ce2b04d84bf76c671ad24be7c7d742b6ace5b26c0") true
    O3 (fun _ h => by cases h) (by kernel_rfl) (fun _ h => by cases h) asmTells_row_tie rfl ⟨rfl, rfl⟩ (by kernel_rfl) rfl
    (fun f fn hf hfn => by
      obtain rfl : f = 3 := Option.some.inj ((show Tryd.prog.funcNamed "pairlegal/pairlegallaw4.AsmTells" = some 3 by kernel_rfl).symm.trans hf) |>.symm
      obtain rfl : fn = Tryd.f3 := (Option.some.inj (Tryd.func3.symm.trans hfn)).symm
      exact ⟨by kernel_rfl, fun j t ht => by
        rw [Tryd.params3] at ht
        have hm : t ∈ [22, 9] := by simpa using Array.mem_of_getElem? ht
        have hall : ([22, 9].all fun u => !Tryd.prog.wantsStandIn u) = true := by kernel_rfl
        exact (show Tryd.prog.wantsStandIn t = false by simpa using List.all_eq_true.1 hall t hm)⟩)
    (by kernel_rfl)
end Go.Proofs.YtccjjcdjgibilaaDoor
