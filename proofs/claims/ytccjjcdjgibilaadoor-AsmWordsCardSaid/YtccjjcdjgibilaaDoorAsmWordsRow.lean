/-
  AsmWords: for every list of lines the law returns true; all read behind the call as before. Condition: the listed variables of Go's library lie as their initialisers lay them (the tie is given).
-/
import Derived.Lay
import Derived.Test.YtccjjcdjgibilaaDoorHandS
import Derived.Test.YtccjjcdjgibilaaDoorWordA
import Derived.Test.YtccjjcdjgibilaaDoorCards
import Derived.Test.YtccjjcdjgibilaaDoorTie
namespace Go.Proofs.YtccjjcdjgibilaaDoor
open Go.ChangeShapes Go.WideShapes Go.ChangeAt Go.WideMaps Go.WideElems Go.RowKit Vc
set_option linter.unusedVariables false
theorem asm_own : ownKnob Tryd.prog.godebug = none := by kernel_rfl
theorem line_ty : LineTy Tryd.prog 22 27 25 :=
  ⟨Tryd.underlying22, by kernel_rfl, by kernel_rfl, ⟨_, _, _, Tryd.underlying27, ⟨Tryd.underlying9, rfl, Tryd.underlying9⟩, ⟨by kernel_rfl, by kernel_rfl⟩, by decide⟩,
    ⟨_, _, _, _, Tryd.underlying25, ⟨Tryd.underlying3, Tryd.underlying3, Tryd.underlying3, Tryd.underlying3⟩, ⟨by kernel_rfl, by kernel_rfl, by kernel_rfl, by kernel_rfl⟩, by decide⟩⟩
theorem J5 {P : Program} {f : Nat} {W : World} {v : Value} {l : List Ln} (h : GCp W.heap.size (fun b => W.heap[b]?) P f [.a (.ref 0)] [(0, .ro .line l)] 1 [] (.one (.a (.bool true))) [] 1) (hv : T3 W v .line l) :
    Calls P f #[v] W fun e W' => e = .returned (.bool true) ∧ Below W.heap.size W W' := by
  have hm := (Mem.none P W [] 0 0 []).addRo hv (by simp [Xv])
  refine (h.run (Ws (fun _ => X2) 0 v) W hm (Ix W)).mono fun e W' hl => ?_
  obtain ⟨ρ', _, rfl, hm'⟩ := hl
  exact ⟨rfl, hm'.toBelow⟩
set_option maxRecDepth 100000 in
theorem Py (os : Os) (started : os.Started) (H : Type) (enc : TypeId × Value → H) :
    ReturnsInHanded {} Tryd.checked os 6 .any (fun w args => (Rows.asmWordsSpec.pre enc Tryd.prog Tryd.f6 [] false w args ∧ laidMetH Tryd.prog Rows.asmWordsRow.laid w) ∧ sizedMet enc Tryd.prog Tryd.f6 (OpenSpec.ofChange Rows.asmWordsSpec) false w args)
      (Rows.asmWordsSpec.post enc Tryd.prog Tryd.f6 false true false false) := by
  refine Qp (C := Tryd.checked) (X := fun w _ => laidMetH Tryd.prog Rows.asmWordsRow.laid w) (fun _ _ _ hh h => h.of_heap hh) asm_own started (by kernel_rfl) Tryd.func6
    (ChangeSpec.witness_shaped (enc := enc) (C := Tryd.checked) (os := os) (X := fun w _ => laidMetH Tryd.prog Rows.asmWordsRow.laid w) false (World.laidAll Tryd.prog os Rows.asmWordsRow.laid) #[.slice none 0 0] 8 (World.laidAll_os _ _ _) (World.shaped_of_ZipB (by kernel_rfl) (by kernel_rfl)) (by kernel_rfl) (by kernel_rfl) (by kernel_rfl)
      (by rw [MakeChecks.laidMetH_plain _ _ _ (by kernel_rfl)]; exact laidMet_laidAll _ (by kernel_rfl) (by kernel_rfl))) ?_
  intro W base args ds gs before hval0 hW _ _ hL hsh _
  have hval : ∀ (j : Nat) t v, Tryd.f6.params[j]? = some t → args[j]? = some v → Value.okWide Tryd.prog W .any base t v := hval0
  have hW' := hW
  obtain ⟨p, q, hA0, hV, hpq, hfz, hnd⟩ := hW
  have hA : DataW.TrodAll enc Tryd.prog W 0 (fun _ => true) true Tryd.f6.params.toList args.toList ds p := hA0
  rw [Tryd.params6] at hA hval
  obtain ⟨v0, d0, hargs, rfl, h0⟩ := trodAll_one hA
  subst hargs
  obtain ⟨rfl, rfl⟩ := trodVars_none hV
  obtain ⟨l, hl, hlen⟩ := Kz line_ty (hval 0 22 v0 rfl rfl) h0
  refine (J5 (Mt (max_ok hsh) l hlen) hl).mono fun e W' ⟨he, hB⟩ => ?_
  subst he
  exact ⟨_, rfl, I3 rfl (by kernel_rfl) (by decide +kernel) (by kernel_rfl) Tryd.underlying4 hW' rfl hB⟩
theorem Mk : Rows.AsmWordsSaid :=
  OpenClaim.holds_of_wide 6 Tryd.f6 rfl rfl rfl rfl rfl rfl rfl ⟨rfl, rfl, rfl, rfl, rfl⟩ rfl rfl rfl rfl rfl (by kernel_rfl) Tryd.func6 (by kernel_rfl)
    (of_decide_eq_true (by kernel_rfl)) (by unfold Func.isWrapper; first | (rw [if_pos (by decide +kernel)]; kernel_rfl) | (rw [if_neg (by decide +kernel)]; exact ⟨rfl, rfl⟩))
    (fun os started H enc _ => Py os started H enc)
theorem asmWords_proved : Rows.AsmWordsCardSaid :=
  Claim7.holds_tied_plain_at .later [] [.data, .data, .data, .data, .sentinel, .sentinel, .pinned] true (true, "e1a8894b109df1da22eaa41ce2b04d84bf76c671ad24be7c7d742b6ace5b26c0") true
    Mk (fun _ h => by cases h) (by kernel_rfl) (fun _ h => by cases h) asmWords_row_tie rfl ⟨rfl, rfl⟩ (by kernel_rfl) rfl
    (fun f fn hf hfn => by
      obtain rfl : f = 6 := Option.some.inj ((show Tryd.prog.funcNamed "pairlegal/pairlegallaw4.AsmWords" = some 6 by kernel_rfl).symm.trans hf) |>.symm
      obtain rfl : fn = Tryd.f6 := (Option.some.inj (Tryd.func6.symm.trans hfn)).symm
      exact ⟨by kernel_rfl, fun j t ht => by
        rw [Tryd.params6] at ht
        have hm : t ∈ [22] := by simpa using Array.mem_of_getElem? ht
        have hall : ([22].all fun u => !Tryd.prog.wantsStandIn u) = true := by kernel_rfl
        exact (show Tryd.prog.wantsStandIn t = false by simpa using List.all_eq_true.1 hall t hm)⟩)
    (by kernel_rfl)
end Go.Proofs.YtccjjcdjgibilaaDoor
