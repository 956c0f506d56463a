/-
  AsmTurns: for every list of lines and every text the law returns true; all read behind the call as before. Condition: the listed variables of Go's library lie as their initialisers lay them (the tie is given).
-/
import Derived.Lay
import Derived.Test.YtccjjcdjgibilaaGreatDoorHandS
import Derived.Test.YtccjjcdjgibilaaGreatDoorTurnA
import Derived.Test.YtccjjcdjgibilaaGreatDoorCards
import Derived.Test.YtccjjcdjgibilaaGreatDoorTie
namespace Go.Proofs.YtccjjcdjgibilaaGreatDoor
open Go.ChangeShapes Go.WideShapes Go.ChangeAt Go.WideMaps Go.WideElems Go.RowKit Vc
set_option linter.unusedVariables false
theorem asm_own : ownKnob Tryz.prog.godebug = none := by kernel_rfl
theorem line_ty : LineTy Tryz.prog 22 34 32 :=
  ⟨Tryz.underlying22, by kernel_rfl, by kernel_rfl, ⟨_, _, _, Tryz.underlying34, ⟨Tryz.underlying9, rfl, Tryz.underlying9⟩, ⟨by kernel_rfl, by kernel_rfl⟩, by decide⟩,
    ⟨_, _, _, _, Tryz.underlying32, ⟨Tryz.underlying3, Tryz.underlying3, Tryz.underlying3, Tryz.underlying3⟩, ⟨by kernel_rfl, by kernel_rfl, by kernel_rfl, by kernel_rfl⟩, by decide⟩⟩
theorem Ii {P : Program} {f : Nat} {W : World} {v : Value} {l : List Ln} {s : List UInt8} (h : GCp W.heap.size (fun b => W.heap[b]?) P f [.a (.ref 0), .a (.str s)] [(0, .ro .line l)] 1 [] (.one (.a (.bool true))) [] 1) (hv : U9 W v .line l) :
    Calls P f #[v, .string ⟨s.toArray⟩] W fun e W' => e = .returned (.bool true) ∧ Below W.heap.size W W' := by
  have hm := (Mem.none P W [] 0 0 []).addRo hv (by simp [Y0])
  refine (h.run (Wk (fun _ => Y5) 0 v) W hm (Jv W)).mono fun e W' hl => ?_
  obtain ⟨ρ', _, rfl, hm'⟩ := hl
  exact ⟨rfl, hm'.toBelow⟩
theorem Hh {W : World} (h : laidMetH Tryz.prog Rows.asmTurnsRow.laid W) : Lib.TabIs Tryz.prog W "internal/strconv.uint64pow10" .u64 Lib.pow10Tab := by
  rw [MakeChecks.laidMetH_plain _ _ _ (by kernel_rfl)] at h
  have h1 : laidMet Tryz.prog (_ :: _ :: _ :: _) W := h
  have h3 := laidMet.tail (laidMet.tail h1)
  exact Lib.tabIs_of_head (P := Tryz.prog) (g := 0) (t := 127) (e := 111) (n := 20) (k := .u64) (zs := Lib.pow10Tab) (rest := _) (by kernel_rfl) (by kernel_rfl) Tryz.underlying127 Tryz.underlying111 (by kernel_rfl) (by kernel_rfl) h3
theorem itoa_ok {W : World} (hT : Lib.TabIs Tryz.prog W "internal/strconv.uint64pow10" .u64 Lib.pow10Tab) : R5 W.heap.size (fun b => W.heap[b]?) := by
  intro w X hg
  have hgn : Tryz.prog.globalNamed "internal/strconv.uint64pow10" = some 0 := by kernel_rfl
  unfold Lib.TabIs World.var? at hT ⊢
  rw [hgn] at hT ⊢
  simp only [Option.bind_some] at hT ⊢
  rcases Nat.lt_or_ge 0 W.heap.size with h | h
  · rw [hg.2.1 _ h]; exact hT
  · rw [Array.getElem?_eq_none h] at hT; cases hT
set_option maxRecDepth 100000 in
theorem Q7 (os : Os) (started : os.Started) (H : Type) (enc : TypeId × Value → H) :
    ReturnsInHanded {} Tryz.checked os 3 .any (fun w args => (Rows.asmTurnsSpec.pre enc Tryz.prog Tryz.f3 [] false w args ∧ laidMetH Tryz.prog Rows.asmTurnsRow.laid w) ∧ sizedMet enc Tryz.prog Tryz.f3 (OpenSpec.ofChange Rows.asmTurnsSpec) false w args)
      (Rows.asmTurnsSpec.post enc Tryz.prog Tryz.f3 false true false false) := by
  refine Ru (C := Tryz.checked) (X := fun w _ => laidMetH Tryz.prog Rows.asmTurnsRow.laid w) (fun _ _ _ hh h => h.of_heap hh) asm_own started (by kernel_rfl) Tryz.func3
    (ChangeSpec.witness_shaped (enc := enc) (C := Tryz.checked) (os := os) (X := fun w _ => laidMetH Tryz.prog Rows.asmTurnsRow.laid w) false (World.laidAll Tryz.prog os Rows.asmTurnsRow.laid) #[.slice none 0 0, .string ⟨#[]⟩] 8 (World.laidAll_os _ _ _) (World.shaped_of_ZipB (by kernel_rfl) (by kernel_rfl)) (by kernel_rfl) (by kernel_rfl) (by kernel_rfl)
      (by rw [MakeChecks.laidMetH_plain _ _ _ (by kernel_rfl)]; exact laidMet_laidAll _ (by kernel_rfl) (by kernel_rfl))) ?_
  intro W base args ds gs before hval0 hW _ _ hL hsh _
  have hval : ∀ (j : Nat) t v, Tryz.f3.params[j]? = some t → args[j]? = some v → Value.okWide Tryz.prog W .any base t v := hval0
  have hW' := hW
  obtain ⟨p, q, hA0, hV, hpq, hfz, hnd⟩ := hW
  have hA : DataW.TrodAll enc Tryz.prog W 0 (fun _ => true) true Tryz.f3.params.toList args.toList ds p := hA0
  rw [Tryz.params3] at hA hval
  obtain ⟨v0, v1, d0, d1, p0, p1, hargs, rfl, rfl, h0, h1⟩ := trodAll_two hA
  subst hargs
  obtain ⟨rfl, rfl⟩ := trodVars_none hV
  obtain ⟨l, hl, hlen⟩ := Kp line_ty (hval 0 22 v0 rfl rfl) h0
  obtain ⟨s, rfl, hs⟩ := I0 Tryz.underlying9 (hval 1 9 v1 rfl rfl) h1
  refine (Ii (Np (max_ok hsh) (itoa_ok (Hh hL)) l s hlen hs) hl).mono fun e W' ⟨he, hB⟩ => ?_
  subst he
  exact ⟨_, rfl, Hv rfl (by kernel_rfl) (by decide +kernel) (by kernel_rfl) Tryz.underlying4 hW' rfl hB⟩
theorem N5 : Rows.AsmTurnsSaid :=
  OpenClaim.holds_of_wide 3 Tryz.f3 rfl rfl rfl rfl rfl rfl rfl ⟨rfl, rfl, rfl, rfl, rfl⟩ rfl rfl rfl rfl rfl (by kernel_rfl) Tryz.func3 (by kernel_rfl)
    (of_decide_eq_true (by kernel_rfl)) (by unfold Func.isWrapper; first | (rw [if_pos (by decide +kernel)]; kernel_rfl) | (rw [if_neg (by decide +kernel)]; exact ⟨rfl, rfl⟩))
    (fun os started H enc _ => Q7 os started H enc)
theorem asmTurns_proved : Rows.AsmTurnsCardSaid :=
  Claim7.holds_tied_plain_at .later [] [.data, .data, .data, .data, .sentinel, .sentinel, .pinned] true (true, "6ace4bf774761f1a275a88e786df38bc199af621d917dcb99276a508897530b5") true
    N5 (fun _ h => by cases h) (by kernel_rfl) (fun _ h => by cases h) asmTurns_row_tie rfl ⟨rfl, rfl⟩ (by kernel_rfl) rfl
    (fun f fn hf hfn => by
      obtain rfl : f = 3 := Option.some.inj ((show Tryz.prog.funcNamed "pairlegal/pairlegallaw4.AsmTurns" = some 3 by kernel_rfl).symm.trans hf) |>.symm
      obtain rfl : fn = Tryz.f3 := (Option.some.inj (Tryz.func3.symm.trans hfn)).symm
      exact ⟨by kernel_rfl, fun j t ht => by
        rw [Tryz.params3] at ht
        have hm : t ∈ [22, 9] := by simpa using Array.mem_of_getElem? ht
        have hall : ([22, 9].all fun u => !Tryz.prog.wantsStandIn u) = true := by kernel_rfl
        exact (show Tryz.prog.wantsStandIn t = false by simpa using List.all_eq_true.1 hall t hm)⟩)
    (by kernel_rfl)
end Go.Proofs.YtccjjcdjgibilaaGreatDoor
