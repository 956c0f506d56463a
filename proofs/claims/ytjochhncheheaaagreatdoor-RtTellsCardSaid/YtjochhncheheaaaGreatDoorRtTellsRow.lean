/-
  RtTells: the law returns true: rt.Text gives a text for each name of rt.Names and for no other, and each unit links alone. Condition: the listed variables of Go's library lie as their initialisers lay them (the tie is given).
-/
import Derived.Lay
import Derived.Test.YtjochhncheheaaaGreatDoorHandS
import Derived.Test.YtjochhncheheaaaGreatDoorRtP
import Derived.Test.YtjochhncheheaaaGreatDoorCards
import Derived.Test.YtjochhncheheaaaGreatDoorTie
namespace Go.Proofs.YtjochhncheheaaaGreatDoor
open Go.ChangeShapes Go.WideShapes Go.ChangeAt Go.WideMaps Go.WideElems Go.RowKit Vc
set_option linter.unusedVariables false
theorem asm_own : ownKnob Tryz.prog.godebug = none := by kernel_rfl
theorem gcp_two {P : Program} {f : Nat} {W : World} {s : List UInt8} {n : Int} (h : GCp W.heap.size (fun b => W.heap[b]?) P f [.a (.str s), .a (.int .i64 n)] [] 0 [] (.one (.a (.bool true))) [] 0) :
    Calls P f #[.string ⟨s.toArray⟩, .int .i64 n] W fun e W' => e = .returned (.bool true) ∧ Below W.heap.size W W' := by
  refine (h.run (fun _ => Xe) W (Mem.none P W [] 0 0 []) (G4 W)).mono fun e W' hl => ?_
  obtain ⟨ρ', _, rfl, hm'⟩ := hl
  exact ⟨rfl, hm'.toBelow⟩
theorem Di {P : Program} {W : World} {t : TypeId} {b0 : Nat} {v : Value} (ht : P.underlying t = some (.int .i64)) (hv : Value.okWide P W .any b0 t v) :
    ∃ n : Int, v = .int .i64 n ∧ -9223372036854775808 ≤ n ∧ n ≤ 9223372036854775807 := by
  simp only [Value.okWide, ht, Cell.okWide] at hv
  cases v <;> simp_all [Cell.ok, Value.cells, IntKind.has, IntKind.min, IntKind.max]
  obtain ⟨rfl, h1, h2⟩ := hv
  exact ⟨h1, h2⟩
theorem Eo {W : World} (h : laidMetH Tryz.prog Rows.rtTellsRow.laid W) : Lib.TabIs Tryz.prog W "internal/strconv.uint64pow10" .u64 Lib.pow10Tab := by
  rw [MakeChecks.laidMetH_plain _ _ _ (by kernel_rfl)] at h
  have h1 : laidMet Tryz.prog (_ :: _ :: _ :: _) W := h
  have h3 := laidMet.tail (laidMet.tail h1)
  exact Lib.tabIs_of_head (P := Tryz.prog) (g := 5) (t := 266) (e := 49) (n := 20) (k := .u64) (zs := Lib.pow10Tab) (rest := _) (by kernel_rfl) (by kernel_rfl) Tryz.underlying266 Tryz.underlying49 (by kernel_rfl) (by kernel_rfl) h3
theorem itoa_ok {W : World} (hT : Lib.TabIs Tryz.prog W "internal/strconv.uint64pow10" .u64 Lib.pow10Tab) : Y7 W.heap.size (fun b => W.heap[b]?) := by
  intro w X hg
  have hgn : Tryz.prog.globalNamed "internal/strconv.uint64pow10" = some 5 := by kernel_rfl
  unfold Lib.TabIs World.var? at hT ⊢
  rw [hgn] at hT ⊢
  simp only [Option.bind_some] at hT ⊢
  rcases Nat.lt_or_ge 5 W.heap.size with h | h
  · rw [hg.2.1 _ h]; exact hT
  · rw [Array.getElem?_eq_none h] at hT; cases hT
set_option maxRecDepth 100000 in
theorem Ou (os : Os) (started : os.Started) (H : Type) (enc : TypeId × Value → H) :
    ReturnsInHanded {} Tryz.checked os 3 .any (fun w args => (Rows.rtTellsSpec.pre enc Tryz.prog Tryz.f3 [] false w args ∧ laidMetH Tryz.prog Rows.rtTellsRow.laid w) ∧ sizedMet enc Tryz.prog Tryz.f3 (OpenSpec.ofChange Rows.rtTellsSpec) false w args)
      (Rows.rtTellsSpec.post enc Tryz.prog Tryz.f3 false true false false) := by
  refine Qx (C := Tryz.checked) (X := fun w _ => laidMetH Tryz.prog Rows.rtTellsRow.laid w) (fun _ _ _ hh h => h.of_heap hh) asm_own started (by kernel_rfl) Tryz.func3
    (ChangeSpec.witness_shaped (enc := enc) (C := Tryz.checked) (os := os) (X := fun w _ => laidMetH Tryz.prog Rows.rtTellsRow.laid w) false (World.laidAll Tryz.prog os Rows.rtTellsRow.laid) #[.string ⟨#[]⟩, .int .i64 0] 8 (World.laidAll_os _ _ _) (World.shaped_of_ZipB (by kernel_rfl) (by kernel_rfl)) (by kernel_rfl) (by kernel_rfl) (by kernel_rfl)
      (by rw [MakeChecks.laidMetH_plain _ _ _ (by kernel_rfl)]; exact laidMet_laidAll _ (by kernel_rfl) (by kernel_rfl))) ?_
  intro W base args ds gs before hval0 hW _ _ hL hsh _
  have hval : ∀ (j : Nat) t v, Tryz.f3.params[j]? = some t → args[j]? = some v → Value.okWide Tryz.prog W .any base t v := hval0
  have hW' := hW
  obtain ⟨p, q, hA0, hV, hpq, hfz, hnd⟩ := hW
  have hA : DataW.TrodAll enc Tryz.prog W 0 (fun _ => true) true Tryz.f3.params.toList args.toList ds p := hA0
  rw [Tryz.params3] at hA hval
  obtain ⟨v0, v1, d0, d1, p0, p1, hargs, rfl, rfl, h0, h1⟩ := trodAll_two hA
  subst hargs
  obtain ⟨rfl, rfl⟩ := trodVars_none hV
  obtain ⟨s, rfl, hs⟩ := Ex Tryz.underlying9 (hval 0 9 v0 rfl rfl) h0
  obtain ⟨n, rfl, hn⟩ := Di Tryz.underlying3 (hval 1 3 v1 rfl rfl)
  refine (gcp_two (Jy (max_ok hsh) (itoa_ok (Eo hL)) s n hn)).mono fun e W' ⟨he, hB⟩ => ?_
  subst he
  exact ⟨_, rfl, F2 rfl (by kernel_rfl) (by decide +kernel) (by kernel_rfl) Tryz.underlying4 hW' rfl hB⟩
theorem Jd : Rows.RtTellsSaid :=
  OpenClaim.holds_of_wide 3 Tryz.f3 rfl rfl rfl rfl rfl rfl rfl ⟨rfl, rfl, rfl, rfl, rfl⟩ rfl rfl rfl rfl rfl (by kernel_rfl) Tryz.func3 (by kernel_rfl)
    (of_decide_eq_true (by kernel_rfl)) (by unfold Func.isWrapper; first | (rw [if_pos (by decide +kernel)]; kernel_rfl) | (rw [if_neg (by decide +kernel)]; exact ⟨rfl, rfl⟩))
    (fun os started H enc _ => Ou os started H enc)
theorem rtTells_proved : Rows.RtTellsCardSaid :=
  Claim7.holds_tied_plain_at .later [] [.data, .data, .data, .data, .sentinel, .sentinel, .pinned] true (true, "02044cd41f7f42a5d89fdd66e4a1ed4f42a2164c28a7918a91f7c1263bf2f6b0") true
    Jd (fun _ h => by cases h) (by kernel_rfl) (fun _ h => by cases h) rtTells_row_tie rfl ⟨rfl, rfl⟩ (by kernel_rfl) rfl
    (fun f fn hf hfn => by
      obtain rfl : f = 3 := Option.some.inj ((show Tryz.prog.funcNamed "pairlegal/pairlegallaw6.RtTells" = some 3 by kernel_rfl).symm.trans hf) |>.symm
      obtain rfl : fn = Tryz.f3 := (Option.some.inj (Tryz.func3.symm.trans hfn)).symm
      exact ⟨by kernel_rfl, fun j t ht => by
        rw [Tryz.params3] at ht
        have hm : t ∈ [9, 3] := by simpa using Array.mem_of_getElem? ht
        have hall : ([9, 3].all fun u => !Tryz.prog.wantsStandIn u) = true := by kernel_rfl
        exact (show Tryz.prog.wantsStandIn t = false by simpa using List.all_eq_true.1 hall t hm)⟩)
    (by kernel_rfl)
end Go.Proofs.YtjochhncheheaaaGreatDoor
