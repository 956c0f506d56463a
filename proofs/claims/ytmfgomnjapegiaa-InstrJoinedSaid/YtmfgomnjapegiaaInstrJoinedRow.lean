/-
  InstrJoined: for every two lists of instructions the law returns true; both read behind the call as before.
-/
import Derived.Test.YtmfgomnjapegiaaRead
import Derived.Test.YtmfgomnjapegiaaLawB
namespace Go.Proofs.Ytmfgomnjapegiaa
open Go.ChangeShapes Go.WideShapes Go.ChangeAt Go.RowKit Vc
set_option linter.unusedVariables false

theorem instrJoined_own : ownKnob Try.prog.godebug = none := by kernel_rfl

set_option maxRecDepth 100000 in
theorem instrJoined_lifted (os : Os) (started : os.Started) (H : Type) (enc : TypeId × Value → H) :
    ReturnsInHanded {} Try.checked os 3 .any (Rows.instrJoinedSpec.pre6 enc Try.prog Try.f3 Rows.instrJoinedRow.domain false) (Rows.instrJoinedSpec.post enc Try.prog Try.f3 false true false false) := by
  refine returnsInHanded_of_change (C := Try.checked) instrJoined_own started (by kernel_rfl) Try.func3
    (ChangeSpec.witness6 (enc := enc) (C := Try.checked) false ⟨#[], #[.slice none 0 0, .slice none 0 0], []⟩ 8 (by kernel_rfl) (by kernel_rfl) (by kernel_rfl) (by kernel_rfl)) ?_
  intro W base args ds gs before hval0 hW _ _
  have hval : ∀ (j : Nat) t v, Try.f3.params[j]? = some t → args[j]? = some v → Value.okWide Try.prog W .any base t v := hval0
  have hW' := hW
  obtain ⟨p, q, hA0, hV, hpq, hfz, hnd⟩ := hW
  have hA : DataW.TrodAll enc Try.prog W 0 (fun _ => true) true Try.f3.params.toList args.toList ds p := hA0
  rw [Try.params3] at hA hval
  obtain ⟨v0, v1, d0, d1, p0, p1, rfl, rfl, rfl, h0, h1⟩ := trodAll_two hA
  obtain ⟨rfl, rfl⟩ := trodVars_none hV
  obtain ⟨l, hl, _⟩ := open_ro (k := .ins) Try.underlying22 (by kernel_rfl) (fun n cs y hy => open_four Try.underlying33 (by kernel_rfl) ⟨Try.underlying3, Try.underlying3, Try.underlying3, Try.underlying3⟩ ⟨by kernel_rfl, by kernel_rfl, by kernel_rfl, by kernel_rfl⟩ (by decide) hy) (hval 0 22 v0 rfl rfl) h0
  obtain ⟨m, hm, _⟩ := open_ro (k := .ins) Try.underlying22 (by kernel_rfl) (fun n cs y hy => open_four Try.underlying33 (by kernel_rfl) ⟨Try.underlying3, Try.underlying3, Try.underlying3, Try.underlying3⟩ ⟨by kernel_rfl, by kernel_rfl, by kernel_rfl, by kernel_rfl⟩ (by decide) hy) (hval 1 22 v1 rfl rfl) h1
  refine (InstrJoined_any l m W [v0, v1] ⟨hl, hm, trivial⟩).mono fun e W' ⟨he, hB⟩ => ?_
  subst he
  exact ⟨_, rfl, law_post rfl (by kernel_rfl) (by decide +kernel) (by kernel_rfl) Try.underlying4 hW' rfl hB⟩

theorem instrJoined_proved : Rows.InstrJoinedSaid :=
  OpenClaim.holds_of_wide 3 Try.f3 rfl rfl rfl rfl rfl rfl rfl ⟨rfl, rfl, rfl, rfl, rfl⟩ rfl rfl rfl rfl rfl (by kernel_rfl) Try.func3 (by kernel_rfl)
    (of_decide_eq_true (by kernel_rfl)) (by unfold Func.isWrapper; first | (rw [if_pos (by decide +kernel)]; kernel_rfl) | (rw [if_neg (by decide +kernel)]; exact ⟨rfl, rfl⟩))
    (fun os started H enc _ => instrJoined_lifted os started H enc)
end Go.Proofs.Ytmfgomnjapegiaa
