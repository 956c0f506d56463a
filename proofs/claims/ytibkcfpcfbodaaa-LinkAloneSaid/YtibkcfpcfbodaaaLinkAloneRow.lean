/-
  LinkAlone: for every list of lines and every entry the law returns true; all read behind the call as before.
-/
import Derived.Test.YtibkcfpcfbodaaaRead
import Derived.Test.YtibkcfpcfbodaaaLinkR
namespace Go.Proofs.Ytibkcfpcfbodaaa
open Go.ChangeShapes Go.WideShapes Go.ChangeAt Go.RowKit Vc
set_option linter.unusedVariables false

theorem linkAlone_own : ownKnob Try.prog.godebug = none := by kernel_rfl
theorem line_ty : LineTy Try.prog 37 43 41 :=
  ⟨Try.underlying37, by kernel_rfl, by kernel_rfl, ⟨_, _, _, Try.underlying43, ⟨Try.underlying9, rfl, Try.underlying9⟩, ⟨by kernel_rfl, by kernel_rfl⟩, by decide⟩,
    ⟨_, _, _, _, Try.underlying41, ⟨Try.underlying3, Try.underlying3, Try.underlying3, Try.underlying3⟩, ⟨by kernel_rfl, by kernel_rfl, by kernel_rfl, by kernel_rfl⟩, by decide⟩⟩

set_option maxRecDepth 100000 in
theorem linkAlone_lifted (os : Os) (started : os.Started) (H : Type) (enc : TypeId × Value → H) :
    ReturnsInHanded {} Try.checked os 6 .any (Rows.linkAloneSpec.pre6 enc Try.prog Try.f6 Rows.linkAloneRow.domain false) (Rows.linkAloneSpec.post enc Try.prog Try.f6 false true false false) := by
  refine returnsInHanded_of_change (C := Try.checked) linkAlone_own started (by kernel_rfl) Try.func6
    (ChangeSpec.witness6 (enc := enc) (C := Try.checked) false ⟨#[], #[.slice none 0 0, .string ⟨#[]⟩], []⟩ 8 (by kernel_rfl) (by kernel_rfl) (by kernel_rfl) (by kernel_rfl)) ?_
  intro W base args ds gs before hval0 hW _ _
  have hval : ∀ (j : Nat) t v, Try.f6.params[j]? = some t → args[j]? = some v → Value.okWide Try.prog W .any base t v := hval0
  have hW' := hW
  obtain ⟨p, q, hA0, hV, hpq, hfz, hnd⟩ := hW
  have hA : DataW.TrodAll enc Try.prog W 0 (fun _ => true) true Try.f6.params.toList args.toList ds p := hA0
  rw [Try.params6] at hA hval
  obtain ⟨v0, v1, d0, d1, p0, p1, hargs, rfl, rfl, h0, h1⟩ := trodAll_two hA
  subst hargs
  obtain ⟨rfl, rfl⟩ := trodVars_none hV
  obtain ⟨l, hl, hlen⟩ := open_lines line_ty (hval 0 37 v0 rfl rfl) h0
  obtain ⟨s, rfl, hs⟩ := open_str Try.underlying9 (hval 1 9 v1 rfl rfl) h1
  refine (LinkAlone_any l s hlen hs W [v0, _] ⟨hl, rfl, trivial⟩).mono fun e W' ⟨he, hB⟩ => ?_
  subst he
  exact ⟨_, rfl, law_post rfl (by kernel_rfl) (by decide +kernel) (by kernel_rfl) Try.underlying4 hW' rfl hB⟩

theorem linkAlone_proved : Rows.LinkAloneSaid :=
  OpenClaim.holds_of_wide 6 Try.f6 rfl rfl rfl rfl rfl rfl rfl ⟨rfl, rfl, rfl, rfl, rfl⟩ rfl rfl rfl rfl rfl (by kernel_rfl) Try.func6 (by kernel_rfl)
    (of_decide_eq_true (by kernel_rfl)) (by unfold Func.isWrapper; first | (rw [if_pos (by decide +kernel)]; kernel_rfl) | (rw [if_neg (by decide +kernel)]; exact ⟨rfl, rfl⟩))
    (fun os started H enc _ => linkAlone_lifted os started H enc)
end Go.Proofs.Ytibkcfpcfbodaaa
