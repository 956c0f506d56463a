/-
  LinkNeeds: for all units and every entry the law returns true; all read behind the call as before.
-/
import Derived.Test.YtibkcfpcfbodaaaLinkTy
import Derived.Test.YtibkcfpcfbodaaaLinkN
namespace Go.Proofs.Ytibkcfpcfbodaaa
open Go.ChangeShapes Go.WideShapes Go.ChangeAt Go.RowKit Vc
set_option linter.unusedVariables false

set_option maxRecDepth 100000 in
theorem linkNeeds_lifted (os : Os) (started : os.Started) (H : Type) (enc : TypeId × Value → H) :
    ReturnsInHanded {} Try.checked os 4 .any (Rows.linkNeedsSpec.pre6 enc Try.prog Try.f4 Rows.linkNeedsRow.domain false) (Rows.linkNeedsSpec.post enc Try.prog Try.f4 false true false false) := by
  refine returnsInHanded_of_change (C := Try.checked) link_own started (by kernel_rfl) Try.func4
    (ChangeSpec.witness6 (enc := enc) (C := Try.checked) false ⟨#[], #[.slice none 0 0, .string ⟨#[]⟩], []⟩ 8 (by kernel_rfl) (by kernel_rfl) (by kernel_rfl) (by kernel_rfl)) ?_
  intro W base args ds gs before hval0 hW _ _
  have hval : ∀ (j : Nat) t v, Try.f4.params[j]? = some t → args[j]? = some v → Value.okWide Try.prog W .any base t v := hval0
  have hW' := hW
  obtain ⟨p, q, hA0, hV, hpq, hfz, hnd⟩ := hW
  have hA : DataW.TrodAll enc Try.prog W 0 (fun _ => true) true Try.f4.params.toList args.toList ds p := hA0
  rw [Try.params4] at hA hval
  obtain ⟨v0, v1, d0, d1, p0, p1, hargs, rfl, rfl, h0, h1⟩ := trodAll_two hA
  subst hargs
  obtain ⟨rfl, rfl⟩ := trodVars_none hV
  obtain ⟨l, hl, hlen, hlu⟩ := units_open (hval 0 22 v0 rfl rfl) h0
  obtain ⟨s, rfl, hs⟩ := open_str Try.underlying9 (hval 1 9 v1 rfl rfl) h1
  refine (gc_units (LinkNeeds_gc l s ⟨hlen, hlu⟩ hs) hl).mono fun e W' ⟨he, hB⟩ => ?_
  subst he
  exact ⟨_, rfl, law_post rfl (by kernel_rfl) (by decide +kernel) (by kernel_rfl) Try.underlying4 hW' rfl hB⟩

theorem linkNeeds_proved : Rows.LinkNeedsSaid :=
  OpenClaim.holds_of_wide 4 Try.f4 rfl rfl rfl rfl rfl rfl rfl ⟨rfl, rfl, rfl, rfl, rfl⟩ rfl rfl rfl rfl rfl (by kernel_rfl) Try.func4 (by kernel_rfl)
    (of_decide_eq_true (by kernel_rfl)) (by unfold Func.isWrapper; first | (rw [if_pos (by decide +kernel)]; kernel_rfl) | (rw [if_neg (by decide +kernel)]; exact ⟨rfl, rfl⟩))
    (fun os started H enc _ => linkNeeds_lifted os started H enc)
end Go.Proofs.Ytibkcfpcfbodaaa
