/-
  LinkLies: for all units and every entry the law returns true; all read behind the call as before.
-/
import Derived.Test.YtibkcfpcfbodaaaLinkTy
import Derived.Test.YtibkcfpcfbodaaaLiesA
namespace Go.Proofs.Ytibkcfpcfbodaaa
open Go.ChangeShapes Go.WideShapes Go.ChangeAt Go.RowKit Vc
set_option linter.unusedVariables false
set_option maxRecDepth 100000 in
theorem Od (os : Os) (started : os.Started) (H : Type) (enc : TypeId × Value → H) :
    ReturnsInHanded {} Try.checked os 7 .any (Rows.linkLiesSpec.pre6 enc Try.prog Try.f7 Rows.linkLiesRow.domain false) (Rows.linkLiesSpec.post enc Try.prog Try.f7 false true false false) := by
  refine returnsInHanded_of_change (C := Try.checked) Hh started (by kernel_rfl) Try.func7
    (ChangeSpec.witness6 (enc := enc) (C := Try.checked) false ⟨#[], #[.slice none 0 0, .string ⟨#[]⟩], []⟩ 8 (by kernel_rfl) (by kernel_rfl) (by kernel_rfl) (by kernel_rfl)) ?_
  intro W base args ds gs before hval0 hW _ _
  have hval : ∀ (j : Nat) t v, Try.f7.params[j]? = some t → args[j]? = some v → Value.okWide Try.prog W .any base t v := hval0
  have hW' := hW
  obtain ⟨p, q, hA0, hV, hpq, hfz, hnd⟩ := hW
  have hA : DataW.TrodAll enc Try.prog W 0 (fun _ => true) true Try.f7.params.toList args.toList ds p := hA0
  rw [Try.params7] at hA hval
  obtain ⟨v0, v1, d0, d1, p0, p1, hargs, rfl, rfl, h0, h1⟩ := trodAll_two hA
  subst hargs
  obtain ⟨rfl, rfl⟩ := trodVars_none hV
  obtain ⟨l, hl, hlen, hlu⟩ := Jc (hval 0 22 v0 rfl rfl) h0
  obtain ⟨s, rfl, hs⟩ := Ir Try.underlying9 (hval 1 9 v1 rfl rfl) h1
  refine (Il (Ke l s ⟨hlen, hlu⟩ hs) hl).mono fun e W' ⟨he, hB⟩ => ?_
  subst he
  exact ⟨_, rfl, He rfl (by kernel_rfl) (by decide +kernel) (by kernel_rfl) Try.underlying4 hW' rfl hB⟩
theorem linkLies_proved : Rows.LinkLiesSaid :=
  OpenClaim.holds_of_wide 7 Try.f7 rfl rfl rfl rfl rfl rfl rfl ⟨rfl, rfl, rfl, rfl, rfl⟩ rfl rfl rfl rfl rfl (by kernel_rfl) Try.func7 (by kernel_rfl)
    (of_decide_eq_true (by kernel_rfl)) (by unfold Func.isWrapper; first | (rw [if_pos (by decide +kernel)]; kernel_rfl) | (rw [if_neg (by decide +kernel)]; exact ⟨rfl, rfl⟩))
    (fun os started H enc _ => Od os started H enc)
end Go.Proofs.Ytibkcfpcfbodaaa
