/-
  The types of lines and units, as the program has them. It has no conditions of its own.
-/
import Derived.Test.YtibkcfpcfbodaaaLinkU
namespace Go.Proofs.Ytibkcfpcfbodaaa
open Go.ChangeShapes Go.WideShapes Go.ChangeAt Go.RowKit Vc
set_option linter.unusedVariables false
set_option linter.unusedSimpArgs false
theorem Hh : ownKnob Try.prog.godebug = none := by kernel_rfl
theorem Iv : LineTy Try.prog 37 43 41 :=
  ⟨Try.underlying37, by kernel_rfl, by kernel_rfl, ⟨_, _, _, Try.underlying43, ⟨Try.underlying9, rfl, Try.underlying9⟩, ⟨by kernel_rfl, by kernel_rfl⟩, by decide⟩,
    ⟨_, _, _, _, Try.underlying41, ⟨Try.underlying3, Try.underlying3, Try.underlying3, Try.underlying3⟩, ⟨by kernel_rfl, by kernel_rfl, by kernel_rfl, by kernel_rfl⟩, by decide⟩⟩
theorem Jc {H : Type} {enc : TypeId × Value → H} {W : World} {b0 : Nat} {v : Value} {d : DataW H} {p : List MemPlace} (hv : Value.okWide Try.prog W .any b0 22 v) (hd : DataW.Trod enc Try.prog W 0 (fun _ => true) true 22 v d p) :
    ∃ l, I1 W v l ∧ l.length ≤ 9223372036854775807 ∧ ∀ u ∈ l, u.2.length ≤ 9223372036854775807 :=
  K1 Iv Try.underlying22 Try.underlying39 (by kernel_rfl) ⟨Try.underlying9, rfl⟩ ⟨by kernel_rfl, by kernel_rfl⟩ (by decide) hv hd
end Go.Proofs.Ytibkcfpcfbodaaa
