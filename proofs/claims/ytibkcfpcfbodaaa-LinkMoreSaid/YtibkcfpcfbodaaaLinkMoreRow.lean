/-
  LinkMore: for all units, every entry and every unit more the law returns true; all read behind the call as before.
-/
import Derived.Test.YtibkcfpcfbodaaaLinkTy
import Derived.Test.YtibkcfpcfbodaaaLinkM
namespace Go.Proofs.Ytibkcfpcfbodaaa
open Go.ChangeShapes Go.WideShapes Go.ChangeAt Go.RowKit Vc
set_option linter.unusedVariables false

theorem gc_units2 {P : Program} {f : Nat} {W : World} {v v1 : Value} {l : Units} {s nm : List UInt8} {ls : List Ln} (h : GC P f [.a (.ref 0), .a (.str s), .agg [.str nm, .ref 1]] [(1, .ro .line ls), (0, .rou l)] 2 [] (.one (.a (.bool true))) [] 2) (hv : RouAt W v l) (hv1 : RoAt W v1 .line ls) :
    Calls P f #[v, (S1.a (.str s)).den nilE, .agg #[.string ⟨nm.toArray⟩, v1]] W fun e W' => e = .returned (.bool true) ∧ Below W.heap.size W W' := by
  have hone : v.oneCell' = true := by obtain ⟨a, cap, ⟨h1, _⟩, _⟩ := hv; rw [show v = _ from h1]; rfl
  have hm := (Mem.none P W [] 0 0 []).named hone (r := .rou l) trivial rfl (fun O' hO => by
    have hO' : O' = [] := List.eq_nil_iff_forall_not_mem.2 fun b hb => by have := hO b hb; cases this
    subst hO'
    exact hv)
  have hm2 := hm.addRo hv1 (fun a n cp _ _ hb => by cases hb)
  have e0 : setE (setE (fun _ => nilP) 0 v) (0 + 1) v1 0 = v := rfl
  have e1 : setE (setE (fun _ => nilP) 0 v) (0 + 1) v1 1 = v1 := rfl
  have := h.run _ W hm2
  simp only [List.map_cons, List.map_nil, S1.den, At.den, e0, e1] at this
  refine this.mono fun e W' hl => ?_
  obtain ⟨ρ', _, rfl, hm'⟩ := hl
  exact ⟨rfl, hm'.toBelow⟩

theorem open_unit {H : Type} {enc : TypeId × Value → H} {W : World} {b0 : Nat} {v : Value} {d : DataW H} {p : List MemPlace} (hv : Value.okWide Try.prog W .any b0 39 v) (hd : DataW.Trod enc Try.prog W 0 (fun _ => true) true 39 v d p) :
    ∃ (nm : List UInt8) (ls : List Ln) (v1 : Value), v = .agg #[.string ⟨nm.toArray⟩, v1] ∧ RoAt W v1 .line ls ∧ ls.length ≤ 9223372036854775807 := by
  obtain ⟨cs, rfl, hsz⟩ := okWide_struct Try.underlying39 hv
  obtain ⟨fuel, hf⟩ := hd
  obtain ⟨x, w, e, g1, g2⟩ := open_unitCells lines_ty Try.underlying39 (by kernel_rfl) ⟨Try.underlying9, rfl⟩ ⟨by kernel_rfl, by kernel_rfl⟩ (by decide) hf
  refine ⟨x.1, x.2, w, ?_, g1, g2⟩
  simp only [Value.cells] at e
  rw [← Array.toArray_toList (xs := cs), e]

set_option maxRecDepth 100000 in

theorem linkMore_lifted (os : Os) (started : os.Started) (H : Type) (enc : TypeId × Value → H) :
    ReturnsInHanded {} Try.checked os 5 .any (Rows.linkMoreSpec.pre6 enc Try.prog Try.f5 Rows.linkMoreRow.domain false) (Rows.linkMoreSpec.post enc Try.prog Try.f5 false true false false) := by
  refine returnsInHanded_of_change (C := Try.checked) link_own started (by kernel_rfl) Try.func5
    (ChangeSpec.witness6 (enc := enc) (C := Try.checked) false ⟨#[], #[.slice none 0 0, .string ⟨#[]⟩, .agg #[.string ⟨#[]⟩, .slice none 0 0]], []⟩ 8 (by kernel_rfl) (by kernel_rfl) (by kernel_rfl) (by kernel_rfl)) ?_
  intro W base args ds gs before hval0 hW _ _
  have hval : ∀ (j : Nat) t v, Try.f5.params[j]? = some t → args[j]? = some v → Value.okWide Try.prog W .any base t v := hval0
  have hW' := hW
  obtain ⟨p, q, hA0, hV, hpq, hfz, hnd⟩ := hW
  have hA : DataW.TrodAll enc Try.prog W 0 (fun _ => true) true Try.f5.params.toList args.toList ds p := hA0
  rw [Try.params5] at hA hval
  obtain ⟨v0, v1, v2, d0, d1, d2, p0, p1, p2, hargs, rfl, rfl, h0, h1, h2⟩ := trodAll_three hA
  subst hargs
  obtain ⟨rfl, rfl⟩ := trodVars_none hV
  obtain ⟨l, hl, hlen, hlu⟩ := units_open (hval 0 22 v0 rfl rfl) h0
  obtain ⟨s, rfl, hs⟩ := open_str Try.underlying9 (hval 1 9 v1 rfl rfl) h1
  obtain ⟨nm, ls, w1, rfl, hls, hlm⟩ := open_unit (hval 2 39 v2 rfl rfl) h2
  refine (gc_units2 (LinkMore_gc l s nm ls ⟨hlen, hlu⟩ hs hlm) hl hls).mono fun e W' ⟨he, hB⟩ => ?_
  subst he
  exact ⟨_, rfl, law_post rfl (by kernel_rfl) (by decide +kernel) (by kernel_rfl) Try.underlying4 hW' rfl hB⟩

theorem linkMore_proved : Rows.LinkMoreSaid :=
  OpenClaim.holds_of_wide 5 Try.f5 rfl rfl rfl rfl rfl rfl rfl ⟨rfl, rfl, rfl, rfl, rfl⟩ rfl rfl rfl rfl rfl (by kernel_rfl) Try.func5 (by kernel_rfl)
    (of_decide_eq_true (by kernel_rfl)) (by unfold Func.isWrapper; first | (rw [if_pos (by decide +kernel)]; kernel_rfl) | (rw [if_neg (by decide +kernel)]; exact ⟨rfl, rfl⟩))
    (fun os started H enc _ => linkMore_lifted os started H enc)
end Go.Proofs.Ytibkcfpcfbodaaa
