/-
  What the readings of a law's arguments give: slices of numbers, of instructions, an instruction by value; and how a law that only reads closes its row: its arguments read behind the call as before.
-/
import Derived.Test.YtmfgomnjapegiaaRows
import Derived.Test.YtmfgomnjapegiaaVcLib
import Derived.SizedLaws
import Derived.Carry
import Derived.OpenShut
import Derived.ProofKit
import Derived.Deep.Slices
namespace Go.Proofs.Ytmfgomnjapegiaa
open Go.ChangeShapes Go.WideShapes Go.ChangeAt Go.RowKit Vc
set_option linter.unusedVariables false

section
variable {H : Type} {enc : TypeId × Value → H} {P : Program} {W : World}

theorem addr_add {a : Addr} (h : a.spot = none) (i j : Nat) : (a.add i).add j = ⟨a.block, a.off + (i + j), none⟩ := by
  obtain ⟨b, o, s⟩ := a
  subst h
  unfold Addr.add
  by_cases hi : i = 0 <;> by_cases hj : j = 0 <;> simp [hi, hj, Nat.add_assoc]

theorem open_ro {k : Kd} {t e : TypeId} {b0 : Nat} {v : Value} {d : DataW H} {p : List MemPlace} (ht : P.underlying t = some (.slice e)) (hc : P.cellsOf e = k.sz)
    (hel : ∀ (n : Nat) (cs : List Value) (y : DataW H × List MemPlace), DataW.trod enc P W 0 (fun _ => true) true n e cs = some y → ∃ x : k.ty, (k.enc x).map (At.den nilE) = cs)
    (hv : Value.okWide P W .any b0 t v) (h : DataW.Trod enc P W 0 (fun _ => true) true t v d p) : ∃ l : List k.ty, RoAt W v k l ∧ l.length ≤ 9223372036854775807 := by
  obtain ⟨ad, len, cap, rfl⟩ := okWide_slice ht hv
  obtain ⟨fuel, hf⟩ := h
  rcases DataW.trod_slice ht hf with ⟨hcs, _⟩ | ⟨a, len', cap', elems, rest, n, _, hcs, _, _, hl, hm, hlen, hE, _⟩
  · simp [Value.cells] at hcs
    obtain ⟨rfl, rfl, rfl⟩ := hcs
    exact ⟨[], ⟨none, 0, rfl, fun _ => rfl, fun ad had => by cases had⟩, by simp⟩
  · simp [Value.cells] at hcs
    obtain ⟨rfl, rfl, rfl⟩ := hcs
    have hsp : a.spot = none := by
      simp only [Value.okWide, ht, Cell.okWide, Cell.ok] at hv
      exact hv.2.2.2.1
    haveI : Inhabited k.ty := ⟨k.dflt⟩
    obtain ⟨f, hf2⟩ := Deep.choose_lt (α := k.ty) (n := len) (p := fun i x => ∀ j u, (k.enc x)[j]? = some u → W.cell? ((a.add (i * k.sz)).add j) = some (u.den nilE)) (fun i hi => by
      have h1 := hE i hi
      rw [hc] at h1
      have hi2 : i < elems.length := by omega
      rw [List.getElem?_eq_getElem hi2] at h1
      obtain ⟨cs, h2, h3⟩ := Option.bind_eq_some_iff.1 h1
      obtain ⟨x, hx⟩ := hel n cs _ h3
      obtain ⟨_, hcl, hcell⟩ := World.cells?_some h2
      refine ⟨x, fun j u hu => ?_⟩
      have hj : j < (k.enc x).length := (List.getElem?_eq_some_iff.1 hu).1
      rw [k.enc_length] at hj
      rw [hcell j hj, ← hx, List.getElem?_map, hu]; rfl)
    refine ⟨(List.range len).map f, ⟨some a, cap, by simp, fun h => (by cases h), fun ad had => ?_⟩, by simp only [List.length_map, List.length_range]; unfold maxLen at hm; omega⟩
    cases had
    refine ⟨hsp, fun i x hx j u hu => ?_⟩
    have hi : i < len := by simpa using (List.getElem?_eq_some_iff.1 hx).1
    have hfx : f i = x := by simpa [hi] using hx
    have := hf2 i hi j u (hfx ▸ hu)
    rwa [addr_add hsp] at this

theorem open_roInts {t e : TypeId} {b0 : Nat} {v : Value} {d : DataW H} {p : List MemPlace} (ht : P.underlying t = some (.slice e)) (he : P.underlying e = some (.int .i64)) (hc : P.cellsOf e = 1)
    (hv : Value.okWide P W .any b0 t v) (h : DataW.Trod enc P W 0 (fun _ => true) true t v d p) : ∃ l : List Int, RoAt W v (.int .i64) l ∧ l.length ≤ 9223372036854775807 :=
  open_ro (k := .int .i64) ht hc (fun n cs y hy => let ⟨x, h1, _, _⟩ := DataW.trod_int he hy; ⟨x, h1.symm⟩) hv h

theorem list4 {cs : List Value} (h : cs.length = 4) : ∃ a b c d, cs = [a, b, c, d] := by
  match cs, h with
  | [a, b, c, d], _ => exact ⟨a, b, c, d, rfl⟩

/-- a struct of four numbers, by its cells -/
theorem open_four {e : TypeId} {f0 f1 f2 f3 : Field} {n : Nat} {cs : List Value} {y : DataW H × List MemPlace} {sp : Nat → Bool} (hs : P.underlying e = some (.struct #[f0, f1, f2, f3])) (hc : P.cellsOf e = 4)
    (hi : P.underlying f0.type = some (.int .i64) ∧ P.underlying f1.type = some (.int .i64) ∧ P.underlying f2.type = some (.int .i64) ∧ P.underlying f3.type = some (.int .i64))
    (h1 : P.cellsOf f0.type = 1 ∧ P.cellsOf f1.type = 1 ∧ P.cellsOf f2.type = 1 ∧ P.cellsOf f3.type = 1) (ho : f0.offset = 0 ∧ f1.offset = 1 ∧ f2.offset = 2 ∧ f3.offset = 3)
    (h : DataW.trod enc P W 0 sp true n e cs = some y) : ∃ x : Ins, x.cells.map (At.den nilE) = cs := by
  obtain ⟨xs, m, _, _, hl, hxl, hf⟩ := DataW.trod_struct hs h
  rw [hc] at hl
  obtain ⟨c0, c1, c2, c3, rfl⟩ := list4 hl
  have g0 := hf 0 f0 rfl
  have g1 := hf 1 f1 rfl
  have g2 := hf 2 f2 rfl
  have g3 := hf 3 f3 rfl
  rw [h1.1, ho.1] at g0
  rw [h1.2.1, ho.2.1] at g1
  rw [h1.2.2.1, ho.2.2.1] at g2
  rw [h1.2.2.2, ho.2.2.2] at g3
  have hx4 : xs.length = 4 := hxl
  rw [List.getElem?_eq_getElem (show 0 < xs.length by omega)] at g0
  rw [List.getElem?_eq_getElem (show 1 < xs.length by omega)] at g1
  rw [List.getElem?_eq_getElem (show 2 < xs.length by omega)] at g2
  rw [List.getElem?_eq_getElem (show 3 < xs.length by omega)] at g3
  obtain ⟨n0, e0, _, _⟩ := DataW.trod_int hi.1 g0
  obtain ⟨n1, e1, _, _⟩ := DataW.trod_int hi.2.1 g1
  obtain ⟨n2, e2, _, _⟩ := DataW.trod_int hi.2.2.1 g2
  obtain ⟨n3, e3, _, _⟩ := DataW.trod_int hi.2.2.2 g3
  simp at e0 e1 e2 e3
  subst e0 e1 e2 e3
  exact ⟨⟨n0, n1, n2, n3⟩, rfl⟩

/-- an instruction by value -/
theorem open_ins {e : TypeId} {b0 : Nat} {f0 f1 f2 f3 : Field} {v : Value} {d : DataW H} {p : List MemPlace} (hs : P.underlying e = some (.struct #[f0, f1, f2, f3])) (hc : P.cellsOf e = 4)
    (hi : P.underlying f0.type = some (.int .i64) ∧ P.underlying f1.type = some (.int .i64) ∧ P.underlying f2.type = some (.int .i64) ∧ P.underlying f3.type = some (.int .i64))
    (h1 : P.cellsOf f0.type = 1 ∧ P.cellsOf f1.type = 1 ∧ P.cellsOf f2.type = 1 ∧ P.cellsOf f3.type = 1) (ho : f0.offset = 0 ∧ f1.offset = 1 ∧ f2.offset = 2 ∧ f3.offset = 3)
    (hv : Value.okWide P W .any b0 e v) (h : DataW.Trod enc P W 0 (fun _ => true) true e v d p) : ∃ x : Ins, v = (S1.agg x.cells).den nilE := by
  obtain ⟨cs, rfl, hsz⟩ := okWide_struct hs hv
  obtain ⟨fuel, hf⟩ := h
  obtain ⟨x, hx⟩ := open_four hs hc hi h1 ho hf
  refine ⟨x, ?_⟩
  simp only [S1.den, hx, Value.cells]

theorem trodAll_stays {W' : World} {sp : Nat → Bool} (hl : laidOutB P = true) : ∀ (ts : List TypeId) (vs : List Value) (ds : List (DataW H)) (ps : List MemPlace), (∀ t ∈ ts, P.readableRec t = true ∧ t < P.types.size) →
    DataW.TrodAll enc P W 0 (fun _ => true) true ts vs ds ps → Below W.heap.size W W' → (∀ x ∈ ps, x.block < W.heap.size) → (∀ x ∈ ps, sp x.block = true) → DataW.TrodAll enc P W' 0 sp true ts vs ds ps
  | [], [], [], _, _, h, _, _, _ => h
  | t :: ts, v :: vs, d :: ds, ps, hr, ⟨p, q, h1, h2, e⟩, hb, hlt, hsp => by
    subst e
    have ht := hr t (List.mem_cons_self ..)
    exact ⟨p, q, WideElems.Trod_stays hl ht.1 ht.2 h1 (fun x hx => hb.same (hlt x (List.mem_append_left _ hx))) (fun x hx => hsp x (List.mem_append_left _ hx)),
      trodAll_stays hl ts vs ds q (fun t' ht' => hr t' (List.mem_cons_of_mem _ ht')) h2 hb (fun x hx => hlt x (List.mem_append_right _ hx)) (fun x hx => hsp x (List.mem_append_right _ hx)), rfl⟩
  | [], _ :: _, _, _, _, h, _, _, _ => h.elim
  | [], [], _ :: _, _, _, h, _, _, _ => h.elim
  | _ :: _, [], _, _, _, h, _, _, _ => h.elim
  | _ :: _, _ :: _, [], _, _, h, _, _, _ => h.elim

/-- a law that only reads: its row's end -/
theorem law_post {f : Func} {s : ChangeSpec} {apart fresh handsOn again : Bool} {W' : World} {args : Array Value} {ds gs : List (DataW H)} {before : List MemPlace} {tb : TypeId} (hs : s.vars = []) (hl : laidOutB P = true)
    (hr : ∀ t ∈ f.params.toList, P.readableRec t = true ∧ t < P.types.size) (hrt : f.resultTypes = #[tb]) (hb : P.underlying tb = some .bool)
    (hW : DataW.Whole enc P f.params.toList s.vars apart W args.toList ds gs before) (hfn : s.fn H (ds ++ gs) = { results := [.lit (.bool true)], args := ds, vars := [] })
    (hB : Below W.heap.size W W') : s.post enc P f apart fresh handsOn again W args (.bool true) W' := by
  have hW' := hW
  have hlt := hW.lt
  obtain ⟨p, q, hA, hV, hpq, hz, hn⟩ := hW
  rw [hs] at hV
  obtain ⟨rfl, rfl⟩ := trodVars_none hV
  rw [List.append_nil] at hpq
  subst hpq
  have hres : ∀ (b : Nat) (sp : Nat → Bool) (hd : Bool), DataW.TrodAll enc P W' b sp hd f.resultTypes.toList ((Value.bool true).resultList f.resultTypes.size) (s.fn H (ds ++ [])).results [] := fun b sp hd => by
    rw [hfn, hrt]; exact trodAll_mk1 (shut_bool hb _)
  have hargs : ∀ sp : Nat → Bool, (∀ p ∈ before, sp p.block = true) → DataW.TrodAll enc P W' 0 sp true f.params.toList args.toList (s.fn H (ds ++ [])).args before := fun sp hsp => by
    rw [hfn]; exact trodAll_stays hl _ _ _ _ hr hA hB hlt hsp
  have hvars : ∀ sp : Nat → Bool, DataW.TrodVars enc P W' sp s.vars (s.fn H (ds ++ [])).vars [] := fun sp => by rw [hfn, hs]; rfl
  have hold : ∀ p ∈ before, (fun b => decide (b < W.heap.size)) p.block = true := fun p hp => by simpa using hlt p hp
  refine ⟨ds, [], before, [], before, [], hW', hres _ _ _, hargs _ hold, hvars _, World.keptBut_mono (fun p hp => ⟨hp, .inr (.inl hp)⟩) (hB.frame (· ∈ before)), fun _ => ?_⟩
  refine ⟨ok_one hrt rfl (okWide_bool_mk hb _), _, _, ([] ++ before) ++ [], ⟨[] ++ before, [], trodAll_append (hargs _ (fun _ _ => rfl)) (hres _ _ _), hvars _, rfl, ?_, ?_⟩, ?_⟩
  · intro b off hp
    have hp' : MemPlace.cell b off ∈ before := by simpa using hp
    rw [hB.frozen (p := ⟨b, off, none⟩) (hlt _ hp')]
    exact hz b off hp'
  · intro ha
    simpa using hn ha
  · intro p hp _
    simpa using hp
end
end Go.Proofs.Ytmfgomnjapegiaa
