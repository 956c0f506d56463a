/-
  What the readings of a law's arguments give: slices of numbers, of instructions, an instruction by value; and how a law that only reads closes its row: its arguments read behind the call as before.
-/
import Derived.Test.YtjochhncheheaaaGreatDoorRows
import Derived.Test.YtjochhncheheaaaGreatDoorVcLib
import Derived.SizedLaws
import Derived.Carry
import Derived.OpenShut
import Derived.ProofKit
import Derived.Deep.Slices
namespace Go.Proofs.YtjochhncheheaaaGreatDoor
open Go.ChangeShapes Go.WideShapes Go.ChangeAt Go.RowKit Vc
set_option linter.unusedVariables false
set_option linter.unusedSimpArgs false
section
variable {H : Type} {enc : TypeId × Value → H} {P : Program} {W : World}
theorem Da {a : Addr} (h : a.spot = none) (i j : Nat) : (a.add i).add j = ⟨a.block, a.off + (i + j), none⟩ := by
  obtain ⟨b, o, s⟩ := a
  subst h
  unfold Addr.add
  by_cases hi : i = 0 <;> by_cases hj : j = 0 <;> simp [hi, hj, Nat.add_assoc]
theorem Kc {a : Addr} {v : Value} (h : W.cell? a = some v) : a.spot = none := by
  unfold World.cell? at h
  split at h
  · split at h
    · cases h
    · rename_i hs; simpa using hs
  · cases h
theorem Ox {α : Type} [Inhabited α] {e : TypeId} {sz n len : Nat} {a : Addr} {elems : List (DataW H × List MemPlace)} {Q : α → List Value → Prop} (hsz : 0 < sz) (hc : P.cellsOf e = sz) (hlen : elems.length = len)
    (hE : ∀ i, i < len → (W.cells? 0 (a.add (i * P.cellsOf e)) (P.cellsOf e)).bind (DataW.trod enc P W 0 (fun _ => true) true n e) = elems[i]?)
    (hel : ∀ (cs : List Value) (y : DataW H × List MemPlace), DataW.trod enc P W 0 (fun _ => true) true n e cs = some y → ∃ x : α, Q x cs) :
    (0 < len → a.spot = none) ∧ ∃ l : List α, l.length = len ∧ ∀ (i : Nat) (x : α), l[i]? = some x → ∃ cs, Q x cs ∧ cs.length = sz ∧ ∀ (j : Nat) (u : Value), cs[j]? = some u → W.cell? ⟨a.block, a.off + (i * sz + j), none⟩ = some u := by
  have h1 : ∀ i, i < len → ∃ x cs, Q x cs ∧ cs.length = sz ∧ ∀ j, j < sz → W.cell? ((a.add (i * sz)).add j) = cs[j]? := fun i hi => by
    have h1 := hE i hi
    rw [hc] at h1
    rw [List.getElem?_eq_getElem (show i < elems.length by omega)] at h1
    obtain ⟨cs, h2, h3⟩ := Option.bind_eq_some_iff.1 h1
    obtain ⟨x, hx⟩ := hel cs _ h3
    obtain ⟨_, hcl, hcell⟩ := World.cells?_some h2
    exact ⟨x, cs, hx, hcl, hcell⟩
  have hsp : 0 < len → a.spot = none := fun h0 => by
    obtain ⟨x, cs, _, hcl, hcell⟩ := h1 0 h0
    have := hcell 0 hsz
    rw [List.getElem?_eq_getElem (show 0 < cs.length by omega)] at this
    have h2 := Kc this
    simpa [Addr.add] using h2
  refine ⟨hsp, ?_⟩
  obtain ⟨f, hf⟩ := Deep.choose_lt (α := α) (n := len) (p := fun i x => ∃ cs, Q x cs ∧ cs.length = sz ∧ ∀ (j : Nat) (u : Value), cs[j]? = some u → W.cell? ⟨a.block, a.off + (i * sz + j), none⟩ = some u) (fun i hi => by
    obtain ⟨x, cs, hq, hcl, hcell⟩ := h1 i hi
    refine ⟨x, cs, hq, hcl, fun j u hu => ?_⟩
    have hj : j < cs.length := (List.getElem?_eq_some_iff.1 hu).1
    have := hcell j (by omega)
    rwa [Da (hsp (by omega)), hu] at this)
  refine ⟨(List.range len).map f, by simp, fun i x hx => ?_⟩
  have hi : i < len := by simpa using (List.getElem?_eq_some_iff.1 hx).1
  have hfx : f i = x := by simpa [hi] using hx
  exact hfx ▸ hf i hi
theorem Gl {k : Kd} {t e : TypeId} {v : Value} {fuel : Nat} {y : DataW H × List MemPlace} (ht : P.underlying t = some (.slice e)) (hc : P.cellsOf e = k.sz)
    (hel : ∀ (n : Nat) (cs : List Value) (y : DataW H × List MemPlace), DataW.trod enc P W 0 (fun _ => true) true n e cs = some y → ∃ x : k.ty, (k.enc x).map (At.den Xm) = cs)
    (h : DataW.trod enc P W 0 (fun _ => true) true fuel t [v] = some y) : ∃ l : List k.ty, Tm W v k l ∧ l.length ≤ 9223372036854775807 := by
  rcases DataW.trod_slice ht h with ⟨hcs, _⟩ | ⟨a, len, cap, elems, rest, n, _, hcs, _, _, hl, hm, hlen, hE, _⟩
  · obtain rfl : v = .slice none 0 0 := by simpa using hcs
    exact ⟨[], ⟨none, 0, ⟨rfl, Nat.le_refl _⟩, fun _ => rfl, fun ad had => by cases had⟩, by simp⟩
  · obtain rfl : v = .slice (some a) len cap := by simpa using hcs
    haveI : Inhabited k.ty := ⟨k.dflt⟩
    obtain ⟨hsp, l, rfl, hcell⟩ := Ox (α := k.ty) (Q := fun x cs => (k.enc x).map (At.den Xm) = cs) k.sz_pos hc hlen hE (fun cs y hy => hel n cs y hy)
    refine ⟨l, ⟨some a, cap, ⟨rfl, hl⟩, (fun h => by cases h), fun ad had => ?_⟩, by unfold maxLen at hm; omega⟩
    cases had
    refine ⟨fun hne => hsp (List.length_pos_iff.2 hne), fun i x hx j u hu => ?_⟩
    obtain ⟨cs, h1, h2, h3⟩ := hcell i x hx
    refine h3 j (u.den Xm) ?_
    rw [← h1, List.getElem?_map, hu]; rfl
theorem H8 {k : Kd} {t e : TypeId} {b0 : Nat} {v : Value} {d : DataW H} {p : List MemPlace} (ht : P.underlying t = some (.slice e)) (hc : P.cellsOf e = k.sz)
    (hel : ∀ (n : Nat) (cs : List Value) (y : DataW H × List MemPlace), DataW.trod enc P W 0 (fun _ => true) true n e cs = some y → ∃ x : k.ty, (k.enc x).map (At.den Xm) = cs)
    (hv : Value.okWide P W .any b0 t v) (h : DataW.Trod enc P W 0 (fun _ => true) true t v d p) : ∃ l : List k.ty, Tm W v k l ∧ l.length ≤ 9223372036854775807 := by
  obtain ⟨ad, len, cap, rfl⟩ := okWide_slice ht hv
  obtain ⟨fuel, hf⟩ := h
  exact Gl ht hc hel hf
theorem open_roInts {t e : TypeId} {b0 : Nat} {v : Value} {d : DataW H} {p : List MemPlace} (ht : P.underlying t = some (.slice e)) (he : P.underlying e = some (.int .i64)) (hc : P.cellsOf e = 1)
    (hv : Value.okWide P W .any b0 t v) (h : DataW.Trod enc P W 0 (fun _ => true) true t v d p) : ∃ l : List Int, Tm W v (.int .i64) l ∧ l.length ≤ 9223372036854775807 :=
  H8 (k := .int .i64) ht hc (fun n cs y hy => let ⟨x, h1, _, _⟩ := DataW.trod_int he hy; ⟨x, h1.symm⟩) hv h
theorem list4 {cs : List Value} (h : cs.length = 4) : ∃ a b c d, cs = [a, b, c, d] := by
  match cs, h with
  | [a, b, c, d], _ => exact ⟨a, b, c, d, rfl⟩
theorem M6 {e : TypeId} {f0 f1 f2 f3 : Field} {n : Nat} {cs : List Value} {y : DataW H × List MemPlace} {sp : Nat → Bool} (hs : P.underlying e = some (.struct #[f0, f1, f2, f3])) (hc : P.cellsOf e = 4)
    (hi : P.underlying f0.type = some (.int .i64) ∧ P.underlying f1.type = some (.int .i64) ∧ P.underlying f2.type = some (.int .i64) ∧ P.underlying f3.type = some (.int .i64))
    (h1 : P.cellsOf f0.type = 1 ∧ P.cellsOf f1.type = 1 ∧ P.cellsOf f2.type = 1 ∧ P.cellsOf f3.type = 1) (ho : f0.offset = 0 ∧ f1.offset = 1 ∧ f2.offset = 2 ∧ f3.offset = 3)
    (h : DataW.trod enc P W 0 sp true n e cs = some y) : ∃ x : Ins, x.cells.map (At.den Xm) = cs := by
  obtain ⟨xs, m, _, _, hl, hxl, hf⟩ := DataW.trod_struct hs h
  rw [hc] at hl
  obtain ⟨c0, c1, c2, c3, rfl⟩ := list4 hl
  have g0 := hf 0 f0 rfl
  have g1 := hf 1 f1 rfl
  have g2 := hf 2 f2 rfl
  have g3 := hf 3 f3 rfl
  rw [h1.1, ho.1] at g0
  rw [h1.2.1, ho.2.1] at g1
  rw [h1.2.2.1, ho.2.2.1] at g2
  rw [h1.2.2.2, ho.2.2.2] at g3
  have hx4 : xs.length = 4 := hxl
  rw [List.getElem?_eq_getElem (show 0 < xs.length by omega)] at g0
  rw [List.getElem?_eq_getElem (show 1 < xs.length by omega)] at g1
  rw [List.getElem?_eq_getElem (show 2 < xs.length by omega)] at g2
  rw [List.getElem?_eq_getElem (show 3 < xs.length by omega)] at g3
  obtain ⟨n0, e0, _, _⟩ := DataW.trod_int hi.1 g0
  obtain ⟨n1, e1, _, _⟩ := DataW.trod_int hi.2.1 g1
  obtain ⟨n2, e2, _, _⟩ := DataW.trod_int hi.2.2.1 g2
  obtain ⟨n3, e3, _, _⟩ := DataW.trod_int hi.2.2.2 g3
  simp at e0 e1 e2 e3
  subst e0 e1 e2 e3
  exact ⟨⟨n0, n1, n2, n3⟩, rfl⟩
theorem open_ins {e : TypeId} {b0 : Nat} {f0 f1 f2 f3 : Field} {v : Value} {d : DataW H} {p : List MemPlace} (hs : P.underlying e = some (.struct #[f0, f1, f2, f3])) (hc : P.cellsOf e = 4)
    (hi : P.underlying f0.type = some (.int .i64) ∧ P.underlying f1.type = some (.int .i64) ∧ P.underlying f2.type = some (.int .i64) ∧ P.underlying f3.type = some (.int .i64))
    (h1 : P.cellsOf f0.type = 1 ∧ P.cellsOf f1.type = 1 ∧ P.cellsOf f2.type = 1 ∧ P.cellsOf f3.type = 1) (ho : f0.offset = 0 ∧ f1.offset = 1 ∧ f2.offset = 2 ∧ f3.offset = 3)
    (hv : Value.okWide P W .any b0 e v) (h : DataW.Trod enc P W 0 (fun _ => true) true e v d p) : ∃ x : Ins, v = (S1.agg x.cells).den Xm := by
  obtain ⟨cs, rfl, hsz⟩ := okWide_struct hs hv
  obtain ⟨fuel, hf⟩ := h
  obtain ⟨x, hx⟩ := M6 hs hc hi h1 ho hf
  refine ⟨x, ?_⟩
  simp only [S1.den, hx, Value.cells]
theorem list2 {cs : List Value} (h : cs.length = 2) : ∃ a b, cs = [a, b] := by
  match cs, h with
  | [a, b], _ => exact ⟨a, b, rfl⟩
theorem list6 {cs : List Value} (h : cs.length = 6) : ∃ a b c d e f, cs = [a, b, c, d, e, f] := by
  match cs, h with
  | [a, b, c, d, e, f], _ => exact ⟨a, b, c, d, e, f, rfl⟩
theorem str_toArray (s : ByteArray) : (⟨s.data.toList.toArray⟩ : ByteArray) = s := by simp
theorem Nx {e ei : TypeId} {f0 f1 f2 : Field} {n : Nat} {cs : List Value} {y : DataW H × List MemPlace} (hs : P.underlying e = some (.struct #[f0, f1, f2])) (hc : P.cellsOf e = 6)
    (hu : P.underlying f0.type = some .string ∧ f1.type = ei ∧ P.underlying f2.type = some .string) (h1 : P.cellsOf f0.type = 1 ∧ P.cellsOf ei = 4 ∧ P.cellsOf f2.type = 1) (ho : f0.offset = 0 ∧ f1.offset = 1 ∧ f2.offset = 5)
    (hi : ∀ (n : Nat) (cs : List Value) (y : DataW H × List MemPlace), DataW.trod enc P W 0 (fun _ => true) true n ei cs = some y → ∃ x : Ins, x.cells.map (At.den Xm) = cs)
    (h : DataW.trod enc P W 0 (fun _ => true) true n e cs = some y) : ∃ x : Ln, x.cells.map (At.den Xm) = cs := by
  obtain ⟨xs, m, _, _, hl, hxl, hf⟩ := DataW.trod_struct hs h
  rw [hc] at hl
  obtain ⟨c0, c1, c2, c3, c4, c5, rfl⟩ := list6 hl
  have g0 := hf 0 f0 rfl
  have g1 := hf 1 f1 rfl
  have g2 := hf 2 f2 rfl
  rw [h1.1, ho.1] at g0
  rw [hu.2.1, h1.2.1, ho.2.1] at g1
  rw [h1.2.2, ho.2.2] at g2
  have hx3 : xs.length = 3 := hxl
  rw [List.getElem?_eq_getElem (show 0 < xs.length by omega)] at g0
  rw [List.getElem?_eq_getElem (show 1 < xs.length by omega)] at g1
  rw [List.getElem?_eq_getElem (show 2 < xs.length by omega)] at g2
  obtain ⟨s0, e0, _, _⟩ := DataW.trod_string hu.1 g0
  obtain ⟨x, e1⟩ := hi _ _ _ g1
  obtain ⟨s2, e2, _, _⟩ := DataW.trod_string hu.2.2 g2
  simp at e0 e2
  simp only [Ins.cells, List.map_cons, List.map_nil, At.den, List.drop_succ_cons, List.drop_zero, List.take_succ_cons, List.take_zero, List.cons.injEq, and_true] at e1
  obtain ⟨rfl, rfl, rfl, rfl⟩ := e1
  subst e0 e2
  exact ⟨⟨s0.data.toList, x, s2.data.toList⟩, by simp [Ln.cells, At.den]⟩
structure LineTy (P : Program) (tl e ei : TypeId) : Prop where
  row : P.underlying tl = some (.slice e)
  sz : P.cellsOf e = 6
  isz : P.cellsOf ei = 4
  line : ∃ f0 f1 f2 : Field, P.underlying e = some (.struct #[f0, f1, f2]) ∧ (P.underlying f0.type = some .string ∧ f1.type = ei ∧ P.underlying f2.type = some .string) ∧ (P.cellsOf f0.type = 1 ∧ P.cellsOf f2.type = 1) ∧ (f0.offset = 0 ∧ f1.offset = 1 ∧ f2.offset = 5)
  ins : ∃ f0 f1 f2 f3 : Field, P.underlying ei = some (.struct #[f0, f1, f2, f3]) ∧ (P.underlying f0.type = some (.int .i64) ∧ P.underlying f1.type = some (.int .i64) ∧ P.underlying f2.type = some (.int .i64) ∧ P.underlying f3.type = some (.int .i64)) ∧
    (P.cellsOf f0.type = 1 ∧ P.cellsOf f1.type = 1 ∧ P.cellsOf f2.type = 1 ∧ P.cellsOf f3.type = 1) ∧ (f0.offset = 0 ∧ f1.offset = 1 ∧ f2.offset = 2 ∧ f3.offset = 3)
theorem LineTy.cells {tl e ei : TypeId} (h : LineTy P tl e ei) {n : Nat} {cs : List Value} {y : DataW H × List MemPlace} (hy : DataW.trod enc P W 0 (fun _ => true) true n e cs = some y) : ∃ x : Kd.ty .line, (Kd.enc .line x).map (At.den Xm) = cs := by
  obtain ⟨f0, f1, f2, h1, h2, h3, h4⟩ := h.line
  obtain ⟨g0, g1, g2, g3, k1, k2, k3, k4⟩ := h.ins
  exact Nx h1 h.sz h2 ⟨h3.1, h.isz, h3.2⟩ h4 (fun n cs y hy => M6 k1 h.isz k2 k3 k4 hy) hy
theorem open_lines {tl e ei : TypeId} (h : LineTy P tl e ei) {b0 : Nat} {v : Value} {d : DataW H} {p : List MemPlace} (hv : Value.okWide P W .any b0 tl v) (hd : DataW.Trod enc P W 0 (fun _ => true) true tl v d p) :
    ∃ l : List Ln, Tm W v .line l ∧ l.length ≤ 9223372036854775807 :=
  H8 (k := .line) h.row h.sz (fun n cs y hy => h.cells hy) hv hd
def UntIs (W : World) (x : List UInt8 × List Ln) (cs : List Value) : Prop := ∃ v, cs = [.string ⟨x.1.toArray⟩, v] ∧ Tm W v .line x.2 ∧ x.2.length ≤ 9223372036854775807
theorem Nv {tl e ei tu : TypeId} (h : LineTy P tl e ei) {f0 f1 : Field} {n : Nat} {cs : List Value} {y : DataW H × List MemPlace} (hs : P.underlying tu = some (.struct #[f0, f1])) (hc : P.cellsOf tu = 2)
    (hu : P.underlying f0.type = some .string ∧ f1.type = tl) (h1 : P.cellsOf f0.type = 1 ∧ P.cellsOf tl = 1) (ho : f0.offset = 0 ∧ f1.offset = 1)
    (hy : DataW.trod enc P W 0 (fun _ => true) true n tu cs = some y) : ∃ x, UntIs W x cs := by
  obtain ⟨y0, y1, m, _, hl, g0, g1⟩ := trod_struct2 hs hy
  rw [hc] at hl
  obtain ⟨c0, c1, rfl⟩ := list2 hl
  rw [h1.1, ho.1] at g0
  rw [hu.2, h1.2, ho.2] at g1
  obtain ⟨s0, e0, _, _⟩ := DataW.trod_string hu.1 g0
  simp at e0
  subst e0
  obtain ⟨l, h2, h3⟩ := Gl (k := .line) h.row h.sz (fun n cs y hy => h.cells hy) g1
  exact ⟨(s0.data.toList, l), c1, by simp, h2, h3⟩
def RouAt (W : World) (v : Value) (l : List (List UInt8 × List Ln)) : Prop := (Res.rou l).holds (fun _ => v) [] 0 W
theorem F8 {v : Value} {l : List Ln} (h : Tm W v .line l) : ∃ a cap, (v = .slice a l.length cap ∧ l.length ≤ cap) ∧ W4 W [] 0 a l := by
  obtain ⟨a, cap, h1, h2, h3⟩ := h
  exact ⟨a, cap, h1, h2, fun ad had => ⟨(h3 ad had).1, fun j y hy q u hu => ⟨(h3 ad had).2 j y hy q u hu, by simp, Nat.zero_le _⟩⟩⟩
theorem open_units {ts tl e ei tu : TypeId} (h : LineTy P tl e ei) {f0 f1 : Field} {b0 : Nat} {v : Value} {d : DataW H} {p : List MemPlace} (ht : P.underlying ts = some (.slice tu)) (hs : P.underlying tu = some (.struct #[f0, f1])) (hc : P.cellsOf tu = 2)
    (hu : P.underlying f0.type = some .string ∧ f1.type = tl) (h1 : P.cellsOf f0.type = 1 ∧ P.cellsOf tl = 1) (ho : f0.offset = 0 ∧ f1.offset = 1)
    (hv : Value.okWide P W .any b0 ts v) (hd : DataW.Trod enc P W 0 (fun _ => true) true ts v d p) : ∃ l, RouAt W v l ∧ l.length ≤ 9223372036854775807 ∧ ∀ u ∈ l, u.2.length ≤ 9223372036854775807 := by
  obtain ⟨ad, len, cap, rfl⟩ := okWide_slice ht hv
  obtain ⟨fuel, hf⟩ := hd
  rcases DataW.trod_slice ht hf with ⟨hcs, _⟩ | ⟨a, len', cap', elems, rest, n, _, hcs, _, _, hl, hm, hlen, hE, _⟩
  · simp [Value.cells] at hcs
    obtain ⟨rfl, rfl, rfl⟩ := hcs
    exact ⟨[], ⟨none, 0, ⟨rfl, Nat.le_refl _⟩, fun _ => rfl, fun ad had => by cases had⟩, by simp, by simp⟩
  · simp [Value.cells] at hcs
    obtain ⟨rfl, rfl, rfl⟩ := hcs
    obtain ⟨hsp, l, rfl, hcell⟩ := Ox (α := List UInt8 × List Ln) (Q := UntIs W) (by omega) hc hlen hE (fun cs y hy => Nv h hs hc hu h1 ho hy)
    refine ⟨l, ⟨some a, cap, ⟨rfl, hl⟩, (fun h => by cases h), fun ad had => ?_⟩, by unfold maxLen at hm; omega, fun u hu => ?_⟩
    · cases had
      refine ⟨fun hne => hsp (List.length_pos_iff.2 hne), fun i x hx => ?_⟩
      obtain ⟨cs, ⟨w, rfl, g1, g2⟩, _, g3⟩ := hcell i x hx
      obtain ⟨a1, cap1, ⟨rfl, k2⟩, k3⟩ := F8 g1
      exact ⟨⟨g3 0 _ rfl, by simp⟩, a1, cap1, ⟨⟨g3 1 _ rfl, by simp⟩, k2⟩, k3⟩
    · obtain ⟨i, hi⟩ := List.getElem?_of_mem hu
      obtain ⟨cs, ⟨w, rfl, g1, g2⟩, _⟩ := hcell i u hi
      exact g2
theorem Ex {t : TypeId} {b0 : Nat} {v : Value} {d : DataW H} {p : List MemPlace} (ht : P.underlying t = some .string) (hv : Value.okWide P W .any b0 t v) (h : DataW.Trod enc P W 0 (fun _ => true) true t v d p) :
    ∃ s : List UInt8, v = (S1.a (.str s)).den Xm ∧ s.length ≤ 9223372036854775807 := by
  obtain ⟨fuel, hf⟩ := h
  obtain ⟨s, h1, _, h2⟩ := DataW.trod_string ht hf
  have hv2 : v = .string s := by
    simp only [Value.okWide, ht, Cell.okWide] at hv
    cases v <;> simp_all [Cell.ok, Value.cells]
  subst hv2
  refine ⟨s.data.toList, by simp [S1.den, At.den], ?_⟩
  have : s.data.toList.length = s.size := by simp
  unfold maxLen at h2; omega
theorem R8 {W' : World} {sp : Nat → Bool} (hl : laidOutB P = true) : ∀ (ts : List TypeId) (vs : List Value) (ds : List (DataW H)) (ps : List MemPlace), (∀ t ∈ ts, P.readableRec t = true ∧ t < P.types.size) →
    DataW.TrodAll enc P W 0 (fun _ => true) true ts vs ds ps → Below W.heap.size W W' → (∀ x ∈ ps, x.block < W.heap.size) → (∀ x ∈ ps, sp x.block = true) → DataW.TrodAll enc P W' 0 sp true ts vs ds ps
  | [], [], [], _, _, h, _, _, _ => h
  | t :: ts, v :: vs, d :: ds, ps, hr, ⟨p, q, h1, h2, e⟩, hb, hlt, hsp => by
    subst e
    have ht := hr t (List.mem_cons_self ..)
    exact ⟨p, q, WideElems.Trod_stays hl ht.1 ht.2 h1 (fun x hx => hb.same (hlt x (List.mem_append_left _ hx))) (fun x hx => hsp x (List.mem_append_left _ hx)),
      R8 hl ts vs ds q (fun t' ht' => hr t' (List.mem_cons_of_mem _ ht')) h2 hb (fun x hx => hlt x (List.mem_append_right _ hx)) (fun x hx => hsp x (List.mem_append_right _ hx)), rfl⟩
  | [], _ :: _, _, _, _, h, _, _, _ => h.elim
  | [], [], _ :: _, _, _, h, _, _, _ => h.elim
  | _ :: _, [], _, _, _, h, _, _, _ => h.elim
  | _ :: _, _ :: _, [], _, _, h, _, _, _ => h.elim
theorem F2 {f : Func} {s : ChangeSpec} {apart fresh handsOn again : Bool} {W' : World} {args : Array Value} {ds gs : List (DataW H)} {before : List MemPlace} {tb : TypeId} (hs : s.vars = []) (hl : laidOutB P = true)
    (hr : ∀ t ∈ f.params.toList, P.readableRec t = true ∧ t < P.types.size) (hrt : f.resultTypes = #[tb]) (hb : P.underlying tb = some .bool)
    (hW : DataW.Whole enc P f.params.toList s.vars apart W args.toList ds gs before) (hfn : s.fn H (ds ++ gs) = { results := [.lit (.bool true)], args := ds, vars := [] })
    (hB : Below W.heap.size W W') : s.post enc P f apart fresh handsOn again W args (.bool true) W' := by
  have hW' := hW
  have hlt := hW.lt
  obtain ⟨p, q, hA, hV, hpq, hz, hn⟩ := hW
  rw [hs] at hV
  obtain ⟨rfl, rfl⟩ := trodVars_none hV
  rw [List.append_nil] at hpq
  subst hpq
  have hres : ∀ (b : Nat) (sp : Nat → Bool) (hd : Bool), DataW.TrodAll enc P W' b sp hd f.resultTypes.toList ((Value.bool true).resultList f.resultTypes.size) (s.fn H (ds ++ [])).results [] := fun b sp hd => by
    rw [hfn, hrt]; exact trodAll_mk1 (shut_bool hb _)
  have hargs : ∀ sp : Nat → Bool, (∀ p ∈ before, sp p.block = true) → DataW.TrodAll enc P W' 0 sp true f.params.toList args.toList (s.fn H (ds ++ [])).args before := fun sp hsp => by
    rw [hfn]; exact R8 hl _ _ _ _ hr hA hB hlt hsp
  have hvars : ∀ sp : Nat → Bool, DataW.TrodVars enc P W' sp s.vars (s.fn H (ds ++ [])).vars [] := fun sp => by rw [hfn, hs]; rfl
  have hold : ∀ p ∈ before, (fun b => decide (b < W.heap.size)) p.block = true := fun p hp => by simpa using hlt p hp
  refine ⟨ds, [], before, [], before, [], hW', hres _ _ _, hargs _ hold, hvars _, World.keptBut_mono (fun p hp => ⟨hp, .inr (.inl hp)⟩) (hB.frame (· ∈ before)), fun _ => ?_⟩
  refine ⟨ok_one hrt rfl (okWide_bool_mk hb _), _, _, ([] ++ before) ++ [], ⟨[] ++ before, [], trodAll_append (hargs _ (fun _ _ => rfl)) (hres _ _ _), hvars _, rfl, ?_, ?_⟩, ?_⟩
  · intro b off hp
    have hp' : MemPlace.cell b off ∈ before := by simpa using hp
    rw [hB.frozen (p := ⟨b, off, none⟩) (hlt _ hp')]
    exact hz b off hp'
  · intro ha
    simpa using hn ha
  · intro p hp _
    simpa using hp
end
end Go.Proofs.YtjochhncheheaaaGreatDoor
