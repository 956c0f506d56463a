/-
  Plain laws of linking: where labels lie, what is known of a name, what lines are as instructions and as words. No program in sight.
-/
import Derived.Test.YtibkcfpcfbodaaaLinkF
import Derived.Test.YtibkcfpcfbodaaaAsmE
import Derived.Test.YtibkcfpcfbodaaaPlain
namespace Go.Proofs.Ytibkcfpcfbodaaa
open Go.RowKit Vc
set_option linter.unusedVariables false
set_option linter.unusedSimpArgs false
def X2 : List Ln → Int → List Spot
  | [], _ => []
  | x :: l, a => if x.label ≠ [] then ⟨x.label, a⟩ :: X2 l a else X2 l (a + Wu x)
theorem Vw {x : Ln} {l : List Ln} (h : x.label ≠ []) : Xz (x :: l) = x.label :: Xz l := by simp [Xz, h]
theorem U7 {x : Ln} {l : List Ln} (h : x.label = []) : Xz (x :: l) = Xz l := by simp [Xz, h]
theorem Ts : ∀ {l : List Ln} {s : List UInt8}, s ∈ Xz l → s ≠ []
  | l, s, h => by
    simp only [Xz, List.mem_map, List.mem_filter, decide_eq_true_eq] at h
    obtain ⟨x, ⟨_, h1⟩, rfl⟩ := h
    exact h1
theorem R1 : ∀ (l : List Ln) (k : Nat) (a : Int) (seen : List (List UInt8)) (acc : List Spot), (W0 l k a seen acc).2.2.1 = 0 →
    (W0 l k a seen acc).1 = acc ++ X2 l a ∧ (Xz l).Nodup ∧ ∀ s ∈ Xz l, s ∉ seen
  | [], k, a, seen, acc, h => by simp [W0, X2, Xz]
  | x :: l, k, a, seen, acc, h => by
    unfold W0 at h ⊢
    split at h
    · rename_i h1; exact absurd h h1
    · rename_i h1
      rw [if_neg h1]
      split at h
      · rename_i hl
        rw [if_pos hl]
        split at h
        · exact absurd h (by simp)
        · rename_i hs
          rw [if_neg hs]
          obtain ⟨g1, g2, g3⟩ := R1 l _ _ _ _ h
          rw [Vw hl]
          refine ⟨by rw [g1]; simp [X2, hl], List.nodup_cons.2 ⟨fun hm => by have := g3 _ hm; simp at this, g2⟩, fun s hs' => ?_⟩
          rcases List.mem_cons.1 hs' with rfl | hs'
          · exact hs
          · have := g3 _ hs'
            simp only [List.mem_cons, not_or] at this
            exact this.2
      · rename_i hl
        rw [if_neg hl]
        split at h
        · exact absurd h (by simp)
        · rename_i hs
          rw [if_neg hs]
          obtain ⟨g1, g2, g3⟩ := R1 l _ _ _ _ h
          have hl' : x.label = [] := by simpa using hl
          rw [U7 hl']
          exact ⟨by rw [g1]; simp [X2, hl'], g2, g3⟩
theorem U8 {l : List Ln} {a : Int} (h : (Y1 l a).2.2.1 = 0) : (Y1 l a).1 = X2 l a ∧ (Xz l).Nodup := by
  have := R1 l 0 a [] [] h
  exact ⟨by simpa [Y1] using this.1, this.2.1⟩
theorem W4 : ∀ (l : List Ln) (a : Int), (X2 l a).map Spot.name = Xz l
  | [], a => rfl
  | x :: l, a => by
    unfold X2
    by_cases h : x.label ≠ []
    · rw [if_pos h, Vw h, List.map_cons, W4 l]
    · rw [if_neg h, U7 (by simpa using h), W4 l]
def atS : List Spot → List UInt8 → Int
  | [], _ => 0
  | y :: l, s => if y.name = s then y.at_ else atS l s
theorem Nj (s : List UInt8) : ∀ (sp : List Spot) (k : Nat), s ∈ sp.map Spot.name → ∃ i : Nat, U3 (fun y : Spot => decide (y.name = s)) sp k = ((k + i : Nat) : Int) ∧ (sp.getD i Tm).at_ = atS sp s
  | [], k, h => by simp at h
  | y :: sp, k, h => by
    by_cases hy : y.name = s
    · exact ⟨0, by simp [U3, hy], by simp [atS, hy]⟩
    · obtain ⟨i, h1, h2⟩ := Nj s sp (k + 1) (by
        rcases List.mem_cons.1 h with h | h
        · exact absurd h.symm hy
        · exact h)
      refine ⟨i + 1, ?_, by simpa [atS, hy] using h2⟩
      simp only [U3, hy, decide_false, Bool.false_eq_true, if_false, h1]
      congr 1; omega
theorem To {s : List UInt8} (hs : s ≠ []) : ∀ (l : List Ln) (a : Int), s ∈ Xz l → atS (X2 l a) s = Wp l s a
  | [], a, h => by simp [Xz] at h
  | x :: l, a, h => by
    unfold X2 Wp
    by_cases hl : x.label ≠ []
    · rw [if_pos hl]
      simp only [atS]
      by_cases hx : x.label = s
      · rw [if_pos hx, if_pos hx]
      · rw [if_neg hx, if_neg hx, V3 hl, Int.add_zero]
        rw [Vw hl] at h
        rcases List.mem_cons.1 h with h | h
        · exact absurd h.symm hx
        · exact To hs l a h
    · have hl' : x.label = [] := by simpa using hl
      rw [if_neg hl, if_neg (by rw [hl']; exact fun e => hs e.symm)]
      rw [U7 hl'] at h
      exact To hs l _ h
theorem N4 : ∀ (sp : List Spot) (g : Own) (s : List UInt8), (sp.map Spot.name).Nodup → Uu sp g s = if s ∈ sp.map Spot.name then some (atS sp s) else g s
  | [], g, s, h => by simp [Uu]
  | y :: sp, g, s, h => by
    simp only [List.map_cons, List.nodup_cons] at h
    simp only [Uu]
    rw [N4 sp _ s h.2]
    simp only [List.map_cons, List.mem_cons, atS]
    by_cases hy : s = y.name
    · subst hy
      rw [if_neg h.1]; simp
    · by_cases hm : s ∈ sp.map Spot.name
      · rw [if_pos hm, if_pos (.inr hm), if_neg (fun e => hy e.symm)]
      · rw [if_neg hm, if_neg hy, if_neg (fun h' => h'.elim hy hm)]
theorem Po : ∀ (sp : List Spot) (g : Own) (s : List UInt8), (sp.map Spot.name).Nodup → Sc sp g s = if Wz s = false ∧ s ∈ sp.map Spot.name then some (atS sp s) else g s
  | [], g, s, h => by simp [Sc]
  | y :: sp, g, s, h => by
    simp only [List.map_cons, List.nodup_cons] at h
    simp only [Sc]
    rw [Po sp _ s h.2]
    have e : (if Wz y.name = true then g else fun t => if t = y.name then some y.at_ else g t) s = if Wz y.name = true then g s else if s = y.name then some y.at_ else g s := by split <;> rfl
    rw [e]
    simp only [List.map_cons, List.mem_cons, atS]
    by_cases hy : s = y.name
    · subst hy
      rw [if_neg (fun h' => h.1 h'.2)]
      by_cases ho : Wz y.name = true
      · rw [if_pos ho, if_neg (fun h' => absurd (ho.symm.trans h'.1) (by decide))]
      · rw [if_neg ho, if_pos rfl, if_pos ⟨by simpa using ho, .inl rfl⟩, if_pos rfl]
    · rw [if_neg hy]
      have e2 : (if Wz y.name = true then g s else g s) = g s := by split <;> rfl
      rw [e2]
      by_cases hm : Wz s = false ∧ s ∈ sp.map Spot.name
      · rw [if_pos hm, if_pos ⟨hm.1, .inr hm.2⟩, if_neg (fun e => hy e.symm)]
      · rw [if_neg hm, if_neg (by
          rintro ⟨h1, h2 | h2⟩
          · exact hy h2
          · exact hm ⟨h1, h2⟩)]
theorem Tw {u : Int} : ∀ {sp : List Spot} {f f' : Own}, Vl u sp f = some f' → ∀ s, f' s = (if Wz s = false ∧ s ∈ sp.map Spot.name then some u else f s) ∧ (Wz s = false → s ∈ sp.map Spot.name → f s = none)
  | [], f, f', h, s => by cases h; simp
  | y :: sp, f, f', h, s => by
    simp only [Vl] at h
    split at h
    · rename_i ho
      obtain ⟨g1, g2⟩ := Tw h s
      have : ∀ h : Wz s = false, s ≠ y.name := fun h e => by rw [e, ho] at h; cases h
      refine ⟨?_, fun h1 h2 => ?_⟩
      · rw [g1]
        by_cases hm : Wz s = false ∧ s ∈ sp.map Spot.name
        · rw [if_pos hm, if_pos ⟨hm.1, List.mem_cons_of_mem _ hm.2⟩]
        · rw [if_neg hm, if_neg (by
            rintro ⟨h1, h2⟩
            rcases List.mem_cons.1 h2 with h2 | h2
            · exact this h1 h2
            · exact hm ⟨h1, h2⟩)]
      · rcases List.mem_cons.1 h2 with h2 | h2
        · exact absurd h2 (this h1)
        · exact g2 h1 h2
    · rename_i ho
      split at h
      · cases h
      · rename_i hn
        have hno : f y.name = none := by simpa using hn
        obtain ⟨g1, g2⟩ := Tw h s
        refine ⟨?_, fun h1 h2 => ?_⟩
        · rw [g1]
          by_cases hy : s = y.name
          · subst hy
            have ho' : Wz y.name = false := by simpa using ho
            simp [ho']
          · by_cases hm : Wz s = false ∧ s ∈ sp.map Spot.name
            · rw [if_pos hm, if_pos ⟨hm.1, List.mem_cons_of_mem _ hm.2⟩]
            · rw [if_neg hm, if_neg hy, if_neg (by
                rintro ⟨h1, h2⟩
                rcases List.mem_cons.1 h2 with h2 | h2
                · exact hy h2
                · exact hm ⟨h1, h2⟩)]
        · rcases List.mem_cons.1 h2 with h2 | h2
          · rw [h2]; exact hno
          · have := g2 h1 h2
            split at this
            · cases this
            · exact this
theorem Qo : ∀ (l : X3) (k : Nat) (f : Own), (Vm l k f).2.1 = 0 → ∀ s v, (Vm l k f).1 s = some v ↔ f s = some v ∨ (Wz s = false ∧ ∃ n : Nat, n < l.length ∧ v = ((k + n : Nat) : Int) ∧ s ∈ Xz (l.getD n Ud).2)
  | [], k, f, h, s, v => by simp [Vm]
  | x :: l, k, f, h, s, v => by
    unfold Vm at h ⊢
    split at h
    · simp at h
    · rename_i h1
      rw [if_neg h1]
      split at h
      · rename_i h2; exact absurd h h2
      · rename_i h2
        rw [if_neg h2]
        have h2' : (Y1 x.2 0).2.2.1 = 0 := by simpa using h2
        split at h
        · simp at h
        · rename_i f' hf'
          have ih := Qo l (k + 1) f' h s v
          obtain ⟨g1, g2⟩ := Tw hf' s
          rw [(Tq h2').2] at g1 g2
          rw [ih, g1]
          constructor
          · rintro (hA | ⟨ho, n, hn, rfl, hs⟩)
            · split at hA
              · rename_i hm
                cases hA
                exact .inr ⟨hm.1, 0, by simp, by simp, by simpa using hm.2⟩
              · exact .inl hA
            · exact .inr ⟨ho, n + 1, by simp; omega, by congr 1; omega, by simpa using hs⟩
          · rintro (hA | ⟨ho, n, hn, rfl, hs⟩)
            · left
              rw [if_neg (fun hm => by rw [g2 hm.1 hm.2] at hA; cases hA)]
              exact hA
            · cases n with
              | zero => left; rw [if_pos ⟨ho, by simpa using hs⟩]; rfl
              | succ n => exact .inr ⟨ho, n, by simpa using hn, by congr 1; omega, by simpa using hs⟩
theorem Ty {l : X3} (h : (Yn l).2.1 = 0) (s : List UInt8) (v : Int) : (Yn l).1 s = some v ↔ (Wz s = false ∧ ∃ n : Nat, n < l.length ∧ v = (n : Int) ∧ s ∈ Xz (l.getD n Ud).2) := by
  unfold Yn at h ⊢
  split at h
  · simp at h
  · rename_i hl
    rw [if_neg hl, Qo l 0 Wk h s v]
    simp [Wk]
def Nm (h : List UInt8 → Int × Bool) (x : Ln) : Ins := if x.ref ≠ [] then ⟨x.ins.op, x.ins.d, x.ins.s, Nx .i64 (h x.ref).1 65535⟩ else x.ins
def Tl (h : List UInt8 → Int × Bool) (l : List Ln) : List Ins := (l.filter fun x => decide (x.label = [])).map (Nm h)
theorem Sy {h : List UInt8 → Int × Bool} : ∀ (l : List Ln) (k : Nat) (acc : List Ins), (∀ x ∈ l, x.label = [] → x.ref ≠ [] → (h x.ref).2 = true) → Ux h l k acc = (acc ++ Tl h l, 0, 0)
  | [], k, acc, hk => by simp [Ux, Tl]
  | x :: l, k, acc, hk => by
    have ih := fun acc => Sy l (k + 1) acc fun y hy => hk y (List.mem_cons_of_mem _ hy)
    unfold Ux
    by_cases hl : x.label ≠ []
    · rw [if_pos hl, ih]; simp [Tl, hl]
    · have hl' : x.label = [] := by simpa using hl
      rw [if_neg hl]
      by_cases hr : x.ref ≠ []
      · rw [if_pos hr, if_neg (by rw [hk x (List.mem_cons_self ..) hl' hr]; decide), ih]
        simp [Tl, hl', Nm, hr]
      · rw [if_neg hr, ih]
        simp only [ne_eq, Decidable.not_not] at hr
        simp [Tl, hl', Nm, hr]
theorem Kr {h h' : List UInt8 → Int × Bool} {l : List Ln} (hk : ∀ x ∈ l, x.label = [] → x.ref ≠ [] → (h x.ref).1 = (h' x.ref).1) : Tl h l = Tl h' l := by
  unfold Tl
  refine List.map_congr_left fun x hx => ?_
  simp only [List.mem_filter, decide_eq_true_eq] at hx
  unfold Nm
  split
  · rename_i hr; rw [hk x hx.1 hx.2 hr]
  · rfl
theorem Oo {x : Ins} {n : Int} (h : X5 x = 0) (h0 : 0 ≤ n) (h1 : n ≤ 65535) : X5 ⟨x.op, x.d, x.s, n⟩ = 0 := by
  unfold X5 at h ⊢
  split at h
  · omega
  · rename_i hk
    rw [if_neg hk]
    split at h
    · omega
    · rename_i hw
      rw [if_neg]
      simp only [Bool.or_eq_true, Bool.and_eq_true, not_or] at hw ⊢
      refine ⟨hw.1, hw.2.1, fun hi => ?_⟩
      simp only [V6] at hi
      simp at hi
      omega
theorem Jw {h : List UInt8 → Int × Bool} {x : Ln} (hw : W6 x = 0) (hl : x.label = []) (hr : x.ref ≠ [] → 0 ≤ (h x.ref).1 ∧ (h x.ref).1 ≤ 1000000) : X5 (Nm h x) = 0 ∧ ((W2 (Nm h x)).length : Int) = Wu x := by
  have h1 := (U2 hw hl).1
  have hlen : ∀ n, ((W2 ⟨x.ins.op, x.ins.d, x.ins.s, n⟩).length : Int) = Wu x := fun n => by
    have e : Wu x = if hasI x.ins.op then 2 else 1 := by unfold Wu; rw [if_neg (by simpa using hl)]
    rw [e]
    unfold W2
    cases hasI x.ins.op <;> simp
  unfold Nm
  split
  · rename_i hrf
    obtain ⟨g0, g1⟩ := hr hrf
    refine ⟨?_, hlen _⟩
    rw [Js _ g0 (by omega)]
    exact Oo h1 (by omega) (by omega)
  · exact ⟨h1, hlen x.ins.imm⟩
theorem M9 {h : List UInt8 → Int × Bool} : ∀ (l : List Ln), (∀ x ∈ l, W6 x = 0) → (∀ x ∈ l, x.ref ≠ [] → 0 ≤ (h x.ref).1 ∧ (h x.ref).1 ≤ 1000000) → (∀ x ∈ Tl h l, X5 x = 0) ∧ ((Wf (Tl h l)).length : Int) = X9 l
  | [], _, _ => by simp [Tl, Wf, X9]
  | x :: l, hw, hr => by
    obtain ⟨h1, h2⟩ := M9 l (fun y hy => hw y (List.mem_cons_of_mem _ hy)) (fun y hy => hr y (List.mem_cons_of_mem _ hy))
    by_cases hl : x.label = []
    · have e : Tl h (x :: l) = Nm h x :: Tl h l := by simp [Tl, hl]
      obtain ⟨g1, g2⟩ := Jw (h := h) (hw x (List.mem_cons_self ..)) hl (hr x (List.mem_cons_self ..))
      rw [e]
      refine ⟨fun y hy => ?_, ?_⟩
      · rcases List.mem_cons.1 hy with rfl | hy
        · exact g1
        · exact h1 y hy
      · rw [Vd, List.length_append, X9]; omega
    · have e : Tl h (x :: l) = Tl h l := by simp [Tl, hl]
      rw [e, X9, V3 hl]
      exact ⟨h1, by omega⟩
theorem Tr {s : List UInt8} : ∀ (l : List Ln) (a : Int), 0 ≤ a → s ∈ Xz l → a ≤ Wp l s a ∧ Wp l s a ≤ a + X9 l
  | [], a, _, h => by simp [Xz] at h
  | x :: l, a, h0, h => by
    have hle := Tx x
    have hsz : ∀ l : List Ln, 0 ≤ X9 l := fun l => by
      induction l with
      | nil => simp [X9]
      | cons y l ih => have := Tx y; simp only [X9]; omega
    have := hsz l
    unfold Wp X9
    split
    · omega
    · rename_i hx
      by_cases hl : x.label = []
      · rw [U7 hl] at h
        have := Tr l (a + Wu x) (by omega) h
        omega
      · rw [Vw hl] at h
        rcases List.mem_cons.1 h with h | h
        · exact absurd h.symm hx
        · have := Tr l (a + Wu x) (by omega) h
          omega
end Go.Proofs.Ytibkcfpcfbodaaa
