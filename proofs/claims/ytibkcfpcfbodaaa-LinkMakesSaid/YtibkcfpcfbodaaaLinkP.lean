/-
  Plain laws of linking: where labels lie, what is known of a name, what lines are as instructions and as words. No program in sight.
-/
import Derived.Test.YtibkcfpcfbodaaaLinkF
import Derived.Test.YtibkcfpcfbodaaaAsmE
import Derived.Test.YtibkcfpcfbodaaaPlain
namespace Go.Proofs.Ytibkcfpcfbodaaa
open Go.RowKit Vc
set_option linter.unusedVariables false
set_option linter.unusedSimpArgs false
def X8 : List Ln → Int → List Spot
  | [], _ => []
  | x :: l, a => if x.label ≠ [] then ⟨x.label, a⟩ :: X8 l a else X8 l (a + W9 x)
theorem Tk {x : Ln} {l : List Ln} (h : x.label ≠ []) : X4 (x :: l) = x.label :: X4 l := by simp [X4, h]
theorem Ty {x : Ln} {l : List Ln} (h : x.label = []) : X4 (x :: l) = X4 l := by simp [X4, h]
theorem Tb : ∀ {l : List Ln} {s : List UInt8}, s ∈ X4 l → s ≠ []
  | l, s, h => by
    simp only [X4, List.mem_map, List.mem_filter, decide_eq_true_eq] at h
    obtain ⟨x, ⟨_, h1⟩, rfl⟩ := h
    exact h1
theorem Qc : ∀ (l : List Ln) (k : Nat) (a : Int) (seen : List (List UInt8)) (acc : List Spot), (Wy l k a seen acc).2.2.1 = 0 →
    (Wy l k a seen acc).1 = acc ++ X8 l a ∧ (X4 l).Nodup ∧ ∀ s ∈ X4 l, s ∉ seen
  | [], k, a, seen, acc, h => by simp [Wy, X8, X4]
  | x :: l, k, a, seen, acc, h => by
    unfold Wy at h ⊢
    split at h
    · rename_i h1; exact absurd h h1
    · rename_i h1
      rw [if_neg h1]
      split at h
      · rename_i hl
        rw [if_pos hl]
        split at h
        · exact absurd h (by simp)
        · rename_i hs
          rw [if_neg hs]
          obtain ⟨g1, g2, g3⟩ := Qc l _ _ _ _ h
          rw [Tk hl]
          refine ⟨by rw [g1]; simp [X8, hl], List.nodup_cons.2 ⟨fun hm => by have := g3 _ hm; simp at this, g2⟩, fun s hs' => ?_⟩
          rcases List.mem_cons.1 hs' with rfl | hs'
          · exact hs
          · have := g3 _ hs'
            simp only [List.mem_cons, not_or] at this
            exact this.2
      · rename_i hl
        rw [if_neg hl]
        split at h
        · exact absurd h (by simp)
        · rename_i hs
          rw [if_neg hs]
          obtain ⟨g1, g2, g3⟩ := Qc l _ _ _ _ h
          have hl' : x.label = [] := by simpa using hl
          rw [Ty hl']
          exact ⟨by rw [g1]; simp [X8, hl'], g2, g3⟩
theorem Tz {l : List Ln} {a : Int} (h : (Xr l a).2.2.1 = 0) : (Xr l a).1 = X8 l a ∧ (X4 l).Nodup := by
  have := Qc l 0 a [] [] h
  exact ⟨by simpa [Xr] using this.1, this.2.1⟩
theorem W3 : ∀ (l : List Ln) (a : Int), (X8 l a).map Spot.name = X4 l
  | [], a => rfl
  | x :: l, a => by
    unfold X8
    by_cases h : x.label ≠ []
    · rw [if_pos h, Tk h, List.map_cons, W3 l]
    · rw [if_neg h, Ty (by simpa using h), W3 l]
def atS : List Spot → List UInt8 → Int
  | [], _ => 0
  | y :: l, s => if y.name = s then y.at_ else atS l s
theorem Ni (s : List UInt8) : ∀ (sp : List Spot) (k : Nat), s ∈ sp.map Spot.name → ∃ i : Nat, Uu (fun y : Spot => decide (y.name = s)) sp k = ((k + i : Nat) : Int) ∧ (sp.getD i Su).at_ = atS sp s
  | [], k, h => by simp at h
  | y :: sp, k, h => by
    by_cases hy : y.name = s
    · exact ⟨0, by simp [Uu, hy], by simp [atS, hy]⟩
    · obtain ⟨i, h1, h2⟩ := Ni s sp (k + 1) (by
        rcases List.mem_cons.1 h with h | h
        · exact absurd h.symm hy
        · exact h)
      refine ⟨i + 1, ?_, by simpa [atS, hy] using h2⟩
      simp only [Uu, hy, decide_false, Bool.false_eq_true, if_false, h1]
      congr 1; omega
theorem Tu {s : List UInt8} (hs : s ≠ []) : ∀ (l : List Ln) (a : Int), s ∈ X4 l → atS (X8 l a) s = whereL l s a
  | [], a, h => by simp [X4] at h
  | x :: l, a, h => by
    unfold X8 whereL
    by_cases hl : x.label ≠ []
    · rw [if_pos hl]
      simp only [atS]
      by_cases hx : x.label = s
      · rw [if_pos hx, if_pos hx]
      · rw [if_neg hx, if_neg hx, Tg hl, Int.add_zero]
        rw [Tk hl] at h
        rcases List.mem_cons.1 h with h | h
        · exact absurd h.symm hx
        · exact Tu hs l a h
    · have hl' : x.label = [] := by simpa using hl
      rw [if_neg hl, if_neg (by rw [hl']; exact fun e => hs e.symm)]
      rw [Ty hl'] at h
      exact Tu hs l _ h
theorem N9 : ∀ (sp : List Spot) (g : Own) (s : List UInt8), (sp.map Spot.name).Nodup → Rc sp g s = if s ∈ sp.map Spot.name then some (atS sp s) else g s
  | [], g, s, h => by simp [Rc]
  | y :: sp, g, s, h => by
    simp only [List.map_cons, List.nodup_cons] at h
    simp only [Rc]
    rw [N9 sp _ s h.2]
    simp only [List.map_cons, List.mem_cons, atS]
    by_cases hy : s = y.name
    · subst hy
      rw [if_neg h.1]; simp
    · by_cases hm : s ∈ sp.map Spot.name
      · rw [if_pos hm, if_pos (.inr hm), if_neg (fun e => hy e.symm)]
      · rw [if_neg hm, if_neg hy, if_neg (fun h' => h'.elim hy hm)]
theorem P1 : ∀ (sp : List Spot) (g : Own) (s : List UInt8), (sp.map Spot.name).Nodup → Ra sp g s = if W2 s = false ∧ s ∈ sp.map Spot.name then some (atS sp s) else g s
  | [], g, s, h => by simp [Ra]
  | y :: sp, g, s, h => by
    simp only [List.map_cons, List.nodup_cons] at h
    simp only [Ra]
    rw [P1 sp _ s h.2]
    have e : (if W2 y.name = true then g else fun t => if t = y.name then some y.at_ else g t) s = if W2 y.name = true then g s else if s = y.name then some y.at_ else g s := by split <;> rfl
    rw [e]
    simp only [List.map_cons, List.mem_cons, atS]
    by_cases hy : s = y.name
    · subst hy
      rw [if_neg (fun h' => h.1 h'.2)]
      by_cases ho : W2 y.name = true
      · rw [if_pos ho, if_neg (fun h' => absurd (ho.symm.trans h'.1) (by decide))]
      · rw [if_neg ho, if_pos rfl, if_pos ⟨by simpa using ho, .inl rfl⟩, if_pos rfl]
    · rw [if_neg hy]
      have e2 : (if W2 y.name = true then g s else g s) = g s := by split <;> rfl
      rw [e2]
      by_cases hm : W2 s = false ∧ s ∈ sp.map Spot.name
      · rw [if_pos hm, if_pos ⟨hm.1, .inr hm.2⟩, if_neg (fun e => hy e.symm)]
      · rw [if_neg hm, if_neg (by
          rintro ⟨h1, h2 | h2⟩
          · exact hy h2
          · exact hm ⟨h1, h2⟩)]
theorem T2 {u : Int} : ∀ {sp : List Spot} {f f' : Own}, Vq u sp f = some f' → ∀ s, f' s = (if W2 s = false ∧ s ∈ sp.map Spot.name then some u else f s) ∧ (W2 s = false → s ∈ sp.map Spot.name → f s = none)
  | [], f, f', h, s => by cases h; simp
  | y :: sp, f, f', h, s => by
    simp only [Vq] at h
    split at h
    · rename_i ho
      obtain ⟨g1, g2⟩ := T2 h s
      have : ∀ h : W2 s = false, s ≠ y.name := fun h e => by rw [e, ho] at h; cases h
      refine ⟨?_, fun h1 h2 => ?_⟩
      · rw [g1]
        by_cases hm : W2 s = false ∧ s ∈ sp.map Spot.name
        · rw [if_pos hm, if_pos ⟨hm.1, List.mem_cons_of_mem _ hm.2⟩]
        · rw [if_neg hm, if_neg (by
            rintro ⟨h1, h2⟩
            rcases List.mem_cons.1 h2 with h2 | h2
            · exact this h1 h2
            · exact hm ⟨h1, h2⟩)]
      · rcases List.mem_cons.1 h2 with h2 | h2
        · exact absurd h2 (this h1)
        · exact g2 h1 h2
    · rename_i ho
      split at h
      · cases h
      · rename_i hn
        have hno : f y.name = none := by simpa using hn
        obtain ⟨g1, g2⟩ := T2 h s
        refine ⟨?_, fun h1 h2 => ?_⟩
        · rw [g1]
          by_cases hy : s = y.name
          · subst hy
            have ho' : W2 y.name = false := by simpa using ho
            simp [ho']
          · by_cases hm : W2 s = false ∧ s ∈ sp.map Spot.name
            · rw [if_pos hm, if_pos ⟨hm.1, List.mem_cons_of_mem _ hm.2⟩]
            · rw [if_neg hm, if_neg hy, if_neg (by
                rintro ⟨h1, h2⟩
                rcases List.mem_cons.1 h2 with h2 | h2
                · exact hy h2
                · exact hm ⟨h1, h2⟩)]
        · rcases List.mem_cons.1 h2 with h2 | h2
          · rw [h2]; exact hno
          · have := g2 h1 h2
            split at this
            · cases this
            · exact this
theorem Qz : ∀ (l : X5) (k : Nat) (f : Own), (Vo l k f).2.1 = 0 → ∀ s v, (Vo l k f).1 s = some v ↔ f s = some v ∨ (W2 s = false ∧ ∃ n : Nat, n < l.length ∧ v = ((k + n : Nat) : Int) ∧ s ∈ X4 (l.getD n Vr).2)
  | [], k, f, h, s, v => by simp [Vo]
  | x :: l, k, f, h, s, v => by
    unfold Vo at h ⊢
    split at h
    · simp at h
    · rename_i h1
      rw [if_neg h1]
      split at h
      · rename_i h2; exact absurd h h2
      · rename_i h2
        rw [if_neg h2]
        have h2' : (Xr x.2 0).2.2.1 = 0 := by simpa using h2
        split at h
        · simp at h
        · rename_i f' hf'
          have ih := Qz l (k + 1) f' h s v
          obtain ⟨g1, g2⟩ := T2 hf' s
          rw [(Tv h2').2] at g1 g2
          rw [ih, g1]
          constructor
          · rintro (hA | ⟨ho, n, hn, rfl, hs⟩)
            · split at hA
              · rename_i hm
                cases hA
                exact .inr ⟨hm.1, 0, by simp, by simp, by simpa using hm.2⟩
              · exact .inl hA
            · exact .inr ⟨ho, n + 1, by simp; omega, by congr 1; omega, by simpa using hs⟩
          · rintro (hA | ⟨ho, n, hn, rfl, hs⟩)
            · left
              rw [if_neg (fun hm => by rw [g2 hm.1 hm.2] at hA; cases hA)]
              exact hA
            · cases n with
              | zero => left; rw [if_pos ⟨ho, by simpa using hs⟩]; rfl
              | succ n => exact .inr ⟨ho, n, by simpa using hn, by congr 1; omega, by simpa using hs⟩
theorem Tl {l : X5} (h : (Yw l).2.1 = 0) (s : List UInt8) (v : Int) : (Yw l).1 s = some v ↔ (W2 s = false ∧ ∃ n : Nat, n < l.length ∧ v = (n : Int) ∧ s ∈ X4 (l.getD n Vr).2) := by
  unfold Yw at h ⊢
  split at h
  · simp at h
  · rename_i hl
    rw [if_neg hl, Qz l 0 Wr h s v]
    simp [Wr]
def O8 (h : List UInt8 → Int × Bool) (x : Ln) : Ins := if x.ref ≠ [] then ⟨x.ins.op, x.ins.d, x.ins.s, N1 .i64 (h x.ref).1 65535⟩ else x.ins
def Tr (h : List UInt8 → Int × Bool) (l : List Ln) : List Ins := (l.filter fun x => decide (x.label = [])).map (O8 h)
theorem S6 {h : List UInt8 → Int × Bool} : ∀ (l : List Ln) (k : Nat) (acc : List Ins), (∀ x ∈ l, x.label = [] → x.ref ≠ [] → (h x.ref).2 = true) → U6 h l k acc = (acc ++ Tr h l, 0, 0)
  | [], k, acc, hk => by simp [U6, Tr]
  | x :: l, k, acc, hk => by
    have ih := fun acc => S6 l (k + 1) acc fun y hy => hk y (List.mem_cons_of_mem _ hy)
    unfold U6
    by_cases hl : x.label ≠ []
    · rw [if_pos hl, ih]; simp [Tr, hl]
    · have hl' : x.label = [] := by simpa using hl
      rw [if_neg hl]
      by_cases hr : x.ref ≠ []
      · rw [if_pos hr, if_neg (by rw [hk x (List.mem_cons_self ..) hl' hr]; decide), ih]
        simp [Tr, hl', O8, hr]
      · rw [if_neg hr, ih]
        simp only [ne_eq, Decidable.not_not] at hr
        simp [Tr, hl', O8, hr]
theorem K0 {h h' : List UInt8 → Int × Bool} {l : List Ln} (hk : ∀ x ∈ l, x.label = [] → x.ref ≠ [] → (h x.ref).1 = (h' x.ref).1) : Tr h l = Tr h' l := by
  unfold Tr
  refine List.map_congr_left fun x hx => ?_
  simp only [List.mem_filter, decide_eq_true_eq] at hx
  unfold O8
  split
  · rename_i hr; rw [hk x hx.1 hx.2 hr]
  · rfl
theorem Ja {x : Ins} {n : Int} (h : We x = 0) (h0 : 0 ≤ n) (h1 : n ≤ 65535) : We ⟨x.op, x.d, x.s, n⟩ = 0 := by
  unfold We at h ⊢
  split at h
  · omega
  · rename_i hk
    rw [if_neg hk]
    split at h
    · omega
    · rename_i hw
      rw [if_neg]
      simp only [Bool.or_eq_true, Bool.and_eq_true, not_or] at hw ⊢
      refine ⟨hw.1, hw.2.1, fun hi => ?_⟩
      simp only [Uk] at hi
      simp at hi
      omega
theorem Jl {h : List UInt8 → Int × Bool} {x : Ln} (hw : Vh x = 0) (hl : x.label = []) (hr : x.ref ≠ [] → 0 ≤ (h x.ref).1 ∧ (h x.ref).1 ≤ 1000000) : We (O8 h x) = 0 ∧ ((W7 (O8 h x)).length : Int) = W9 x := by
  have h1 := (Sr hw hl).1
  have hlen : ∀ n, ((W7 ⟨x.ins.op, x.ins.d, x.ins.s, n⟩).length : Int) = W9 x := fun n => by
    have e : W9 x = if hasI x.ins.op then 2 else 1 := by unfold W9; rw [if_neg (by simpa using hl)]
    rw [e]
    unfold W7
    cases hasI x.ins.op <;> simp
  unfold O8
  split
  · rename_i hrf
    obtain ⟨g0, g1⟩ := hr hrf
    refine ⟨?_, hlen _⟩
    rw [Jo _ g0 (by omega)]
    exact Ja h1 (by omega) (by omega)
  · exact ⟨h1, hlen x.ins.imm⟩
theorem M6 {h : List UInt8 → Int × Bool} : ∀ (l : List Ln), (∀ x ∈ l, Vh x = 0) → (∀ x ∈ l, x.ref ≠ [] → 0 ≤ (h x.ref).1 ∧ (h x.ref).1 ≤ 1000000) → (∀ x ∈ Tr h l, We x = 0) ∧ ((W6 (Tr h l)).length : Int) = Wu l
  | [], _, _ => by simp [Tr, W6, Wu]
  | x :: l, hw, hr => by
    obtain ⟨h1, h2⟩ := M6 l (fun y hy => hw y (List.mem_cons_of_mem _ hy)) (fun y hy => hr y (List.mem_cons_of_mem _ hy))
    by_cases hl : x.label = []
    · have e : Tr h (x :: l) = O8 h x :: Tr h l := by simp [Tr, hl]
      obtain ⟨g1, g2⟩ := Jl (h := h) (hw x (List.mem_cons_self ..)) hl (hr x (List.mem_cons_self ..))
      rw [e]
      refine ⟨fun y hy => ?_, ?_⟩
      · rcases List.mem_cons.1 hy with rfl | hy
        · exact g1
        · exact h1 y hy
      · rw [Vw, List.length_append, Wu]; omega
    · have e : Tr h (x :: l) = Tr h l := by simp [Tr, hl]
      rw [e, Wu, Tg hl]
      exact ⟨h1, by omega⟩
theorem T1 {s : List UInt8} : ∀ (l : List Ln) (a : Int), 0 ≤ a → s ∈ X4 l → a ≤ whereL l s a ∧ whereL l s a ≤ a + Wu l
  | [], a, _, h => by simp [X4] at h
  | x :: l, a, h0, h => by
    have hle := Sv x
    have hsz : ∀ l : List Ln, 0 ≤ Wu l := fun l => by
      induction l with
      | nil => simp [Wu]
      | cons y l ih => have := Sv y; simp only [Wu]; omega
    have := hsz l
    unfold whereL Wu
    split
    · omega
    · rename_i hx
      by_cases hl : x.label = []
      · rw [Ty hl] at h
        have := T1 l (a + W9 x) (by omega) h
        omega
      · rw [Tk hl] at h
        rcases List.mem_cons.1 h with h | h
        · exact absurd h.symm hx
        · have := T1 l (a + W9 x) (by omega) h
          omega
end Go.Proofs.Ytibkcfpcfbodaaa
