/-
  Plain laws of linking: where labels lie, what is known of a name, what lines are as instructions and as words. No program in sight.
-/
import Derived.Test.YtibkcfpcfbodaaaLinkF
import Derived.Test.YtibkcfpcfbodaaaAsmE
import Derived.Test.YtibkcfpcfbodaaaPlain
namespace Go.Proofs.Ytibkcfpcfbodaaa
open Go.RowKit Vc
set_option linter.unusedVariables false

def spotsOf : List Ln → Int → List Spot
  | [], _ => []
  | x :: l, a => if x.label ≠ [] then ⟨x.label, a⟩ :: spotsOf l a else spotsOf l (a + longL x)
theorem labelsL_yes {x : Ln} {l : List Ln} (h : x.label ≠ []) : labelsL (x :: l) = x.label :: labelsL l := by simp [labelsL, h]
theorem labelsL_no {x : Ln} {l : List Ln} (h : x.label = []) : labelsL (x :: l) = labelsL l := by simp [labelsL, h]
theorem labelsL_ne : ∀ {l : List Ln} {s : List UInt8}, s ∈ labelsL l → s ≠ []
  | l, s, h => by
    simp only [labelsL, List.mem_map, List.mem_filter, decide_eq_true_eq] at h
    obtain ⟨x, ⟨_, h1⟩, rfl⟩ := h
    exact h1

theorem spotsL_spec : ∀ (l : List Ln) (k : Nat) (a : Int) (seen : List (List UInt8)) (acc : List Spot), (spotsL l k a seen acc).2.2.1 = 0 →
    (spotsL l k a seen acc).1 = acc ++ spotsOf l a ∧ (labelsL l).Nodup ∧ ∀ s ∈ labelsL l, s ∉ seen
  | [], k, a, seen, acc, h => by simp [spotsL, spotsOf, labelsL]
  | x :: l, k, a, seen, acc, h => by
    unfold spotsL at h ⊢
    split at h
    · rename_i h1; exact absurd h h1
    · rename_i h1
      rw [if_neg h1]
      split at h
      · rename_i hl
        rw [if_pos hl]
        split at h
        · exact absurd h (by simp)
        · rename_i hs
          rw [if_neg hs]
          obtain ⟨g1, g2, g3⟩ := spotsL_spec l _ _ _ _ h
          rw [labelsL_yes hl]
          refine ⟨by rw [g1]; simp [spotsOf, hl], List.nodup_cons.2 ⟨fun hm => by have := g3 _ hm; simp at this, g2⟩, fun s hs' => ?_⟩
          rcases List.mem_cons.1 hs' with rfl | hs'
          · exact hs
          · have := g3 _ hs'
            simp only [List.mem_cons, not_or] at this
            exact this.2
      · rename_i hl
        rw [if_neg hl]
        split at h
        · exact absurd h (by simp)
        · rename_i hs
          rw [if_neg hs]
          obtain ⟨g1, g2, g3⟩ := spotsL_spec l _ _ _ _ h
          have hl' : x.label = [] := by simpa using hl
          rw [labelsL_no hl']
          exact ⟨by rw [g1]; simp [spotsOf, hl'], g2, g3⟩
theorem spots_spec {l : List Ln} {a : Int} (h : (spotsS l a).2.2.1 = 0) : (spotsS l a).1 = spotsOf l a ∧ (labelsL l).Nodup := by
  have := spotsL_spec l 0 a [] [] h
  exact ⟨by simpa [spotsS] using this.1, this.2.1⟩
theorem spotsOf_names : ∀ (l : List Ln) (a : Int), (spotsOf l a).map Spot.name = labelsL l
  | [], a => rfl
  | x :: l, a => by
    unfold spotsOf
    by_cases h : x.label ≠ []
    · rw [if_pos h, labelsL_yes h, List.map_cons, spotsOf_names l]
    · rw [if_neg h, labelsL_no (by simpa using h), spotsOf_names l]

def atS : List Spot → List UInt8 → Int
  | [], _ => 0
  | y :: l, s => if y.name = s then y.at_ else atS l s
theorem idxP_atS (s : List UInt8) : ∀ (sp : List Spot) (k : Nat), s ∈ sp.map Spot.name → ∃ i : Nat, idxP (fun y : Spot => decide (y.name = s)) sp k = ((k + i : Nat) : Int) ∧ (sp.getD i spot0).at_ = atS sp s
  | [], k, h => by simp at h
  | y :: sp, k, h => by
    by_cases hy : y.name = s
    · exact ⟨0, by simp [idxP, hy], by simp [atS, hy]⟩
    · obtain ⟨i, h1, h2⟩ := idxP_atS s sp (k + 1) (by
        rcases List.mem_cons.1 h with h | h
        · exact absurd h.symm hy
        · exact h)
      refine ⟨i + 1, ?_, by simpa [atS, hy] using h2⟩
      simp only [idxP, hy, decide_false, Bool.false_eq_true, if_false, h1]
      congr 1; omega
theorem atS_where {s : List UInt8} (hs : s ≠ []) : ∀ (l : List Ln) (a : Int), s ∈ labelsL l → atS (spotsOf l a) s = whereL l s a
  | [], a, h => by simp [labelsL] at h
  | x :: l, a, h => by
    unfold spotsOf whereL
    by_cases hl : x.label ≠ []
    · rw [if_pos hl]
      simp only [atS]
      by_cases hx : x.label = s
      · rw [if_pos hx, if_pos hx]
      · rw [if_neg hx, if_neg hx, longL_label hl, Int.add_zero]
        rw [labelsL_yes hl] at h
        rcases List.mem_cons.1 h with h | h
        · exact absurd h.symm hx
        · exact atS_where hs l a h
    · have hl' : x.label = [] := by simpa using hl
      rw [if_neg hl, if_neg (by rw [hl']; exact fun e => hs e.symm)]
      rw [labelsL_no hl'] at h
      exact atS_where hs l _ h

theorem putA_spec : ∀ (sp : List Spot) (g : Own) (s : List UInt8), (sp.map Spot.name).Nodup → putA sp g s = if s ∈ sp.map Spot.name then some (atS sp s) else g s
  | [], g, s, h => by simp [putA]
  | y :: sp, g, s, h => by
    simp only [List.map_cons, List.nodup_cons] at h
    simp only [putA]
    rw [putA_spec sp _ s h.2]
    simp only [List.map_cons, List.mem_cons, atS]
    by_cases hy : s = y.name
    · subst hy
      rw [if_neg h.1]; simp
    · by_cases hm : s ∈ sp.map Spot.name
      · rw [if_pos hm, if_pos (.inr hm), if_neg (fun e => hy e.symm)]
      · rw [if_neg hm, if_neg hy, if_neg (fun h' => h'.elim hy hm)]
theorem putG_spec : ∀ (sp : List Spot) (g : Own) (s : List UInt8), (sp.map Spot.name).Nodup → putG sp g s = if ownS s = false ∧ s ∈ sp.map Spot.name then some (atS sp s) else g s
  | [], g, s, h => by simp [putG]
  | y :: sp, g, s, h => by
    simp only [List.map_cons, List.nodup_cons] at h
    simp only [putG]
    rw [putG_spec sp _ s h.2]
    have e : (if ownS y.name = true then g else fun t => if t = y.name then some y.at_ else g t) s = if ownS y.name = true then g s else if s = y.name then some y.at_ else g s := by split <;> rfl
    rw [e]
    simp only [List.map_cons, List.mem_cons, atS]
    by_cases hy : s = y.name
    · subst hy
      rw [if_neg (fun h' => h.1 h'.2)]
      by_cases ho : ownS y.name = true
      · rw [if_pos ho, if_neg (fun h' => absurd (ho.symm.trans h'.1) (by decide))]
      · rw [if_neg ho, if_pos rfl, if_pos ⟨by simpa using ho, .inl rfl⟩, if_pos rfl]
    · rw [if_neg hy]
      have e2 : (if ownS y.name = true then g s else g s) = g s := by split <;> rfl
      rw [e2]
      by_cases hm : ownS s = false ∧ s ∈ sp.map Spot.name
      · rw [if_pos hm, if_pos ⟨hm.1, .inr hm.2⟩, if_neg (fun e => hy e.symm)]
      · rw [if_neg hm, if_neg (by
          rintro ⟨h1, h2 | h2⟩
          · exact hy h2
          · exact hm ⟨h1, h2⟩)]

/-! ### which unit has a label -/
theorem putSpots_spec {u : Int} : ∀ {sp : List Spot} {f f' : Own}, putSpots u sp f = some f' → ∀ s, f' s = (if ownS s = false ∧ s ∈ sp.map Spot.name then some u else f s) ∧ (ownS s = false → s ∈ sp.map Spot.name → f s = none)
  | [], f, f', h, s => by cases h; simp
  | y :: sp, f, f', h, s => by
    simp only [putSpots] at h
    split at h
    · rename_i ho
      obtain ⟨g1, g2⟩ := putSpots_spec h s
      have : ∀ h : ownS s = false, s ≠ y.name := fun h e => by rw [e, ho] at h; cases h
      refine ⟨?_, fun h1 h2 => ?_⟩
      · rw [g1]
        by_cases hm : ownS s = false ∧ s ∈ sp.map Spot.name
        · rw [if_pos hm, if_pos ⟨hm.1, List.mem_cons_of_mem _ hm.2⟩]
        · rw [if_neg hm, if_neg (by
            rintro ⟨h1, h2⟩
            rcases List.mem_cons.1 h2 with h2 | h2
            · exact this h1 h2
            · exact hm ⟨h1, h2⟩)]
      · rcases List.mem_cons.1 h2 with h2 | h2
        · exact absurd h2 (this h1)
        · exact g2 h1 h2
    · rename_i ho
      split at h
      · cases h
      · rename_i hn
        have hno : f y.name = none := by simpa using hn
        obtain ⟨g1, g2⟩ := putSpots_spec h s
        refine ⟨?_, fun h1 h2 => ?_⟩
        · rw [g1]
          by_cases hy : s = y.name
          · subst hy
            have ho' : ownS y.name = false := by simpa using ho
            simp [ho']
          · by_cases hm : ownS s = false ∧ s ∈ sp.map Spot.name
            · rw [if_pos hm, if_pos ⟨hm.1, List.mem_cons_of_mem _ hm.2⟩]
            · rw [if_neg hm, if_neg hy, if_neg (by
                rintro ⟨h1, h2⟩
                rcases List.mem_cons.1 h2 with h2 | h2
                · exact hy h2
                · exact hm ⟨h1, h2⟩)]
        · rcases List.mem_cons.1 h2 with h2 | h2
          · rw [h2]; exact hno
          · have := g2 h1 h2
            split at this
            · cases this
            · exact this

/-- own: the unit that has a label of all -/
theorem checkedL_spec : ∀ (l : Units) (k : Nat) (f : Own), (checkedL l k f).2.1 = 0 → ∀ s v, (checkedL l k f).1 s = some v ↔ f s = some v ∨ (ownS s = false ∧ ∃ n : Nat, n < l.length ∧ v = ((k + n : Nat) : Int) ∧ s ∈ labelsL (l.getD n unt0).2)
  | [], k, f, h, s, v => by simp [checkedL]
  | x :: l, k, f, h, s, v => by
    unfold checkedL at h ⊢
    split at h
    · simp at h
    · rename_i h1
      rw [if_neg h1]
      split at h
      · rename_i h2; exact absurd h h2
      · rename_i h2
        rw [if_neg h2]
        have h2' : (spotsS x.2 0).2.2.1 = 0 := by simpa using h2
        split at h
        · simp at h
        · rename_i f' hf'
          have ih := checkedL_spec l (k + 1) f' h s v
          obtain ⟨g1, g2⟩ := putSpots_spec hf' s
          rw [(spots_end h2').2] at g1 g2
          rw [ih, g1]
          constructor
          · rintro (hA | ⟨ho, n, hn, rfl, hs⟩)
            · split at hA
              · rename_i hm
                cases hA
                exact .inr ⟨hm.1, 0, by simp, by simp, by simpa using hm.2⟩
              · exact .inl hA
            · exact .inr ⟨ho, n + 1, by simp; omega, by congr 1; omega, by simpa using hs⟩
          · rintro (hA | ⟨ho, n, hn, rfl, hs⟩)
            · left
              rw [if_neg (fun hm => by rw [g2 hm.1 hm.2] at hA; cases hA)]
              exact hA
            · cases n with
              | zero => left; rw [if_pos ⟨ho, by simpa using hs⟩]; rfl
              | succ n => exact .inr ⟨ho, n, by simpa using hn, by congr 1; omega, by simpa using hs⟩
theorem own_spec {l : Units} (h : (checkedS l).2.1 = 0) (s : List UInt8) (v : Int) : (checkedS l).1 s = some v ↔ (ownS s = false ∧ ∃ n : Nat, n < l.length ∧ v = (n : Int) ∧ s ∈ labelsL (l.getD n unt0).2) := by
  unfold checkedS at h ⊢
  split at h
  · simp at h
  · rename_i hl
    rw [if_neg hl, checkedL_spec l 0 own0 h s v]
    simp [own0]

/-! ### lines as instructions -/
def res1 (h : List UInt8 → Int × Bool) (x : Ln) : Ins := if x.ref ≠ [] then ⟨x.ins.op, x.ins.d, x.ins.s, andI .i64 (h x.ref).1 65535⟩ else x.ins
def resI (h : List UInt8 → Int × Bool) (l : List Ln) : List Ins := (l.filter fun x => decide (x.label = [])).map (res1 h)
theorem resolveL_of {h : List UInt8 → Int × Bool} : ∀ (l : List Ln) (k : Nat) (acc : List Ins), (∀ x ∈ l, x.label = [] → x.ref ≠ [] → (h x.ref).2 = true) → resolveL h l k acc = (acc ++ resI h l, 0, 0)
  | [], k, acc, hk => by simp [resolveL, resI]
  | x :: l, k, acc, hk => by
    have ih := fun acc => resolveL_of l (k + 1) acc fun y hy => hk y (List.mem_cons_of_mem _ hy)
    unfold resolveL
    by_cases hl : x.label ≠ []
    · rw [if_pos hl, ih]; simp [resI, hl]
    · have hl' : x.label = [] := by simpa using hl
      rw [if_neg hl]
      by_cases hr : x.ref ≠ []
      · rw [if_pos hr, if_neg (by rw [hk x (List.mem_cons_self ..) hl' hr]; decide), ih]
        simp [resI, hl', res1, hr]
      · rw [if_neg hr, ih]
        simp only [ne_eq, Decidable.not_not] at hr
        simp [resI, hl', res1, hr]
theorem resI_congr {h h' : List UInt8 → Int × Bool} {l : List Ln} (hk : ∀ x ∈ l, x.label = [] → x.ref ≠ [] → (h x.ref).1 = (h' x.ref).1) : resI h l = resI h' l := by
  unfold resI
  refine List.map_congr_left fun x hx => ?_
  simp only [List.mem_filter, decide_eq_true_eq] at hx
  unfold res1
  split
  · rename_i hr; rw [hk x hx.1 hx.2 hr]
  · rfl

theorem wrongI_imm {x : Ins} {n : Int} (h : wrongI x = 0) (h0 : 0 ≤ n) (h1 : n ≤ 65535) : wrongI ⟨x.op, x.d, x.s, n⟩ = 0 := by
  unfold wrongI at h ⊢
  split at h
  · omega
  · rename_i hk
    rw [if_neg hk]
    split at h
    · omega
    · rename_i hw
      rw [if_neg]
      simp only [Bool.or_eq_true, Bool.and_eq_true, not_or] at hw ⊢
      refine ⟨hw.1, hw.2.1, fun hi => ?_⟩
      simp only [wordly] at hi
      simp at hi
      omega
theorem res1_ok {h : List UInt8 → Int × Bool} {x : Ln} (hw : wrongL x = 0) (hl : x.label = []) (hr : x.ref ≠ [] → 0 ≤ (h x.ref).1 ∧ (h x.ref).1 ≤ 1000000) : wrongI (res1 h x) = 0 ∧ ((wordsI (res1 h x)).length : Int) = longL x := by
  have h1 := (wrongL_ins hw hl).1
  have hlen : ∀ n, ((wordsI ⟨x.ins.op, x.ins.d, x.ins.s, n⟩).length : Int) = longL x := fun n => by
    have e : longL x = if hasI x.ins.op then 2 else 1 := by unfold longL; rw [if_neg (by simpa using hl)]
    rw [e]
    unfold wordsI
    cases hasI x.ins.op <;> simp
  unfold res1
  split
  · rename_i hrf
    obtain ⟨g0, g1⟩ := hr hrf
    refine ⟨?_, hlen _⟩
    rw [andFFFF _ g0 (by omega)]
    exact wrongI_imm h1 (by omega) (by omega)
  · exact ⟨h1, hlen x.ins.imm⟩
theorem resI_ok {h : List UInt8 → Int × Bool} : ∀ (l : List Ln), (∀ x ∈ l, wrongL x = 0) → (∀ x ∈ l, x.ref ≠ [] → 0 ≤ (h x.ref).1 ∧ (h x.ref).1 ≤ 1000000) → (∀ x ∈ resI h l, wrongI x = 0) ∧ ((wordsL (resI h l)).length : Int) = sizeL l
  | [], _, _ => by simp [resI, wordsL, sizeL]
  | x :: l, hw, hr => by
    obtain ⟨h1, h2⟩ := resI_ok l (fun y hy => hw y (List.mem_cons_of_mem _ hy)) (fun y hy => hr y (List.mem_cons_of_mem _ hy))
    by_cases hl : x.label = []
    · have e : resI h (x :: l) = res1 h x :: resI h l := by simp [resI, hl]
      obtain ⟨g1, g2⟩ := res1_ok (h := h) (hw x (List.mem_cons_self ..)) hl (hr x (List.mem_cons_self ..))
      rw [e]
      refine ⟨fun y hy => ?_, ?_⟩
      · rcases List.mem_cons.1 hy with rfl | hy
        · exact g1
        · exact h1 y hy
      · rw [wordsL_cons, List.length_append, sizeL]; omega
    · have e : resI h (x :: l) = resI h l := by simp [resI, hl]
      rw [e, sizeL, longL_label hl]
      exact ⟨h1, by omega⟩

theorem whereL_rng {s : List UInt8} : ∀ (l : List Ln) (a : Int), 0 ≤ a → s ∈ labelsL l → a ≤ whereL l s a ∧ whereL l s a ≤ a + sizeL l
  | [], a, _, h => by simp [labelsL] at h
  | x :: l, a, h0, h => by
    have hle := longL_le x
    have hsz : ∀ l : List Ln, 0 ≤ sizeL l := fun l => by
      induction l with
      | nil => simp [sizeL]
      | cons y l ih => have := longL_le y; simp only [sizeL]; omega
    have := hsz l
    unfold whereL sizeL
    split
    · omega
    · rename_i hx
      by_cases hl : x.label = []
      · rw [labelsL_no hl] at h
        have := whereL_rng l (a + longL x) (by omega) h
        omega
      · rw [labelsL_yes hl] at h
        rcases List.mem_cons.1 h with h | h
        · exact absurd h.symm hx
        · have := whereL_rng l (a + longL x) (by omega) h
          omega
end Go.Proofs.Ytibkcfpcfbodaaa
