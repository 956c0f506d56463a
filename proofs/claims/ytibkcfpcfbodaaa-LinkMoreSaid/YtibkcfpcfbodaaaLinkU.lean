/-
  How a law that reads units is called: from its contract to its row. And plain laws: which units an image has.
-/
import Derived.Test.YtibkcfpcfbodaaaRead
import Derived.Test.YtibkcfpcfbodaaaLinkQ
namespace Go.Proofs.Ytibkcfpcfbodaaa
open Go.RowKit Vc
set_option linter.unusedVariables false

theorem gc_units {P : Program} {f : Nat} {W : World} {v : Value} {l : Units} {s : List UInt8} (h : GC P f [.a (.ref 0), .a (.str s)] [(0, .rou l)] 1 [] (.one (.a (.bool true))) [] 1) (hv : RouAt W v l) :
    Calls P f #[v, (S1.a (.str s)).den nilE] W fun e W' => e = .returned (.bool true) ∧ Below W.heap.size W W' := by
  have hone : v.oneCell' = true := by obtain ⟨a, cap, ⟨h1, _⟩, _⟩ := hv; rw [show v = _ from h1]; rfl
  have hm := (Mem.none P W [] 0 0 []).named hone (r := .rou l) trivial rfl (fun O' hO => by
    have hO' : O' = [] := List.eq_nil_iff_forall_not_mem.2 fun b hb => by have := hO b hb; cases this
    subst hO'
    exact hv)
  refine (h.run (setE (fun _ => nilP) 0 v) W hm).mono fun e W' hl => ?_
  obtain ⟨ρ', _, rfl, hm'⟩ := hl
  exact ⟨rfl, hm'.toBelow⟩

/-! ### which unit has a label -/
theorem any_hasL {ls : List Ln} {s : List UInt8} (hs : s ≠ []) : ls.any (hasL s) = true ↔ ownS s = false ∧ s ∈ labelsL ls := by
  simp only [List.any_eq_true, hasL, Bool.and_eq_true, decide_eq_true_eq, Bool.not_eq_true', labelsL, List.mem_map, List.mem_filter]
  constructor
  · rintro ⟨y, h1, h2, h3⟩
    exact ⟨h3, y, ⟨h1, by rw [h2]; exact hs⟩, h2⟩
  · rintro ⟨h3, y, ⟨h1, _⟩, h2⟩
    exact ⟨y, h1, h2, h3⟩
theorem holderL_at {s : List UInt8} : ∀ (l : Units) (k n : Nat), n < l.length → (∀ m, m < l.length → ((l.getD m unt0).2.any (hasL s) = true ↔ m = n)) → holderL l s k = ((k + n : Nat) : Int)
  | [], k, n, h, _ => by simp at h
  | u :: l, k, n, h, hh => by
    unfold holderL
    have h0 := hh 0 (by simp)
    simp only [List.getD_cons_zero] at h0
    by_cases hu : u.2.any (hasL s) = true
    · rw [if_pos hu]
      have := h0.1 hu
      subst this; rfl
    · rw [if_neg hu]
      have hn : n ≠ 0 := fun e => hu (h0.2 e.symm)
      obtain ⟨n', rfl⟩ : ∃ n', n = n' + 1 := ⟨n - 1, by omega⟩
      rw [holderL_at l (k + 1) n' (by simpa using h) fun m hm => by
        have := hh (m + 1) (by simpa using hm)
        simp only [List.getD_cons_succ] at this
        rw [this]; omega]
      congr 1; omega
theorem holderL_no {s : List UInt8} : ∀ (l : Units) (k : Nat), (∀ m, m < l.length → ¬ (l.getD m unt0).2.any (hasL s) = true) → holderL l s k = -1
  | [], k, _ => rfl
  | u :: l, k, hh => by
    unfold holderL
    rw [if_neg (by have := hh 0 (by simp); simpa only [List.getD_cons_zero] using this)]
    exact holderL_no l (k + 1) fun m hm => by
      have := hh (m + 1) (by simpa using hm)
      simpa only [List.getD_cons_succ] using this
theorem holder_own {l : Units} (h : (checkedS l).2.1 = 0) {s : List UInt8} (hs : s ≠ []) : holderL l s 0 = ((checkedS l).1 s).getD (-1 : Int) := by
  have hsp := own_spec h s
  cases ho : (checkedS l).1 s with
  | none =>
    rw [holderL_no l 0 fun m hm hany => ?_]; · rfl
    obtain ⟨h1, h2⟩ := (any_hasL hs).1 hany
    have := (hsp (m : Int)).2 ⟨h1, m, hm, rfl, h2⟩
    rw [ho] at this; cases this
  | some v =>
    obtain ⟨h1, n, hn, rfl, h2⟩ := (hsp v).1 ho
    rw [holderL_at l 0 n hn fun m hm => ?_]
    · simp
    · rw [any_hasL hs]
      constructor
      · rintro ⟨_, h3⟩
        have := (hsp (m : Int)).2 ⟨h1, m, hm, rfl, h3⟩
        rw [ho] at this
        have h4 : ((n : Nat) : Int) = (m : Int) := Option.some.inj this
        omega
      · rintro rfl
        exact ⟨h1, h2⟩

/-! ### the units of an image are those that are spoken of -/
theorem refsL_new {own : Own} {u : Int} {sp : List Spot} : ∀ {ls : List Ln} {us us' : List Int}, refsL own u sp ls us = some us' → ∀ v ∈ us', v ∈ us ∨ ∃ y ∈ ls, y.ref ≠ [] ∧ refOf own u sp y.ref = some v
  | [], us, us', h, v, hv => by cases h; exact .inl hv
  | x :: ls, us, us', h, v, hv => by
    simp only [refsL] at h
    split at h
    · rcases refsL_new h v hv with h1 | ⟨y, h1, h2⟩
      · exact .inl h1
      · exact .inr ⟨y, List.mem_cons_of_mem _ h1, h2⟩
    · rename_i hr
      split at h
      · cases h
      · rename_i n hn
        rcases refsL_new h v hv with h1 | ⟨y, h1, h2⟩
        · split at h1
          · exact .inl h1
          · rcases List.mem_append.1 h1 with h1 | h1
            · exact .inl h1
            · simp only [List.mem_singleton] at h1
              subst h1
              exact .inr ⟨x, List.mem_cons_self .., hr, hn⟩
        · exact .inr ⟨y, List.mem_cons_of_mem _ h1, h2⟩

theorem lk1_reach {l : Units} {own : Own} : ∀ (f i : Nat) (us : List Int) (at_ : Int) (g : Own) (sps : List Spot), (lk1 l own f i us at_ g sps).2.1 = 0 →
    (∃ vs, (lk1 l own f i us at_ g sps).1.1 = us ++ vs) ∧ ∀ v ∈ (lk1 l own f i us at_ g sps).1.1, v ∈ us ∨ ∃ w ∈ (lk1 l own f i us at_ g sps).1.1, ∃ y ∈ linesOf l w, y.ref ≠ [] ∧ own y.ref = some v
  | 0, i, us, at_, g, sps, h => by simp [lk1] at h
  | f + 1, i, us, at_, g, sps, h => by
    rw [lk1_succ] at h ⊢
    by_cases h1 : us.length ≤ i
    · rw [if_pos h1]; exact ⟨⟨[], by simp⟩, fun v hv => .inl hv⟩
    · rw [if_neg h1] at h ⊢
      by_cases h2 : (spotsS (linesOf l (us.getD i 0)) at_).2.2.1 ≠ 0
      · rw [if_pos h2] at h; exact absurd h h2
      · rw [if_neg h2] at h ⊢
        cases hr : refsL own (us.getD i 0) (spotsS (linesOf l (us.getD i 0)) at_).1 (linesOf l (us.getD i 0)) us with
        | none => rw [hr] at h; simp at h
        | some us' =>
          rw [hr] at h
          simp only at h ⊢
          obtain ⟨⟨vs, e⟩, ih⟩ := lk1_reach f (i + 1) us' _ _ _ h
          obtain ⟨vs0, e0⟩ := refsL_prefix hr
          refine ⟨⟨vs0 ++ vs, by rw [e, e0, List.append_assoc]⟩, fun v hv => ?_⟩
          rcases ih v hv with h3 | h3
          · rcases refsL_new hr v h3 with h4 | ⟨y, h4, h5, h6⟩
            · exact .inl h4
            · have hmem : us.getD i 0 ∈ us := by
                have : i < us.length := by omega
                simp [List.getD, this]
              unfold refOf at h6
              split at h6
              · split at h6
                · cases h6; exact .inl hmem
                · cases h6
              · refine .inr ⟨us.getD i 0, ?_, y, h4, h5, h6⟩
                rw [e, e0]
                exact List.mem_append_left _ (List.mem_append_left _ hmem)
          · exact .inr h3

theorem lk1_us {l : Units} {own : Own} (hu : ∀ u ∈ l, u.2.length ≤ 40000 ∧ (spotsS u.2 0).2.2.1 = 0) (ho : ∀ s v, own s = some v → 0 ≤ v ∧ v < l.length) : ∀ (f i : Nat) (us : List Int) (at_ : Int) (g : Own) (sps : List Spot), (lk1 l own f i us at_ g sps).2.1 = 0 → UsOk l.length us → UsOk l.length (lk1 l own f i us at_ g sps).1.1
  | 0, i, us, at_, g, sps, h, _ => by simp [lk1] at h
  | f + 1, i, us, at_, g, sps, h, hus => by
    rw [lk1_succ] at h ⊢
    by_cases h1 : us.length ≤ i
    · rw [if_pos h1]; exact hus
    · rw [if_neg h1] at h ⊢
      by_cases h2 : (spotsS (linesOf l (us.getD i 0)) at_).2.2.1 ≠ 0
      · rw [if_pos h2] at h; exact absurd h h2
      · rw [if_neg h2] at h ⊢
        cases hr : refsL own (us.getD i 0) (spotsS (linesOf l (us.getD i 0)) at_).1 (linesOf l (us.getD i 0)) us with
        | none => rw [hr] at h; simp at h
        | some us' =>
          rw [hr] at h
          simp only at h ⊢
          have hi : i < us.length := by omega
          have hmem : us.getD i 0 ∈ us := by simp [List.getD, hi]
          exact lk1_us hu ho f (i + 1) us' _ _ _ h (refsL_ok (hus.2 _ hmem) ho hr hus).1

/-- a unit is in the image where the entry is in it, or a unit there speaks of it -/
theorem image_units {l : Units} {entry : List UInt8} (h : (linkS l entry).2.1 = 0) : entry ≠ [] ∧ (∀ v ∈ (linkS l entry).1.2.1, 0 ≤ v ∧ v < l.length) ∧ (linkS l entry).1.2.1.Nodup ∧
    ∀ v : Int, v ∈ (linkS l entry).1.2.1 ↔ (checkedS l).1 entry = some v ∨ ∃ w ∈ (linkS l entry).1.2.1, ∃ y ∈ linesOf l w, y.ref ≠ [] ∧ (checkedS l).1 y.ref = some v := by
  obtain ⟨hc, first, hf, hz, e⟩ := linkS_ok h
  rw [e]
  obtain ⟨hl, hu, ho⟩ := checkedS_ok hc
  have hown := own_spec hc
  have hne : entry ≠ [] := fun e0 => by
    obtain ⟨_, n, _, _, hs⟩ := (hown _ _).1 hf
    exact labelsL_ne hs e0
  generalize (checkedS l).1 = own at *
  obtain ⟨⟨vs, hpre⟩, hre⟩ := lk1_reach _ _ _ _ _ _ hz
  obtain ⟨hgood, _⟩ := lk1_good (l := l) (own := own) 402 0 [first] 0 own0 [] hz (by simp) (by simp [offs]) (fun k hk => by omega)
  have hus := lk1_us hu ho 402 0 [first] 0 own0 [] hz ⟨by simp, fun v hv => by
    simp only [List.mem_singleton] at hv; subst hv; exact ho _ _ hf⟩
  generalize (lk1 l own 402 0 [first] 0 own0 []).1.1 = us at *
  refine ⟨hne, hus.2, hus.1, fun v => ⟨fun hv => ?_, ?_⟩⟩
  · rcases hre v hv with h1 | h1
    · simp only [List.mem_singleton] at h1; subst h1; exact .inl hf
    · exact .inr h1
  · rintro (h1 | ⟨w, hw, y, hy, hyr, h2⟩)
    · rw [hf] at h1; cases h1; rw [hpre]; simp
    · obtain ⟨k, hk, rfl⟩ := List.getElem_of_mem hw
      have hg := (hgood k hk).2
      have e1 : us.getD k 0 = us[k] := by simp [List.getD, hk]
      rw [e1] at hg
      have := hg y hy hyr
      split at this
      · rename_i ho1
        have := ((hown _ _).1 h2).1
        rw [ho1] at this; cases this
      · obtain ⟨v', h3, h4⟩ := this
        rw [h2] at h3; cases h3; exact h4
end Go.Proofs.Ytibkcfpcfbodaaa
