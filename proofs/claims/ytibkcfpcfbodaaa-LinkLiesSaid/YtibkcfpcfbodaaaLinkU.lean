/-
  How a law that reads units is called: from its contract to its row. And plain laws: which units an image has.
-/
import Derived.Test.YtibkcfpcfbodaaaRead
import Derived.Test.YtibkcfpcfbodaaaLinkQ
namespace Go.Proofs.Ytibkcfpcfbodaaa
open Go.RowKit Vc
set_option linter.unusedVariables false
set_option linter.unusedSimpArgs false
theorem Il {P : Program} {f : Nat} {W : World} {v : Value} {l : X3} {s : List UInt8} (h : GC P f [.a (.ref 0), .a (.str s)] [(0, .rou l)] 1 [] (.one (.a (.bool true))) [] 1) (hv : I1 W v l) :
    Calls P f #[v, (S1.a (.str s)).den Vk] W fun e W' => e = .returned (.bool true) ∧ Below W.heap.size W W' := by
  have hone : v.oneCell' = true := by obtain ⟨a, cap, ⟨h1, _⟩, _⟩ := hv; rw [show v = _ from h1]; rfl
  have hm := (Mem.none P W [] 0 0 []).named hone (r := .rou l) trivial rfl (fun O' hO => by
    have hO' : O' = [] := List.eq_nil_iff_forall_not_mem.2 fun b hb => by have := hO b hb; cases this
    subst hO'
    exact hv)
  refine (h.run (W1 (fun _ => W3) 0 v) W hm).mono fun e W' hl => ?_
  obtain ⟨ρ', _, rfl, hm'⟩ := hl
  exact ⟨rfl, hm'.toBelow⟩
theorem Rr {ls : List Ln} {s : List UInt8} (hs : s ≠ []) : ls.any (Qc s) = true ↔ Wz s = false ∧ s ∈ Xz ls := by
  simp only [List.any_eq_true, Qc, Bool.and_eq_true, decide_eq_true_eq, Bool.not_eq_true', Xz, List.mem_map, List.mem_filter]
  constructor
  · rintro ⟨y, h1, h2, h3⟩
    exact ⟨h3, y, ⟨h1, by rw [h2]; exact hs⟩, h2⟩
  · rintro ⟨h3, y, ⟨h1, _⟩, h2⟩
    exact ⟨y, h1, h2, h3⟩
theorem Ok {s : List UInt8} : ∀ (l : X3) (k n : Nat), n < l.length → (∀ m, m < l.length → ((l.getD m Ud).2.any (Qc s) = true ↔ m = n)) → Wc l s k = ((k + n : Nat) : Int)
  | [], k, n, h, _ => by simp at h
  | u :: l, k, n, h, hh => by
    unfold Wc
    have h0 := hh 0 (by simp)
    simp only [List.getD_cons_zero] at h0
    by_cases hu : u.2.any (Qc s) = true
    · rw [if_pos hu]
      have := h0.1 hu
      subst this; rfl
    · rw [if_neg hu]
      have hn : n ≠ 0 := fun e => hu (h0.2 e.symm)
      obtain ⟨n', rfl⟩ : ∃ n', n = n' + 1 := ⟨n - 1, by omega⟩
      rw [Ok l (k + 1) n' (by simpa using h) fun m hm => by
        have := hh (m + 1) (by simpa using hm)
        simp only [List.getD_cons_succ] at this
        rw [this]; omega]
      congr 1; omega
theorem O6 {s : List UInt8} : ∀ (l : X3) (k : Nat), (∀ m, m < l.length → ¬ (l.getD m Ud).2.any (Qc s) = true) → Wc l s k = -1
  | [], k, _ => rfl
  | u :: l, k, hh => by
    unfold Wc
    rw [if_neg (by have := hh 0 (by simp); simpa only [List.getD_cons_zero] using this)]
    exact O6 l (k + 1) fun m hm => by
      have := hh (m + 1) (by simpa using hm)
      simpa only [List.getD_cons_succ] using this
theorem Nd {l : X3} (h : (Yn l).2.1 = 0) {s : List UInt8} (hs : s ≠ []) : Wc l s 0 = ((Yn l).1 s).getD (-1 : Int) := by
  have hsp := Ty h s
  cases ho : (Yn l).1 s with
  | none =>
    rw [O6 l 0 fun m hm hany => ?_]; · rfl
    obtain ⟨h1, h2⟩ := (Rr hs).1 hany
    have := (hsp (m : Int)).2 ⟨h1, m, hm, rfl, h2⟩
    rw [ho] at this; cases this
  | some v =>
    obtain ⟨h1, n, hn, rfl, h2⟩ := (hsp v).1 ho
    rw [Ok l 0 n hn fun m hm => ?_]
    · simp
    · rw [Rr hs]
      constructor
      · rintro ⟨_, h3⟩
        have := (hsp (m : Int)).2 ⟨h1, m, hm, rfl, h3⟩
        rw [ho] at this
        have h4 : ((n : Nat) : Int) = (m : Int) := Option.some.inj this
        omega
      · rintro rfl
        exact ⟨h1, h2⟩
theorem refsL_new {own : Own} {u : Int} {sp : List Spot} : ∀ {ls : List Ln} {us us' : List Int}, Vq own u sp ls us = some us' → ∀ v ∈ us', v ∈ us ∨ ∃ y ∈ ls, y.ref ≠ [] ∧ Uz own u sp y.ref = some v
  | [], us, us', h, v, hv => by cases h; exact .inl hv
  | x :: ls, us, us', h, v, hv => by
    simp only [Vq] at h
    split at h
    · rcases refsL_new h v hv with h1 | ⟨y, h1, h2⟩
      · exact .inl h1
      · exact .inr ⟨y, List.mem_cons_of_mem _ h1, h2⟩
    · rename_i hr
      split at h
      · cases h
      · rename_i n hn
        rcases refsL_new h v hv with h1 | ⟨y, h1, h2⟩
        · split at h1
          · exact .inl h1
          · rcases List.mem_append.1 h1 with h1 | h1
            · exact .inl h1
            · simp only [List.mem_singleton] at h1
              subst h1
              exact .inr ⟨x, List.mem_cons_self .., hr, hn⟩
        · exact .inr ⟨y, List.mem_cons_of_mem _ h1, h2⟩
theorem Mj {l : X3} {own : Own} : ∀ (f i : Nat) (us : List Int) (at_ : Int) (g : Own) (sps : List Spot), (lk1 l own f i us at_ g sps).2.1 = 0 →
    (∃ vs, (lk1 l own f i us at_ g sps).1.1 = us ++ vs) ∧ ∀ v ∈ (lk1 l own f i us at_ g sps).1.1, v ∈ us ∨ ∃ w ∈ (lk1 l own f i us at_ g sps).1.1, ∃ y ∈ linesOf l w, y.ref ≠ [] ∧ own y.ref = some v
  | 0, i, us, at_, g, sps, h => by simp [lk1] at h
  | f + 1, i, us, at_, g, sps, h => by
    rw [Tj] at h ⊢
    by_cases h1 : us.length ≤ i
    · rw [if_pos h1]; exact ⟨⟨[], by simp⟩, fun v hv => .inl hv⟩
    · rw [if_neg h1] at h ⊢
      by_cases h2 : (Y1 (linesOf l (us.getD i 0)) at_).2.2.1 ≠ 0
      · rw [if_pos h2] at h; exact absurd h h2
      · rw [if_neg h2] at h ⊢
        cases hr : Vq own (us.getD i 0) (Y1 (linesOf l (us.getD i 0)) at_).1 (linesOf l (us.getD i 0)) us with
        | none => rw [hr] at h; simp at h
        | some us' =>
          rw [hr] at h
          simp only at h ⊢
          obtain ⟨⟨vs, e⟩, ih⟩ := Mj f (i + 1) us' _ _ _ h
          obtain ⟨vs0, e0⟩ := Ua hr
          refine ⟨⟨vs0 ++ vs, by rw [e, e0, List.append_assoc]⟩, fun v hv => ?_⟩
          rcases ih v hv with h3 | h3
          · rcases refsL_new hr v h3 with h4 | ⟨y, h4, h5, h6⟩
            · exact .inl h4
            · have hmem : us.getD i 0 ∈ us := by
                have : i < us.length := by omega
                simp [List.getD, this]
              unfold Uz at h6
              split at h6
              · split at h6
                · cases h6; exact .inl hmem
                · cases h6
              · refine .inr ⟨us.getD i 0, ?_, y, h4, h5, h6⟩
                rw [e, e0]
                exact List.mem_append_left _ (List.mem_append_left _ hmem)
          · exact .inr h3
theorem Oi {l : X3} {own : Own} (hu : ∀ u ∈ l, u.2.length ≤ 40000 ∧ (Y1 u.2 0).2.2.1 = 0) (ho : ∀ s v, own s = some v → 0 ≤ v ∧ v < l.length) : ∀ (f i : Nat) (us : List Int) (at_ : Int) (g : Own) (sps : List Spot), (lk1 l own f i us at_ g sps).2.1 = 0 → Qf l.length us → Qf l.length (lk1 l own f i us at_ g sps).1.1
  | 0, i, us, at_, g, sps, h, _ => by simp [lk1] at h
  | f + 1, i, us, at_, g, sps, h, hus => by
    rw [Tj] at h ⊢
    by_cases h1 : us.length ≤ i
    · rw [if_pos h1]; exact hus
    · rw [if_neg h1] at h ⊢
      by_cases h2 : (Y1 (linesOf l (us.getD i 0)) at_).2.2.1 ≠ 0
      · rw [if_pos h2] at h; exact absurd h h2
      · rw [if_neg h2] at h ⊢
        cases hr : Vq own (us.getD i 0) (Y1 (linesOf l (us.getD i 0)) at_).1 (linesOf l (us.getD i 0)) us with
        | none => rw [hr] at h; simp at h
        | some us' =>
          rw [hr] at h
          simp only at h ⊢
          have hi : i < us.length := by omega
          have hmem : us.getD i 0 ∈ us := by simp [List.getD, hi]
          exact Oi hu ho f (i + 1) us' _ _ _ h (Sl (hus.2 _ hmem) ho hr hus).1
theorem P5 {l : X3} {entry : List UInt8} (h : (Wt l entry).2.1 = 0) : entry ≠ [] ∧ (∀ v ∈ (Wt l entry).1.2.1, 0 ≤ v ∧ v < l.length) ∧ (Wt l entry).1.2.1.Nodup ∧
    ∀ v : Int, v ∈ (Wt l entry).1.2.1 ↔ (Yn l).1 entry = some v ∨ ∃ w ∈ (Wt l entry).1.2.1, ∃ y ∈ linesOf l w, y.ref ≠ [] ∧ (Yn l).1 y.ref = some v := by
  obtain ⟨hc, first, hf, hz, e⟩ := T2 h
  rw [e]
  obtain ⟨hl, hu, ho⟩ := W8 hc
  have hown := Ty hc
  have hne : entry ≠ [] := fun e0 => by
    obtain ⟨_, n, _, _, hs⟩ := (hown _ _).1 hf
    exact Ts hs e0
  generalize (Yn l).1 = own at *
  obtain ⟨⟨vs, hpre⟩, hre⟩ := Mj _ _ _ _ _ _ hz
  obtain ⟨hgood, _⟩ := R5 (l := l) (own := own) 402 0 [first] 0 Wk [] hz (by simp) (by simp [Wr]) (fun k hk => by omega)
  have hus := Oi hu ho 402 0 [first] 0 Wk [] hz ⟨by simp, fun v hv => by
    simp only [List.mem_singleton] at hv; subst hv; exact ho _ _ hf⟩
  generalize (lk1 l own 402 0 [first] 0 Wk []).1.1 = us at *
  refine ⟨hne, hus.2, hus.1, fun v => ⟨fun hv => ?_, ?_⟩⟩
  · rcases hre v hv with h1 | h1
    · simp only [List.mem_singleton] at h1; subst h1; exact .inl hf
    · exact .inr h1
  · rintro (h1 | ⟨w, hw, y, hy, hyr, h2⟩)
    · rw [hf] at h1; cases h1; rw [hpre]; simp
    · obtain ⟨k, hk, rfl⟩ := List.getElem_of_mem hw
      have hg := (hgood k hk).2
      have e1 : us.getD k 0 = us[k] := by simp [List.getD, hk]
      rw [e1] at hg
      have := hg y hy hyr
      split at this
      · rename_i ho1
        have := ((hown _ _).1 h2).1
        rw [ho1] at this; cases this
      · obtain ⟨v', h3, h4⟩ := this
        rw [h2] at h3; cases h3; exact h4
end Go.Proofs.Ytibkcfpcfbodaaa
