/-
  A part of the proofs of this seat's laws: a step on the way. It has no conditions of its own.
-/
import Derived.Test.YtccjjcdjgibilaaDoorAsmF
import Derived.Test.YtccjjcdjgibilaaDoorAsmD
import Derived.Test.YtccjjcdjgibilaaDoorPlain
namespace Go.Proofs.YtccjjcdjgibilaaDoor
open Go.RowKit Vc
set_option linter.unusedVariables false
set_option linter.unusedSimpArgs false
def Ud : List Ln → Int
  | [] => 0
  | x :: l => Vx x + Ud l
def Wb (l : List Ln) : List (List UInt8) := (l.filter fun x => decide (x.label ≠ [])).map Ln.label
def U9 : List Ln → Int → List Spot
  | [], _ => []
  | x :: l, a => if x.label ≠ [] then ⟨x.label, a⟩ :: U9 l a else U9 l (a + Vx x)
theorem U2 {x : Ln} {l : List Ln} (h : x.label ≠ []) : Wb (x :: l) = x.label :: Wb l := by simp [Wb, h]
theorem Ti {x : Ln} {l : List Ln} (h : x.label = []) : Wb (x :: l) = Wb l := by simp [Wb, h]
theorem labelsL_ne : ∀ {l : List Ln} {s : List UInt8}, s ∈ Wb l → s ≠ []
  | l, s, h => by
    simp only [Wb, List.mem_map, List.mem_filter, decide_eq_true_eq] at h
    obtain ⟨x, ⟨_, h1⟩, rfl⟩ := h
    exact h1
theorem Qb : ∀ (l : List Ln) (k : Nat) (a : Int) (seen : List (List UInt8)) (acc : List Spot), (Va l k a seen acc).2.2.1 = 0 → (Va l k a seen acc).2.1 = a + Ud l ∧ (Va l k a seen acc).1.map Spot.name = acc.map Spot.name ++ Wb l
  | [], k, a, seen, acc, h => by simp [Va, Ud, Wb]
  | x :: l, k, a, seen, acc, h => by
    unfold Va at h ⊢
    split at h
    · rename_i h1; exact absurd h h1
    · rename_i h1
      rw [if_neg h1]
      split at h
      · rename_i hl
        rw [if_pos hl]
        split at h
        · exact absurd h (by simp)
        · rename_i hs
          rw [if_neg hs]
          obtain ⟨g1, g2⟩ := Qb l _ _ _ _ h
          refine ⟨by rw [g1, Ud, Uy hl]; omega, ?_⟩
          rw [g2]; simp [Wb, hl]
      · rename_i hl
        rw [if_neg hl]
        split at h
        · exact absurd h (by simp)
        · rename_i hs
          rw [if_neg hs]
          obtain ⟨g1, g2⟩ := Qb l _ _ _ _ h
          refine ⟨by rw [g1, Ud]; omega, ?_⟩
          rw [g2]
          have hl' : x.label = [] := by simpa using hl
          simp [Wb, hl']
theorem Ib {l : List Ln} {a : Int} (h : (Wo l a).2.2.1 = 0) : (Wo l a).2.1 = a + Ud l ∧ (Wo l a).1.map Spot.name = Wb l := by
  have := Qb l 0 a [] [] h
  simpa [Wo] using this
theorem Rm : ∀ (l : List Ln) (k : Nat) (a : Int) (seen : List (List UInt8)) (acc : List Spot), (Va l k a seen acc).2.2.1 = 0 →
    (Va l k a seen acc).1 = acc ++ U9 l a ∧ (Wb l).Nodup ∧ ∀ s ∈ Wb l, s ∉ seen
  | [], k, a, seen, acc, h => by simp [Va, U9, Wb]
  | x :: l, k, a, seen, acc, h => by
    unfold Va at h ⊢
    split at h
    · rename_i h1; exact absurd h h1
    · rename_i h1
      rw [if_neg h1]
      split at h
      · rename_i hl
        rw [if_pos hl]
        split at h
        · exact absurd h (by simp)
        · rename_i hs
          rw [if_neg hs]
          obtain ⟨g1, g2, g3⟩ := Rm l _ _ _ _ h
          rw [U2 hl]
          refine ⟨by rw [g1]; simp [U9, hl], List.nodup_cons.2 ⟨fun hm => by have := g3 _ hm; simp at this, g2⟩, fun s hs' => ?_⟩
          rcases List.mem_cons.1 hs' with rfl | hs'
          · exact hs
          · have := g3 _ hs'
            simp only [List.mem_cons, not_or] at this
            exact this.2
      · rename_i hl
        rw [if_neg hl]
        split at h
        · exact absurd h (by simp)
        · rename_i hs
          rw [if_neg hs]
          obtain ⟨g1, g2, g3⟩ := Rm l _ _ _ _ h
          have hl' : x.label = [] := by simpa using hl
          rw [Ti hl']
          exact ⟨by rw [g1]; simp [U9, hl'], g2, g3⟩
theorem Jj {l : List Ln} {a : Int} (h : (Wo l a).2.2.1 = 0) : (Wo l a).1 = U9 l a ∧ (Wb l).Nodup := by
  have := Rm l 0 a [] [] h
  exact ⟨by simpa [Wo] using this.1, this.2.1⟩
theorem Tm : ∀ (l : List Ln) (a : Int), (U9 l a).map Spot.name = Wb l
  | [], a => rfl
  | x :: l, a => by
    unfold U9
    by_cases h : x.label ≠ []
    · rw [if_pos h, U2 h, List.map_cons, Tm l]
    · rw [if_neg h, Ti (by simpa using h), Tm l]
def atS : List Spot → List UInt8 → Int
  | [], _ => 0
  | y :: l, s => if y.name = s then y.at_ else atS l s
theorem Q5 {s : List UInt8} (hs : s ≠ []) : ∀ (l : List Ln) (a : Int), s ∈ Wb l → atS (U9 l a) s = whereL l s a
  | [], a, h => by simp [Wb] at h
  | x :: l, a, h => by
    unfold U9 whereL
    by_cases hl : x.label ≠ []
    · rw [if_pos hl]
      simp only [atS]
      by_cases hx : x.label = s
      · rw [if_pos hx, if_pos hx]
      · rw [if_neg hx, if_neg hx, Uy hl, Int.add_zero]
        rw [U2 hl] at h
        rcases List.mem_cons.1 h with h | h
        · exact absurd h.symm hx
        · exact Q5 hs l a h
    · have hl' : x.label = [] := by simpa using hl
      rw [if_neg hl, if_neg (by rw [hl']; exact fun e => hs e.symm)]
      rw [Ti hl'] at h
      exact Q5 hs l _ h
theorem N9 : ∀ (sp : List Spot) (g : Own) (s : List UInt8), (sp.map Spot.name).Nodup → T8 sp g s = if s ∈ sp.map Spot.name then some (atS sp s) else g s
  | [], g, s, h => by simp [T8]
  | y :: sp, g, s, h => by
    simp only [List.map_cons, List.nodup_cons] at h
    simp only [T8]
    rw [N9 sp _ s h.2]
    simp only [List.map_cons, List.mem_cons, atS]
    by_cases hy : s = y.name
    · subst hy
      rw [if_neg h.1]; simp
    · by_cases hm : s ∈ sp.map Spot.name
      · rw [if_pos hm, if_pos (.inr hm), if_neg (fun e => hy e.symm)]
      · rw [if_neg hm, if_neg hy, if_neg (fun h' => h'.elim hy hm)]
def Pz (h : List UInt8 → Int × Bool) (x : Ln) : Ins := if x.ref ≠ [] then ⟨x.ins.op, x.ins.d, x.ins.s, Ng .i64 (h x.ref).1 65535⟩ else x.ins
def Um (h : List UInt8 → Int × Bool) (l : List Ln) : List Ins := (l.filter fun x => decide (x.label = [])).map (Pz h)
theorem Pu {h : List UInt8 → Int × Bool} : ∀ (l : List Ln) (k : Nat) (acc : List Ins), (∀ x ∈ l, x.label = [] → x.ref ≠ [] → (h x.ref).2 = true) → Vd h l k acc = (acc ++ Um h l, 0, 0)
  | [], k, acc, hk => by simp [Vd, Um]
  | x :: l, k, acc, hk => by
    have ih := fun acc => Pu l (k + 1) acc fun y hy => hk y (List.mem_cons_of_mem _ hy)
    unfold Vd
    by_cases hl : x.label ≠ []
    · rw [if_pos hl, ih]; simp [Um, hl]
    · have hl' : x.label = [] := by simpa using hl
      rw [if_neg hl]
      by_cases hr : x.ref ≠ []
      · rw [if_pos hr, if_neg (by rw [hk x (List.mem_cons_self ..) hl' hr]; decide), ih]
        simp [Um, hl', Pz, hr]
      · rw [if_neg hr, ih]
        simp only [ne_eq, Decidable.not_not] at hr
        simp [Um, hl', Pz, hr]
theorem Jb {x : Ins} {n : Int} (h : X9 x = 0) (h0 : 0 ≤ n) (h1 : n ≤ 65535) : X9 ⟨x.op, x.d, x.s, n⟩ = 0 := by
  unfold X9 at h ⊢
  split at h
  · omega
  · rename_i hk
    rw [if_neg hk]
    split at h
    · omega
    · rename_i hw
      rw [if_neg]
      simp only [Bool.or_eq_true, Bool.and_eq_true, not_or] at hw ⊢
      refine ⟨hw.1, hw.2.1, fun hi => ?_⟩
      simp only [V6] at hi
      simp at hi
      omega
theorem res1_ok {h : List UInt8 → Int × Bool} {x : Ln} (hw : Vm x = 0) (hl : x.label = []) (hr : x.ref ≠ [] → 0 ≤ (h x.ref).1 ∧ (h x.ref).1 ≤ 1000000) : X9 (Pz h x) = 0 ∧ ((W7 (Pz h x)).length : Int) = Vx x := by
  have h1 := (Th hw hl).1
  have hlen : ∀ n, ((W7 ⟨x.ins.op, x.ins.d, x.ins.s, n⟩).length : Int) = Vx x := fun n => by
    have e : Vx x = if hasI x.ins.op then 2 else 1 := by unfold Vx; rw [if_neg (by simpa using hl)]
    rw [e]
    unfold W7
    cases hasI x.ins.op <;> simp
  unfold Pz
  split
  · rename_i hrf
    obtain ⟨g0, g1⟩ := hr hrf
    refine ⟨?_, hlen _⟩
    rw [Jq _ g0 (by omega)]
    exact Jb h1 (by omega) (by omega)
  · exact ⟨h1, hlen x.ins.imm⟩
theorem Jm {h : List UInt8 → Int × Bool} : ∀ (l : List Ln), (∀ x ∈ l, Vm x = 0) → (∀ x ∈ l, x.ref ≠ [] → 0 ≤ (h x.ref).1 ∧ (h x.ref).1 ≤ 1000000) → (∀ x ∈ Um h l, X9 x = 0) ∧ ((wordsL (Um h l)).length : Int) = Ud l
  | [], _, _ => by simp [Um, wordsL, Ud]
  | x :: l, hw, hr => by
    obtain ⟨h1, h2⟩ := Jm l (fun y hy => hw y (List.mem_cons_of_mem _ hy)) (fun y hy => hr y (List.mem_cons_of_mem _ hy))
    by_cases hl : x.label = []
    · have e : Um h (x :: l) = Pz h x :: Um h l := by simp [Um, hl]
      obtain ⟨g1, g2⟩ := res1_ok (h := h) (hw x (List.mem_cons_self ..)) hl (hr x (List.mem_cons_self ..))
      rw [e]
      refine ⟨fun y hy => ?_, ?_⟩
      · rcases List.mem_cons.1 hy with rfl | hy
        · exact g1
        · exact h1 y hy
      · rw [V0, List.length_append, Ud]; omega
    · have e : Um h (x :: l) = Um h l := by simp [Um, hl]
      rw [e, Ud, Uy hl]
      exact ⟨h1, by omega⟩
theorem Sw {s : List UInt8} : ∀ (l : List Ln) (a : Int), 0 ≤ a → s ∈ Wb l → a ≤ whereL l s a ∧ whereL l s a ≤ a + Ud l
  | [], a, _, h => by simp [Wb] at h
  | x :: l, a, h0, h => by
    have hle := Ts x
    have hsz : ∀ l : List Ln, 0 ≤ Ud l := fun l => by
      induction l with
      | nil => simp [Ud]
      | cons y l ih => have := Ts y; simp only [Ud]; omega
    have := hsz l
    unfold whereL Ud
    split
    · omega
    · rename_i hx
      by_cases hl : x.label = []
      · rw [Ti hl] at h
        have := Sw l (a + Vx x) (by omega) h
        omega
      · rw [U2 hl] at h
        rcases List.mem_cons.1 h with h | h
        · exact absurd h.symm hx
        · have := Sw l (a + Vx x) (by omega) h
          omega
theorem Nw {s : List UInt8} (hs : s ≠ []) : ∀ (l : List Ln) (a : Int), s ∉ Wb l → whereL l s a = -1
  | [], a, _ => rfl
  | x :: l, a, h => by
    unfold whereL
    by_cases hl : x.label = []
    · rw [if_neg (by rw [hl]; exact fun e => hs e.symm)]
      exact Nw hs l _ (by rwa [Ti hl] at h)
    · rw [U2 hl] at h
      simp only [List.mem_cons, not_or] at h
      rw [if_neg (fun e => h.1 e.symm)]
      exact Nw hs l _ h.2
theorem Lk : ∀ (l : List Ins) (k : Nat) (acc : List Int), acc.length ≤ 65536 → (Rb l k acc).1.length ≤ 65536
  | [], _, _, h => h
  | x :: l, k, acc, h => by
    simp only [Rb]
    split
    · split
      · simp
      · exact Lk l _ _ (by omega)
    · simp
theorem encS_max (l : List Ins) : (U6 l).1.length ≤ 65536 := Lk l 0 [] (by simp)
end Go.Proofs.YtccjjcdjgibilaaDoor
