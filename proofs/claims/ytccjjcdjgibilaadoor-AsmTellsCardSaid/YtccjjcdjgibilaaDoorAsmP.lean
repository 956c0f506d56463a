/-
  A part of the proofs of this seat's laws: a step on the way. It has no conditions of its own.
-/
import Derived.Test.YtccjjcdjgibilaaDoorTellF
import Derived.Test.YtccjjcdjgibilaaDoorPlain
namespace Go.Proofs.YtccjjcdjgibilaaDoor
open Go.RowKit Vc
set_option linter.unusedVariables false
set_option linter.unusedSimpArgs false
def Tg : List Ln → Int
  | [] => 0
  | x :: l => Vo x + Tg l
def Ws (l : List Ln) : List (List UInt8) := (l.filter fun x => decide (x.label ≠ [])).map Ln.label
def Ut : List Ln → Int → List Spot
  | [], _ => []
  | x :: l, a => if x.label ≠ [] then ⟨x.label, a⟩ :: Ut l a else Ut l (a + Vo x)
theorem Ta {x : Ln} {l : List Ln} (h : x.label ≠ []) : Ws (x :: l) = x.label :: Ws l := by simp [Ws, h]
theorem Tn {x : Ln} {l : List Ln} (h : x.label = []) : Ws (x :: l) = Ws l := by simp [Ws, h]
theorem labelsL_ne : ∀ {l : List Ln} {s : List UInt8}, s ∈ Ws l → s ≠ []
  | l, s, h => by
    simp only [Ws, List.mem_map, List.mem_filter, decide_eq_true_eq] at h
    obtain ⟨x, ⟨_, h1⟩, rfl⟩ := h
    exact h1
theorem Rj : ∀ (l : List Ln) (k : Nat) (a : Int) (seen : List (List UInt8)) (acc : List Spot), (W0 l k a seen acc).2.2.1 = 0 → (W0 l k a seen acc).2.1 = a + Tg l ∧ (W0 l k a seen acc).1.map Spot.name = acc.map Spot.name ++ Ws l
  | [], k, a, seen, acc, h => by simp [W0, Tg, Ws]
  | x :: l, k, a, seen, acc, h => by
    unfold W0 at h ⊢
    split at h
    · rename_i h1; exact absurd h h1
    · rename_i h1
      rw [if_neg h1]
      split at h
      · rename_i hl
        rw [if_pos hl]
        split at h
        · exact absurd h (by simp)
        · rename_i hs
          rw [if_neg hs]
          obtain ⟨g1, g2⟩ := Rj l _ _ _ _ h
          refine ⟨by rw [g1, Tg, Tr hl]; omega, ?_⟩
          rw [g2]; simp [Ws, hl]
      · rename_i hl
        rw [if_neg hl]
        split at h
        · exact absurd h (by simp)
        · rename_i hs
          rw [if_neg hs]
          obtain ⟨g1, g2⟩ := Rj l _ _ _ _ h
          refine ⟨by rw [g1, Tg]; omega, ?_⟩
          rw [g2]
          have hl' : x.label = [] := by simpa using hl
          simp [Ws, hl']
theorem L8 {l : List Ln} {a : Int} (h : (spotsS l a).2.2.1 = 0) : (spotsS l a).2.1 = a + Tg l ∧ (spotsS l a).1.map Spot.name = Ws l := by
  have := Rj l 0 a [] [] h
  simpa [spotsS] using this
theorem So : ∀ (l : List Ln) (k : Nat) (a : Int) (seen : List (List UInt8)) (acc : List Spot), (W0 l k a seen acc).2.2.1 = 0 →
    (W0 l k a seen acc).1 = acc ++ Ut l a ∧ (Ws l).Nodup ∧ ∀ s ∈ Ws l, s ∉ seen
  | [], k, a, seen, acc, h => by simp [W0, Ut, Ws]
  | x :: l, k, a, seen, acc, h => by
    unfold W0 at h ⊢
    split at h
    · rename_i h1; exact absurd h h1
    · rename_i h1
      rw [if_neg h1]
      split at h
      · rename_i hl
        rw [if_pos hl]
        split at h
        · exact absurd h (by simp)
        · rename_i hs
          rw [if_neg hs]
          obtain ⟨g1, g2, g3⟩ := So l _ _ _ _ h
          rw [Ta hl]
          refine ⟨by rw [g1]; simp [Ut, hl], List.nodup_cons.2 ⟨fun hm => by have := g3 _ hm; simp at this, g2⟩, fun s hs' => ?_⟩
          rcases List.mem_cons.1 hs' with rfl | hs'
          · exact hs
          · have := g3 _ hs'
            simp only [List.mem_cons, not_or] at this
            exact this.2
      · rename_i hl
        rw [if_neg hl]
        split at h
        · exact absurd h (by simp)
        · rename_i hs
          rw [if_neg hs]
          obtain ⟨g1, g2, g3⟩ := So l _ _ _ _ h
          have hl' : x.label = [] := by simpa using hl
          rw [Tn hl']
          exact ⟨by rw [g1]; simp [Ut, hl'], g2, g3⟩
theorem M3 {l : List Ln} {a : Int} (h : (spotsS l a).2.2.1 = 0) : (spotsS l a).1 = Ut l a ∧ (Ws l).Nodup := by
  have := So l 0 a [] [] h
  exact ⟨by simpa [spotsS] using this.1, this.2.1⟩
theorem U3 : ∀ (l : List Ln) (a : Int), (Ut l a).map Spot.name = Ws l
  | [], a => rfl
  | x :: l, a => by
    unfold Ut
    by_cases h : x.label ≠ []
    · rw [if_pos h, Ta h, List.map_cons, U3 l]
    · rw [if_neg h, Tn (by simpa using h), U3 l]
def atS : List Spot → List UInt8 → Int
  | [], _ => 0
  | y :: l, s => if y.name = s then y.at_ else atS l s
theorem Qj {s : List UInt8} (hs : s ≠ []) : ∀ (l : List Ln) (a : Int), s ∈ Ws l → atS (Ut l a) s = whereL l s a
  | [], a, h => by simp [Ws] at h
  | x :: l, a, h => by
    unfold Ut whereL
    by_cases hl : x.label ≠ []
    · rw [if_pos hl]
      simp only [atS]
      by_cases hx : x.label = s
      · rw [if_pos hx, if_pos hx]
      · rw [if_neg hx, if_neg hx, Tr hl, Int.add_zero]
        rw [Ta hl] at h
        rcases List.mem_cons.1 h with h | h
        · exact absurd h.symm hx
        · exact Qj hs l a h
    · have hl' : x.label = [] := by simpa using hl
      rw [if_neg hl, if_neg (by rw [hl']; exact fun e => hs e.symm)]
      rw [Tn hl'] at h
      exact Qj hs l _ h
theorem Og : ∀ (sp : List Spot) (g : Own) (s : List UInt8), (sp.map Spot.name).Nodup → Si sp g s = if s ∈ sp.map Spot.name then some (atS sp s) else g s
  | [], g, s, h => by simp [Si]
  | y :: sp, g, s, h => by
    simp only [List.map_cons, List.nodup_cons] at h
    simp only [Si]
    rw [Og sp _ s h.2]
    simp only [List.map_cons, List.mem_cons, atS]
    by_cases hy : s = y.name
    · subst hy
      rw [if_neg h.1]; simp
    · by_cases hm : s ∈ sp.map Spot.name
      · rw [if_pos hm, if_pos (.inr hm), if_neg (fun e => hy e.symm)]
      · rw [if_neg hm, if_neg hy, if_neg (fun h' => h'.elim hy hm)]
def Mv (h : List UInt8 → Int × Bool) (x : Ln) : Ins := if x.ref ≠ [] then ⟨x.ins.op, x.ins.d, x.ins.s, Ps .i64 (h x.ref).1 65535⟩ else x.ins
def Rm (h : List UInt8 → Int × Bool) (l : List Ln) : List Ins := (l.filter fun x => decide (x.label = [])).map (Mv h)
theorem Qs {h : List UInt8 → Int × Bool} : ∀ (l : List Ln) (k : Nat) (acc : List Ins), (∀ x ∈ l, x.label = [] → x.ref ≠ [] → (h x.ref).2 = true) → Wn h l k acc = (acc ++ Rm h l, 0, 0)
  | [], k, acc, hk => by simp [Wn, Rm]
  | x :: l, k, acc, hk => by
    have ih := fun acc => Qs l (k + 1) acc fun y hy => hk y (List.mem_cons_of_mem _ hy)
    unfold Wn
    by_cases hl : x.label ≠ []
    · rw [if_pos hl, ih]; simp [Rm, hl]
    · have hl' : x.label = [] := by simpa using hl
      rw [if_neg hl]
      by_cases hr : x.ref ≠ []
      · rw [if_pos hr, if_neg (by rw [hk x (List.mem_cons_self ..) hl' hr]; decide), ih]
        simp [Rm, hl', Mv, hr]
      · rw [if_neg hr, ih]
        simp only [ne_eq, Decidable.not_not] at hr
        simp [Rm, hl', Mv, hr]
theorem Pq {x : Ins} {n : Int} (h : X2 x = 0) (h0 : 0 ≤ n) (h1 : n ≤ 65535) : X2 ⟨x.op, x.d, x.s, n⟩ = 0 := by
  unfold X2 at h ⊢
  split at h
  · omega
  · rename_i hk
    rw [if_neg hk]
    split at h
    · omega
    · rename_i hw
      rw [if_neg]
      simp only [Bool.or_eq_true, Bool.and_eq_true, not_or] at hw ⊢
      refine ⟨hw.1, hw.2.1, fun hi => ?_⟩
      simp only [Vn] at hi
      simp at hi
      omega
theorem res1_ok {h : List UInt8 → Int × Bool} {x : Ln} (hw : Wt x = 0) (hl : x.label = []) (hr : x.ref ≠ [] → 0 ≤ (h x.ref).1 ∧ (h x.ref).1 ≤ 1000000) : X2 (Mv h x) = 0 ∧ ((Wv (Mv h x)).length : Int) = Vo x := by
  have h1 := (Tl hw hl).1
  have hlen : ∀ n, ((Wv ⟨x.ins.op, x.ins.d, x.ins.s, n⟩).length : Int) = Vo x := fun n => by
    have e : Vo x = if hasI x.ins.op then 2 else 1 := by unfold Vo; rw [if_neg (by simpa using hl)]
    rw [e]
    unfold Wv
    cases hasI x.ins.op <;> simp
  unfold Mv
  split
  · rename_i hrf
    obtain ⟨g0, g1⟩ := hr hrf
    refine ⟨?_, hlen _⟩
    rw [Lq _ g0 (by omega)]
    exact Pq h1 (by omega) (by omega)
  · exact ⟨h1, hlen x.ins.imm⟩
theorem Li {h : List UInt8 → Int × Bool} : ∀ (l : List Ln), (∀ x ∈ l, Wt x = 0) → (∀ x ∈ l, x.ref ≠ [] → 0 ≤ (h x.ref).1 ∧ (h x.ref).1 ≤ 1000000) → (∀ x ∈ Rm h l, X2 x = 0) ∧ ((Wc (Rm h l)).length : Int) = Tg l
  | [], _, _ => by simp [Rm, Wc, Tg]
  | x :: l, hw, hr => by
    obtain ⟨h1, h2⟩ := Li l (fun y hy => hw y (List.mem_cons_of_mem _ hy)) (fun y hy => hr y (List.mem_cons_of_mem _ hy))
    by_cases hl : x.label = []
    · have e : Rm h (x :: l) = Mv h x :: Rm h l := by simp [Rm, hl]
      obtain ⟨g1, g2⟩ := res1_ok (h := h) (hw x (List.mem_cons_self ..)) hl (hr x (List.mem_cons_self ..))
      rw [e]
      refine ⟨fun y hy => ?_, ?_⟩
      · rcases List.mem_cons.1 hy with rfl | hy
        · exact g1
        · exact h1 y hy
      · rw [Vr, List.length_append, Tg]; omega
    · have e : Rm h (x :: l) = Rm h l := by simp [Rm, hl]
      rw [e, Tg, Tr hl]
      exact ⟨h1, by omega⟩
theorem Rd {s : List UInt8} : ∀ (l : List Ln) (a : Int), 0 ≤ a → s ∈ Ws l → a ≤ whereL l s a ∧ whereL l s a ≤ a + Tg l
  | [], a, _, h => by simp [Ws] at h
  | x :: l, a, h0, h => by
    have hle := Tv x
    have hsz : ∀ l : List Ln, 0 ≤ Tg l := fun l => by
      induction l with
      | nil => simp [Tg]
      | cons y l ih => have := Tv y; simp only [Tg]; omega
    have := hsz l
    unfold whereL Tg
    split
    · omega
    · rename_i hx
      by_cases hl : x.label = []
      · rw [Tn hl] at h
        have := Rd l (a + Vo x) (by omega) h
        omega
      · rw [Ta hl] at h
        rcases List.mem_cons.1 h with h | h
        · exact absurd h.symm hx
        · have := Rd l (a + Vo x) (by omega) h
          omega
theorem R8 {s : List UInt8} (hs : s ≠ []) : ∀ (l : List Ln) (a : Int), s ∉ Ws l → whereL l s a = -1
  | [], a, _ => rfl
  | x :: l, a, h => by
    unfold whereL
    by_cases hl : x.label = []
    · rw [if_neg (by rw [hl]; exact fun e => hs e.symm)]
      exact R8 hs l _ (by rwa [Tn hl] at h)
    · rw [Ta hl] at h
      simp only [List.mem_cons, not_or] at h
      rw [if_neg (fun e => h.1 e.symm)]
      exact R8 hs l _ h.2
theorem Nn : ∀ (l : List Ins) (k : Nat) (acc : List Int), acc.length ≤ 65536 → (Sk l k acc).1.length ≤ 65536
  | [], _, _, h => h
  | x :: l, k, acc, h => by
    simp only [Sk]
    split
    · split
      · simp
      · exact Nn l _ _ (by omega)
    · simp
theorem Jj (l : List Ins) : (encS l).1.length ≤ 65536 := Nn l 0 [] (by simp)
end Go.Proofs.YtccjjcdjgibilaaDoor
