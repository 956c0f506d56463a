/-
  Plain laws of linking: where labels lie, what is known of a name, what lines are as instructions and as words. No program in sight.
-/
import Derived.Test.YtibkcfpcfbodaaaLinkF
import Derived.Test.YtibkcfpcfbodaaaAsmE
import Derived.Test.YtibkcfpcfbodaaaPlain
namespace Go.Proofs.Ytibkcfpcfbodaaa
open Go.RowKit Vc
set_option linter.unusedVariables false
set_option linter.unusedSimpArgs false
def X8 : List Ln → Int → List Spot
  | [], _ => []
  | x :: l, a => if x.label ≠ [] then ⟨x.label, a⟩ :: X8 l a else X8 l (a + W9 x)
theorem Tf {x : Ln} {l : List Ln} (h : x.label ≠ []) : X4 (x :: l) = x.label :: X4 l := by simp [X4, h]
theorem Ty {x : Ln} {l : List Ln} (h : x.label = []) : X4 (x :: l) = X4 l := by simp [X4, h]
theorem Tb : ∀ {l : List Ln} {s : List UInt8}, s ∈ X4 l → s ≠ []
  | l, s, h => by
    simp only [X4, List.mem_map, List.mem_filter, decide_eq_true_eq] at h
    obtain ⟨x, ⟨_, h1⟩, rfl⟩ := h
    exact h1
theorem R8 : ∀ (l : List Ln) (k : Nat) (a : Int) (seen : List (List UInt8)) (acc : List Spot), (Wy l k a seen acc).2.2.1 = 0 →
    (Wy l k a seen acc).1 = acc ++ X8 l a ∧ (X4 l).Nodup ∧ ∀ s ∈ X4 l, s ∉ seen
  | [], k, a, seen, acc, h => by simp [Wy, X8, X4]
  | x :: l, k, a, seen, acc, h => by
    unfold Wy at h ⊢
    split at h
    · rename_i h1; exact absurd h h1
    · rename_i h1
      rw [if_neg h1]
      split at h
      · rename_i hl
        rw [if_pos hl]
        split at h
        · exact absurd h (by simp)
        · rename_i hs
          rw [if_neg hs]
          obtain ⟨g1, g2, g3⟩ := R8 l _ _ _ _ h
          rw [Tf hl]
          refine ⟨by rw [g1]; simp [X8, hl], List.nodup_cons.2 ⟨fun hm => by have := g3 _ hm; simp at this, g2⟩, fun s hs' => ?_⟩
          rcases List.mem_cons.1 hs' with rfl | hs'
          · exact hs
          · have := g3 _ hs'
            simp only [List.mem_cons, not_or] at this
            exact this.2
      · rename_i hl
        rw [if_neg hl]
        split at h
        · exact absurd h (by simp)
        · rename_i hs
          rw [if_neg hs]
          obtain ⟨g1, g2, g3⟩ := R8 l _ _ _ _ h
          have hl' : x.label = [] := by simpa using hl
          rw [Ty hl']
          exact ⟨by rw [g1]; simp [X8, hl'], g2, g3⟩
theorem T1 {l : List Ln} {a : Int} (h : (Xr l a).2.2.1 = 0) : (Xr l a).1 = X8 l a ∧ (X4 l).Nodup := by
  have := R8 l 0 a [] [] h
  exact ⟨by simpa [Xr] using this.1, this.2.1⟩
theorem W3 : ∀ (l : List Ln) (a : Int), (X8 l a).map Spot.name = X4 l
  | [], a => rfl
  | x :: l, a => by
    unfold X8
    by_cases h : x.label ≠ []
    · rw [if_pos h, Tf h, List.map_cons, W3 l]
    · rw [if_neg h, Ty (by simpa using h), W3 l]
def atS : List Spot → List UInt8 → Int
  | [], _ => 0
  | y :: l, s => if y.name = s then y.at_ else atS l s
theorem Nk (s : List UInt8) : ∀ (sp : List Spot) (k : Nat), s ∈ sp.map Spot.name → ∃ i : Nat, Us (fun y : Spot => decide (y.name = s)) sp k = ((k + i : Nat) : Int) ∧ (sp.getD i Sq).at_ = atS sp s
  | [], k, h => by simp at h
  | y :: sp, k, h => by
    by_cases hy : y.name = s
    · exact ⟨0, by simp [Us, hy], by simp [atS, hy]⟩
    · obtain ⟨i, h1, h2⟩ := Nk s sp (k + 1) (by
        rcases List.mem_cons.1 h with h | h
        · exact absurd h.symm hy
        · exact h)
      refine ⟨i + 1, ?_, by simpa [atS, hy] using h2⟩
      simp only [Us, hy, decide_false, Bool.false_eq_true, if_false, h1]
      congr 1; omega
theorem Tv {s : List UInt8} (hs : s ≠ []) : ∀ (l : List Ln) (a : Int), s ∈ X4 l → atS (X8 l a) s = whereL l s a
  | [], a, h => by simp [X4] at h
  | x :: l, a, h => by
    unfold X8 whereL
    by_cases hl : x.label ≠ []
    · rw [if_pos hl]
      simp only [atS]
      by_cases hx : x.label = s
      · rw [if_pos hx, if_pos hx]
      · rw [if_neg hx, if_neg hx, Tk hl, Int.add_zero]
        rw [Tf hl] at h
        rcases List.mem_cons.1 h with h | h
        · exact absurd h.symm hx
        · exact Tv hs l a h
    · have hl' : x.label = [] := by simpa using hl
      rw [if_neg hl, if_neg (by rw [hl']; exact fun e => hs e.symm)]
      rw [Ty hl'] at h
      exact Tv hs l _ h
theorem N4 : ∀ (sp : List Spot) (g : Own) (s : List UInt8), (sp.map Spot.name).Nodup → Rb sp g s = if s ∈ sp.map Spot.name then some (atS sp s) else g s
  | [], g, s, h => by simp [Rb]
  | y :: sp, g, s, h => by
    simp only [List.map_cons, List.nodup_cons] at h
    simp only [Rb]
    rw [N4 sp _ s h.2]
    simp only [List.map_cons, List.mem_cons, atS]
    by_cases hy : s = y.name
    · subst hy
      rw [if_neg h.1]; simp
    · by_cases hm : s ∈ sp.map Spot.name
      · rw [if_pos hm, if_pos (.inr hm), if_neg (fun e => hy e.symm)]
      · rw [if_neg hm, if_neg hy, if_neg (fun h' => h'.elim hy hm)]
theorem P4 : ∀ (sp : List Spot) (g : Own) (s : List UInt8), (sp.map Spot.name).Nodup → Rd sp g s = if W2 s = false ∧ s ∈ sp.map Spot.name then some (atS sp s) else g s
  | [], g, s, h => by simp [Rd]
  | y :: sp, g, s, h => by
    simp only [List.map_cons, List.nodup_cons] at h
    simp only [Rd]
    rw [P4 sp _ s h.2]
    have e : (if W2 y.name = true then g else fun t => if t = y.name then some y.at_ else g t) s = if W2 y.name = true then g s else if s = y.name then some y.at_ else g s := by split <;> rfl
    rw [e]
    simp only [List.map_cons, List.mem_cons, atS]
    by_cases hy : s = y.name
    · subst hy
      rw [if_neg (fun h' => h.1 h'.2)]
      by_cases ho : W2 y.name = true
      · rw [if_pos ho, if_neg (fun h' => absurd (ho.symm.trans h'.1) (by decide))]
      · rw [if_neg ho, if_pos rfl, if_pos ⟨by simpa using ho, .inl rfl⟩, if_pos rfl]
    · rw [if_neg hy]
      have e2 : (if W2 y.name = true then g s else g s) = g s := by split <;> rfl
      rw [e2]
      by_cases hm : W2 s = false ∧ s ∈ sp.map Spot.name
      · rw [if_pos hm, if_pos ⟨hm.1, .inr hm.2⟩, if_neg (fun e => hy e.symm)]
      · rw [if_neg hm, if_neg (by
          rintro ⟨h1, h2 | h2⟩
          · exact hy h2
          · exact hm ⟨h1, h2⟩)]
theorem T4 {u : Int} : ∀ {sp : List Spot} {f f' : Own}, Vo u sp f = some f' → ∀ s, f' s = (if W2 s = false ∧ s ∈ sp.map Spot.name then some u else f s) ∧ (W2 s = false → s ∈ sp.map Spot.name → f s = none)
  | [], f, f', h, s => by cases h; simp
  | y :: sp, f, f', h, s => by
    simp only [Vo] at h
    split at h
    · rename_i ho
      obtain ⟨g1, g2⟩ := T4 h s
      have : ∀ h : W2 s = false, s ≠ y.name := fun h e => by rw [e, ho] at h; cases h
      refine ⟨?_, fun h1 h2 => ?_⟩
      · rw [g1]
        by_cases hm : W2 s = false ∧ s ∈ sp.map Spot.name
        · rw [if_pos hm, if_pos ⟨hm.1, List.mem_cons_of_mem _ hm.2⟩]
        · rw [if_neg hm, if_neg (by
            rintro ⟨h1, h2⟩
            rcases List.mem_cons.1 h2 with h2 | h2
            · exact this h1 h2
            · exact hm ⟨h1, h2⟩)]
      · rcases List.mem_cons.1 h2 with h2 | h2
        · exact absurd h2 (this h1)
        · exact g2 h1 h2
    · rename_i ho
      split at h
      · cases h
      · rename_i hn
        have hno : f y.name = none := by simpa using hn
        obtain ⟨g1, g2⟩ := T4 h s
        refine ⟨?_, fun h1 h2 => ?_⟩
        · rw [g1]
          by_cases hy : s = y.name
          · subst hy
            have ho' : W2 y.name = false := by simpa using ho
            simp [ho']
          · by_cases hm : W2 s = false ∧ s ∈ sp.map Spot.name
            · rw [if_pos hm, if_pos ⟨hm.1, List.mem_cons_of_mem _ hm.2⟩]
            · rw [if_neg hm, if_neg hy, if_neg (by
                rintro ⟨h1, h2⟩
                rcases List.mem_cons.1 h2 with h2 | h2
                · exact hy h2
                · exact hm ⟨h1, h2⟩)]
        · rcases List.mem_cons.1 h2 with h2 | h2
          · rw [h2]; exact hno
          · have := g2 h1 h2
            split at this
            · cases this
            · exact this
theorem Qx : ∀ (l : X5) (k : Nat) (f : Own), (Vp l k f).2.1 = 0 → ∀ s v, (Vp l k f).1 s = some v ↔ f s = some v ∨ (W2 s = false ∧ ∃ n : Nat, n < l.length ∧ v = ((k + n : Nat) : Int) ∧ s ∈ X4 (l.getD n Vr).2)
  | [], k, f, h, s, v => by simp [Vp]
  | x :: l, k, f, h, s, v => by
    unfold Vp at h ⊢
    split at h
    · simp at h
    · rename_i h1
      rw [if_neg h1]
      split at h
      · rename_i h2; exact absurd h h2
      · rename_i h2
        rw [if_neg h2]
        have h2' : (Xr x.2 0).2.2.1 = 0 := by simpa using h2
        split at h
        · simp at h
        · rename_i f' hf'
          have ih := Qx l (k + 1) f' h s v
          obtain ⟨g1, g2⟩ := T4 hf' s
          rw [(T0 h2').2] at g1 g2
          rw [ih, g1]
          constructor
          · rintro (hA | ⟨ho, n, hn, rfl, hs⟩)
            · split at hA
              · rename_i hm
                cases hA
                exact .inr ⟨hm.1, 0, by simp, by simp, by simpa using hm.2⟩
              · exact .inl hA
            · exact .inr ⟨ho, n + 1, by simp; omega, by congr 1; omega, by simpa using hs⟩
          · rintro (hA | ⟨ho, n, hn, rfl, hs⟩)
            · left
              rw [if_neg (fun hm => by rw [g2 hm.1 hm.2] at hA; cases hA)]
              exact hA
            · cases n with
              | zero => left; rw [if_pos ⟨ho, by simpa using hs⟩]; rfl
              | succ n => exact .inr ⟨ho, n, by simpa using hn, by congr 1; omega, by simpa using hs⟩
theorem Tn {l : X5} (h : (Yw l).2.1 = 0) (s : List UInt8) (v : Int) : (Yw l).1 s = some v ↔ (W2 s = false ∧ ∃ n : Nat, n < l.length ∧ v = (n : Int) ∧ s ∈ X4 (l.getD n Vr).2) := by
  unfold Yw at h ⊢
  split at h
  · simp at h
  · rename_i hl
    rw [if_neg hl, Qx l 0 Wr h s v]
    simp [Wr]
def O9 (h : List UInt8 → Int × Bool) (x : Ln) : Ins := if x.ref ≠ [] then ⟨x.ins.op, x.ins.d, x.ins.s, N2 .i64 (h x.ref).1 65535⟩ else x.ins
def Ts (h : List UInt8 → Int × Bool) (l : List Ln) : List Ins := (l.filter fun x => decide (x.label = [])).map (O9 h)
theorem S5 {h : List UInt8 → Int × Bool} : ∀ (l : List Ln) (k : Nat) (acc : List Ins), (∀ x ∈ l, x.label = [] → x.ref ≠ [] → (h x.ref).2 = true) → U6 h l k acc = (acc ++ Ts h l, 0, 0)
  | [], k, acc, hk => by simp [U6, Ts]
  | x :: l, k, acc, hk => by
    have ih := fun acc => S5 l (k + 1) acc fun y hy => hk y (List.mem_cons_of_mem _ hy)
    unfold U6
    by_cases hl : x.label ≠ []
    · rw [if_pos hl, ih]; simp [Ts, hl]
    · have hl' : x.label = [] := by simpa using hl
      rw [if_neg hl]
      by_cases hr : x.ref ≠ []
      · rw [if_pos hr, if_neg (by rw [hk x (List.mem_cons_self ..) hl' hr]; decide), ih]
        simp [Ts, hl', O9, hr]
      · rw [if_neg hr, ih]
        simp only [ne_eq, Decidable.not_not] at hr
        simp [Ts, hl', O9, hr]
theorem Kq {h h' : List UInt8 → Int × Bool} {l : List Ln} (hk : ∀ x ∈ l, x.label = [] → x.ref ≠ [] → (h x.ref).1 = (h' x.ref).1) : Ts h l = Ts h' l := by
  unfold Ts
  refine List.map_congr_left fun x hx => ?_
  simp only [List.mem_filter, decide_eq_true_eq] at hx
  unfold O9
  split
  · rename_i hr; rw [hk x hx.1 hx.2 hr]
  · rfl
theorem K8 {x : Ins} {n : Int} (h : We x = 0) (h0 : 0 ≤ n) (h1 : n ≤ 65535) : We ⟨x.op, x.d, x.s, n⟩ = 0 := by
  unfold We at h ⊢
  split at h
  · omega
  · rename_i hk
    rw [if_neg hk]
    split at h
    · omega
    · rename_i hw
      rw [if_neg]
      simp only [Bool.or_eq_true, Bool.and_eq_true, not_or] at hw ⊢
      refine ⟨hw.1, hw.2.1, fun hi => ?_⟩
      simp only [Ue] at hi
      simp at hi
      omega
theorem Jf {h : List UInt8 → Int × Bool} {x : Ln} (hw : Vj x = 0) (hl : x.label = []) (hr : x.ref ≠ [] → 0 ≤ (h x.ref).1 ∧ (h x.ref).1 ≤ 1000000) : We (O9 h x) = 0 ∧ ((W7 (O9 h x)).length : Int) = W9 x := by
  have h1 := (Sr hw hl).1
  have hlen : ∀ n, ((W7 ⟨x.ins.op, x.ins.d, x.ins.s, n⟩).length : Int) = W9 x := fun n => by
    have e : W9 x = if hasI x.ins.op then 2 else 1 := by unfold W9; rw [if_neg (by simpa using hl)]
    rw [e]
    unfold W7
    cases hasI x.ins.op <;> simp
  unfold O9
  split
  · rename_i hrf
    obtain ⟨g0, g1⟩ := hr hrf
    refine ⟨?_, hlen _⟩
    rw [Jr _ g0 (by omega)]
    exact K8 h1 (by omega) (by omega)
  · exact ⟨h1, hlen x.ins.imm⟩
theorem M8 {h : List UInt8 → Int × Bool} : ∀ (l : List Ln), (∀ x ∈ l, Vj x = 0) → (∀ x ∈ l, x.ref ≠ [] → 0 ≤ (h x.ref).1 ∧ (h x.ref).1 ≤ 1000000) → (∀ x ∈ Ts h l, We x = 0) ∧ ((W6 (Ts h l)).length : Int) = Wt l
  | [], _, _ => by simp [Ts, W6, Wt]
  | x :: l, hw, hr => by
    obtain ⟨h1, h2⟩ := M8 l (fun y hy => hw y (List.mem_cons_of_mem _ hy)) (fun y hy => hr y (List.mem_cons_of_mem _ hy))
    by_cases hl : x.label = []
    · have e : Ts h (x :: l) = O9 h x :: Ts h l := by simp [Ts, hl]
      obtain ⟨g1, g2⟩ := Jf (h := h) (hw x (List.mem_cons_self ..)) hl (hr x (List.mem_cons_self ..))
      rw [e]
      refine ⟨fun y hy => ?_, ?_⟩
      · rcases List.mem_cons.1 hy with rfl | hy
        · exact g1
        · exact h1 y hy
      · rw [Vw, List.length_append, Wt]; omega
    · have e : Ts h (x :: l) = Ts h l := by simp [Ts, hl]
      rw [e, Wt, Tk hl]
      exact ⟨h1, by omega⟩
theorem Tx {s : List UInt8} : ∀ (l : List Ln) (a : Int), 0 ≤ a → s ∈ X4 l → a ≤ whereL l s a ∧ whereL l s a ≤ a + Wt l
  | [], a, _, h => by simp [X4] at h
  | x :: l, a, h0, h => by
    have hle := Sn x
    have hsz : ∀ l : List Ln, 0 ≤ Wt l := fun l => by
      induction l with
      | nil => simp [Wt]
      | cons y l ih => have := Sn y; simp only [Wt]; omega
    have := hsz l
    unfold whereL Wt
    split
    · omega
    · rename_i hx
      by_cases hl : x.label = []
      · rw [Ty hl] at h
        have := Tx l (a + W9 x) (by omega) h
        omega
      · rw [Tf hl] at h
        rcases List.mem_cons.1 h with h | h
        · exact absurd h.symm hx
        · have := Tx l (a + W9 x) (by omega) h
          omega
end Go.Proofs.Ytibkcfpcfbodaaa
