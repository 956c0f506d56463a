/-
  The plain laws of instructions and their words: what is encoded is decoded, what is decoded is encoded, programs one behind the other are words one behind the other. No program in sight; no conditions.
-/
import Derived.Test.YtibkcfpcfbodaaaRefB
import Derived.Test.YtibkcfpcfbodaaaDecode
namespace Go.Proofs.Ytibkcfpcfbodaaa
open Go.RowKit Vc
set_option linter.unusedVariables false
set_option linter.unusedSimpArgs false
def Wf (l : List Ins) : List Int := l.flatMap W2
theorem Vd (x : Ins) (l : List Ins) : Wf (x :: l) = W2 x ++ Wf l := rfl
theorem K5 : ∀ (l : List Ins) (k : Nat) (acc : List Int), (∀ x ∈ l, X5 x = 0) → (acc ++ Wf l).length ≤ 65536 → Ro l k acc = (acc ++ Wf l, 0, 0)
  | [], _, acc, _, _ => by simp [Ro, Wf]
  | x :: l, k, acc, h, hl => by
    have hx := h x (List.mem_cons_self ..)
    rw [Vd, ← List.append_assoc] at hl
    have hn : ¬ 65536 < (acc ++ W2 x).length := by rw [List.length_append] at hl; omega
    simp only [Ro, if_pos hx, if_neg hn]
    rw [K5 l (k + 1) _ (fun y hy => h y (List.mem_cons_of_mem _ hy)) hl, Vd, List.append_assoc]
theorem Hb : ∀ (l : List Ins) (k : Nat) (acc : List Int), acc.length ≤ 65536 → (Ro l k acc).2.1 = 0 → (∀ x ∈ l, X5 x = 0) ∧ (acc ++ Wf l).length ≤ 65536
  | [], _, acc, h, _ => ⟨fun x hx => (by cases hx), by simpa [Wf] using h⟩
  | x :: l, k, acc, h, h0 => by
    simp only [Ro] at h0
    split at h0
    · rename_i hx
      split at h0
      · exact absurd h0 (by simp)
      · rename_i hn
        obtain ⟨h1, h2⟩ := Hb l (k + 1) (acc ++ W2 x) (by omega) h0
        refine ⟨fun y hy => ?_, by rw [Vd, ← List.append_assoc]; exact h2⟩
        rcases List.mem_cons.1 hy with rfl | hy
        · exact hx
        · exact h1 y hy
    · rename_i hx
      exact absurd h0 hx
theorem Ko : ∀ (l : List Ins) (k : Nat) (acc : List Int), acc.length ≤ 65536 → (∀ x ∈ l, X5 x = 0) → 65536 < (acc ++ Wf l).length → (Ro l k acc).2.1 = 4
  | [], _, acc, h, _, h2 => by simp [Wf] at h2; omega
  | x :: l, k, acc, h, h1, h2 => by
    have hx := h1 x (List.mem_cons_self ..)
    simp only [Ro, if_pos hx]
    split
    · rfl
    · rw [Vd, ← List.append_assoc] at h2
      exact Ko l (k + 1) _ (by omega) (fun y hy => h1 y (List.mem_cons_of_mem _ hy)) h2
theorem Mo {l : List Ins} (h : (Uw l).2.1 = 0) : (∀ x ∈ l, X5 x = 0) ∧ (Wf l).length ≤ 65536 ∧ Uw l = (Wf l, 0, 0) := by
  obtain ⟨h1, h2⟩ := Hb l 0 [] (by simp) h
  exact ⟨h1, h2, K5 l 0 [] h1 h2⟩
theorem Q7 {l : List Ins} (h : ∀ x ∈ l, X5 x = 0) (hl : (Wf l).length ≤ 65536) : Uw l = (Wf l, 0, 0) := K5 l 0 [] h hl
theorem O4 {x : Ins} (h : X5 x = 0) : Vj x / 1024 = x.op ∧ Vj x / 128 % 8 = (Ws x).d ∧ Vj x / 16 % 8 = (Ws x).s ∧ Vj x % 16 = 0 := by
  obtain ⟨h1, h2, h3, _⟩ := Tf x h
  unfold Vj Ws
  simp only
  cases hd : T5 x.op <;> cases hs : T6 x.op <;> simp only [Bool.false_eq_true, ↓reduceIte] <;> (try have h2' := h2 hd) <;> (try have h3' := h3 hs) <;> omega
theorem Ja {x : Ins} (h : X5 x = 0) : Ph (Vj x) (Ws x).imm = Ws x ∧ okW (Vj x) = true := by
  obtain ⟨h1, h2, h3, h4⟩ := O4 h
  have hw := Io h
  have hr := Tf x h
  refine ⟨by simp only [Ph, h1, h2, h3]; rfl, ?_⟩
  have hk : Vx x.op = true := by simp [Vx]; omega
  simp only [okW, h1, h2, h3, h4, hk, V6, Ws]
  cases hd : T5 x.op <;> cases hs : T6 x.op <;> simp <;> omega
theorem Mn (a b : List Int) (y : Int) : (a ++ y :: b).getD a.length 0 = y := by simp [List.getD]
theorem J6 (a rest : List Int) {x : Ins} (h : X5 x = 0) : Su (a ++ (W2 x ++ rest)) a.length = (Ws x, ((W2 x).length : Int)) := by
  obtain ⟨h1, h2⟩ := Ja h
  have hp := (O4 h).1
  unfold W2 Su
  cases hi : hasI x.op with
  | false =>
    have himm : (Ws x).imm = 0 := by simp [Ws, hi]
    simp only [hi, Bool.false_eq_true, if_false, List.cons_append, List.nil_append, List.length_append, List.length_cons, List.length_nil]
    rw [if_neg (by omega), Int.toNat_natCast, Mn, if_neg (by simp [h2]), hp, if_pos hi]
    rw [himm] at h1
    rw [h1]; rfl
  | true =>
    have himm : (Ws x).imm = x.imm := O5 hi
    have him := (Tf x h).2.2.2 hi
    have hwy : V6 x.imm = true := by simp [V6]; omega
    have hg : (a ++ Vj x :: x.imm :: rest).getD ((a.length : Int) + 1).toNat 0 = x.imm := by
      have e : ((a.length : Int) + 1).toNat = a.length + 1 := by omega
      rw [e]
      have := Mn (a ++ [Vj x]) rest x.imm
      simp at this ⊢
    simp only [hi, if_true, List.cons_append, List.nil_append, List.length_append, List.length_cons, List.length_nil]
    rw [if_neg (by omega), Int.toNat_natCast, Mn, if_neg (by simp [h2]), hp, if_neg (by simp [hi]), hg, if_pos ⟨by omega, hwy⟩]
    rw [himm] at h1
    rw [h1]; rfl
theorem Mg : ∀ (l : List Ins) (a : List Int) (acc : List Ins) (f : Nat), (∀ x ∈ l, X5 x = 0) → l.length ≤ f → Pq (a ++ Wf l) f a.length acc = (acc ++ l.map Ws, 0, 0)
  | [], a, acc, f, _, _ => by
    cases f with
    | zero => simp [Pq]
    | succ f => simp [Pq, Wf]
  | x :: l, a, acc, f, h, hf => by
    have hx := h x (List.mem_cons_self ..)
    obtain ⟨f, rfl⟩ : ∃ g, f = g + 1 := ⟨f - 1, by simp at hf; omega⟩
    have hpos : 0 < (W2 x).length := by simp [W2]
    have hlen : ¬ (a ++ (W2 x ++ Wf l)).length ≤ a.length := by simp only [List.length_append]; omega
    rw [Vd]
    simp only [Pq, if_neg hlen, J6 a (Wf l) hx, Int.toNat_natCast]
    rw [if_neg (by omega)]
    have := Mg l (a ++ W2 x) (acc ++ [Ws x]) f (fun y hy => h y (List.mem_cons_of_mem _ hy)) (by simp at hf; omega)
    rw [List.length_append, List.append_assoc] at this
    rw [this]; simp
theorem Is (l : List Ins) : l.length ≤ (Wf l).length := by
  induction l with
  | nil => simp
  | cons x l ih => rw [Vd, List.length_append, List.length_cons]; have : 0 < (W2 x).length := by simp [W2]
                   omega
theorem dec_enc {l : List Ins} (h : (Uw l).2.1 = 0) : Oe (Uw l).1 = (l.map Ws, 0, 0) := by
  obtain ⟨h1, h2, h3⟩ := Mo h
  rw [h3]
  unfold Oe
  rw [if_neg (by simp only; omega)]
  have := Mg l [] [] ((Wf l).length + 2) h1 (by have := Is l; omega)
  simpa using this
theorem I8 {ws : List Int} {a : Nat} (h : (Su ws a).2 ≠ 0) : X5 (Su ws a).1 = 0 ∧ ws.drop a = W2 (Su ws a).1 ++ ws.drop (a + (Su ws a).2.toNat) ∧ a + (Su ws a).2.toNat ≤ ws.length := by
  unfold Su at h ⊢
  by_cases hin : (a : Int) < 0 ∨ (ws.length : Int) ≤ a
  · rw [if_pos hin] at h; exact absurd rfl h
  rw [if_neg hin] at h ⊢
  have ha : a < ws.length := by omega
  have hdrop : ws.drop a = ws.getD a 0 :: ws.drop (a + 1) := by
    rw [List.drop_eq_getElem_cons ha]; simp [List.getD, ha]
  rw [Int.toNat_natCast] at h ⊢
  generalize ws.getD a 0 = x at h hdrop ⊢
  cases hok : okW x with
  | false => rw [if_pos hok] at h; exact absurd rfl h
  | true =>
    have hwx : V6 x = true := by simp [okW] at hok; exact hok.1.1.1.1
    have hno : ¬ okW x = false := by simp [hok]
    simp only [hok, Bool.true_eq_false, if_false] at h ⊢
    cases hi : hasI (x / 1024) with
    | false =>
      simp only [if_true]
      obtain ⟨h1, h2⟩ := (Ju hwx 0 (by simp [hi])).1 hok
      have hw : W2 (Ph x 0) = [x] := by rw [M0 (by exact hi), h2]
      refine ⟨h1, ?_, ?_⟩
      · rw [hw, hdrop]; rfl
      · show a + 1 ≤ ws.length; omega
    | true =>
      simp only [hi, Bool.true_eq_false, if_false] at h ⊢
      by_cases hc : (a : Int) + 1 < ws.length ∧ V6 (ws.getD ((a : Int) + 1).toNat 0) = true
      · rw [if_pos hc]
        have e : ((a : Int) + 1).toNat = a + 1 := by omega
        rw [e] at hc ⊢
        have hb : a + 1 < ws.length := by omega
        have hdrop2 : ws.drop (a + 1) = ws.getD (a + 1) 0 :: ws.drop (a + 1 + 1) := by
          rw [List.drop_eq_getElem_cons hb]; simp [List.getD, hb]
        generalize ws.getD (a + 1) 0 = y at hdrop2 hc ⊢
        obtain ⟨h1, h2⟩ := (Ju hwx y (fun _ => hc.2)).1 hok
        have hw : W2 (Ph x y) = [x, y] := by rw [M5 (by exact hi), h2]; rfl
        refine ⟨h1, ?_, ?_⟩
        · rw [hw, hdrop, hdrop2]; rfl
        · show a + 2 ≤ ws.length; omega
      · rw [if_neg hc] at h; exact absurd rfl h
theorem Ha (ws : List Int) : ∀ (f a : Nat) (acc : List Ins), ws.length < a + f → a ≤ ws.length → (Pq ws f a acc).2.1 = 0 → ∃ c, (Pq ws f a acc).1 = acc ++ c ∧ (∀ x ∈ c, X5 x = 0) ∧ Wf c = ws.drop a
  | 0, a, acc, h1, h2, h3 => by omega
  | f + 1, a, acc, h1, h2, h3 => by
    simp only [Pq] at h3 ⊢
    by_cases ha : ws.length ≤ a
    · rw [if_pos ha]
      exact ⟨[], by simp, fun x hx => (by cases hx), by rw [List.drop_of_length_le ha]; rfl⟩
    · rw [if_neg ha] at h3 ⊢
      by_cases hn : (Su ws a).2 = 0
      · rw [if_pos hn] at h3; exact absurd h3 (by simp)
      · rw [if_neg hn] at h3 ⊢
        obtain ⟨g1, g2, g3⟩ := I8 hn
        have hl := L3 ws a
        obtain ⟨c, e1, e2, e3⟩ := Ha ws f _ _ (by omega) g3 h3
        refine ⟨(Su ws a).1 :: c, by rw [e1]; simp, fun x hx => ?_, by rw [Vd, e3, g2]⟩
        rcases List.mem_cons.1 hx with rfl | hx
        · exact g1
        · exact e2 x hx
theorem enc_dec {ws : List Int} (h : (Oe ws).2.1 = 0) : Uw (Oe ws).1 = (ws, 0, 0) := by
  unfold Oe at h ⊢
  by_cases hb : 65536 < ws.length
  · rw [if_pos hb] at h; exact absurd h (by simp)
  · rw [if_neg hb] at h ⊢
    obtain ⟨c, e1, e2, e3⟩ := Ha ws (ws.length + 2) 0 [] (by omega) (by omega) h
    rw [e1, List.nil_append]
    rw [List.drop_zero] at e3
    rw [Q7 e2 (by rw [e3]; omega), e3]
theorem enc_joined {l m : List Ins} (hl : (Uw l).2.1 = 0) (hm : (Uw m).2.1 = 0) :
    Uw (l ++ m) = ((Uw l).1 ++ (Uw m).1, 0, 0) ∨ ((Uw (l ++ m)).2.1 = 4 ∧ 65536 < (Uw l).1.length + (Uw m).1.length) := by
  obtain ⟨a1, a2, a3⟩ := Mo hl
  obtain ⟨b1, b2, b3⟩ := Mo hm
  have e : Wf (l ++ m) = Wf l ++ Wf m := by simp [Wf]
  have hr : ∀ x ∈ l ++ m, X5 x = 0 := fun x hx => (List.mem_append.1 hx).elim (a1 x) (b1 x)
  by_cases hlen : (Wf (l ++ m)).length ≤ 65536
  · left
    rw [Q7 hr hlen, e, a3, b3]
  · right
    refine ⟨Ko _ _ _ (by simp) hr (by simpa using hlen), ?_⟩
    rw [a3, b3, ← List.length_append, ← e]
    omega
end Go.Proofs.Ytibkcfpcfbodaaa
