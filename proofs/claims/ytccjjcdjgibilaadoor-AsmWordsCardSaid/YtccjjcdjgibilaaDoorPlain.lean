/-
  The plain laws of instructions and their words: what is encoded is decoded, what is decoded is encoded, programs one behind the other are words one behind the other. No program in sight; no conditions.
-/
import Derived.Test.YtccjjcdjgibilaaDoorRefB
import Derived.Test.YtccjjcdjgibilaaDoorDecode
namespace Go.Proofs.YtccjjcdjgibilaaDoor
open Go.RowKit Vc
set_option linter.unusedVariables false
set_option linter.unusedSimpArgs false
def wordsL (l : List Ins) : List Int := l.flatMap W7
theorem V0 (x : Ins) (l : List Ins) : wordsL (x :: l) = W7 x ++ wordsL l := rfl
theorem K3 : ∀ (l : List Ins) (k : Nat) (acc : List Int), (∀ x ∈ l, X9 x = 0) → (acc ++ wordsL l).length ≤ 65536 → Rb l k acc = (acc ++ wordsL l, 0, 0)
  | [], _, acc, _, _ => by simp [Rb, wordsL]
  | x :: l, k, acc, h, hl => by
    have hx := h x (List.mem_cons_self ..)
    rw [V0, ← List.append_assoc] at hl
    have hn : ¬ 65536 < (acc ++ W7 x).length := by rw [List.length_append] at hl; omega
    simp only [Rb, if_pos hx, if_neg hn]
    rw [K3 l (k + 1) _ (fun y hy => h y (List.mem_cons_of_mem _ hy)) hl, V0, List.append_assoc]
theorem Hl : ∀ (l : List Ins) (k : Nat) (acc : List Int), acc.length ≤ 65536 → (Rb l k acc).2.1 = 0 → (∀ x ∈ l, X9 x = 0) ∧ (acc ++ wordsL l).length ≤ 65536
  | [], _, acc, h, _ => ⟨fun x hx => (by cases hx), by simpa [wordsL] using h⟩
  | x :: l, k, acc, h, h0 => by
    simp only [Rb] at h0
    split at h0
    · rename_i hx
      split at h0
      · exact absurd h0 (by simp)
      · rename_i hn
        obtain ⟨h1, h2⟩ := Hl l (k + 1) (acc ++ W7 x) (by omega) h0
        refine ⟨fun y hy => ?_, by rw [V0, ← List.append_assoc]; exact h2⟩
        rcases List.mem_cons.1 hy with rfl | hy
        · exact hx
        · exact h1 y hy
    · rename_i hx
      exact absurd h0 hx
theorem Le : ∀ (l : List Ins) (k : Nat) (acc : List Int), acc.length ≤ 65536 → (∀ x ∈ l, X9 x = 0) → 65536 < (acc ++ wordsL l).length → (Rb l k acc).2.1 = 4
  | [], _, acc, h, _, h2 => by simp [wordsL] at h2; omega
  | x :: l, k, acc, h, h1, h2 => by
    have hx := h1 x (List.mem_cons_self ..)
    simp only [Rb, if_pos hx]
    split
    · rfl
    · rw [V0, ← List.append_assoc] at h2
      exact Le l (k + 1) _ (by omega) (fun y hy => h1 y (List.mem_cons_of_mem _ hy)) h2
theorem Mw {l : List Ins} (h : (U6 l).2.1 = 0) : (∀ x ∈ l, X9 x = 0) ∧ (wordsL l).length ≤ 65536 ∧ U6 l = (wordsL l, 0, 0) := by
  obtain ⟨h1, h2⟩ := Hl l 0 [] (by simp) h
  exact ⟨h1, h2, K3 l 0 [] h1 h2⟩
theorem P2 {l : List Ins} (h : ∀ x ∈ l, X9 x = 0) (hl : (wordsL l).length ≤ 65536) : U6 l = (wordsL l, 0, 0) := K3 l 0 [] h hl
theorem Oj {x : Ins} (h : X9 x = 0) : Vi x / 1024 = x.op ∧ Vi x / 128 % 8 = (bareI x).d ∧ Vi x / 16 % 8 = (bareI x).s ∧ Vi x % 16 = 0 := by
  obtain ⟨h1, h2, h3, _⟩ := Tb x h
  unfold Vi bareI
  simp only
  cases hd : Uo x.op <;> cases hs : Un x.op <;> simp only [Bool.false_eq_true, ↓reduceIte] <;> (try have h2' := h2 hd) <;> (try have h3' := h3 hs) <;> omega
theorem Jg {x : Ins} (h : X9 x = 0) : Qn (Vi x) (bareI x).imm = bareI x ∧ okW (Vi x) = true := by
  obtain ⟨h1, h2, h3, h4⟩ := Oj h
  have hw := I7 h
  have hr := Tb x h
  refine ⟨by simp only [Qn, h1, h2, h3]; rfl, ?_⟩
  have hk : Ve x.op = true := by simp [Ve]; omega
  simp only [okW, h1, h2, h3, h4, hk, V6, bareI]
  cases hd : Uo x.op <;> cases hs : Un x.op <;> simp <;> omega
theorem Mr (a b : List Int) (y : Int) : (a ++ y :: b).getD a.length 0 = y := by simp [List.getD]
theorem Im (a rest : List Int) {x : Ins} (h : X9 x = 0) : T9 (a ++ (W7 x ++ rest)) a.length = (bareI x, ((W7 x).length : Int)) := by
  obtain ⟨h1, h2⟩ := Jg h
  have hp := (Oj h).1
  unfold W7 T9
  cases hi : hasI x.op with
  | false =>
    have himm : (bareI x).imm = 0 := by simp [bareI, hi]
    simp only [hi, Bool.false_eq_true, if_false, List.cons_append, List.nil_append, List.length_append, List.length_cons, List.length_nil]
    rw [if_neg (by omega), Int.toNat_natCast, Mr, if_neg (by simp [h2]), hp, if_pos hi]
    rw [himm] at h1
    rw [h1]; rfl
  | true =>
    have himm : (bareI x).imm = x.imm := M6 hi
    have him := (Tb x h).2.2.2 hi
    have hwy : V6 x.imm = true := by simp [V6]; omega
    have hg : (a ++ Vi x :: x.imm :: rest).getD ((a.length : Int) + 1).toNat 0 = x.imm := by
      have e : ((a.length : Int) + 1).toNat = a.length + 1 := by omega
      rw [e]
      have := Mr (a ++ [Vi x]) rest x.imm
      simp at this ⊢
    simp only [hi, if_true, List.cons_append, List.nil_append, List.length_append, List.length_cons, List.length_nil]
    rw [if_neg (by omega), Int.toNat_natCast, Mr, if_neg (by simp [h2]), hp, if_neg (by simp [hi]), hg, if_pos ⟨by omega, hwy⟩]
    rw [himm] at h1
    rw [h1]; rfl
theorem Mc : ∀ (l : List Ins) (a : List Int) (acc : List Ins) (f : Nat), (∀ x ∈ l, X9 x = 0) → l.length ≤ f → Q7 (a ++ wordsL l) f a.length acc = (acc ++ l.map bareI, 0, 0)
  | [], a, acc, f, _, _ => by
    cases f with
    | zero => simp [Q7]
    | succ f => simp [Q7, wordsL]
  | x :: l, a, acc, f, h, hf => by
    have hx := h x (List.mem_cons_self ..)
    obtain ⟨f, rfl⟩ : ∃ g, f = g + 1 := ⟨f - 1, by simp at hf; omega⟩
    have hpos : 0 < (W7 x).length := by simp [W7]
    have hlen : ¬ (a ++ (W7 x ++ wordsL l)).length ≤ a.length := by simp only [List.length_append]; omega
    rw [V0]
    simp only [Q7, if_neg hlen, Im a (wordsL l) hx, Int.toNat_natCast]
    rw [if_neg (by omega)]
    have := Mc l (a ++ W7 x) (acc ++ [bareI x]) f (fun y hy => h y (List.mem_cons_of_mem _ hy)) (by simp at hf; omega)
    rw [List.length_append, List.append_assoc] at this
    rw [this]; simp
theorem Hu (l : List Ins) : l.length ≤ (wordsL l).length := by
  induction l with
  | nil => simp
  | cons x l ih => rw [V0, List.length_append, List.length_cons]; have : 0 < (W7 x).length := by simp [W7]
                   omega
theorem dec_enc {l : List Ins} (h : (U6 l).2.1 = 0) : Pw (U6 l).1 = (l.map bareI, 0, 0) := by
  obtain ⟨h1, h2, h3⟩ := Mw h
  rw [h3]
  unfold Pw
  rw [if_neg (by simp only; omega)]
  have := Mc l [] [] ((wordsL l).length + 2) h1 (by have := Hu l; omega)
  simpa using this
theorem H9 {ws : List Int} {a : Nat} (h : (T9 ws a).2 ≠ 0) : X9 (T9 ws a).1 = 0 ∧ ws.drop a = W7 (T9 ws a).1 ++ ws.drop (a + (T9 ws a).2.toNat) ∧ a + (T9 ws a).2.toNat ≤ ws.length := by
  unfold T9 at h ⊢
  by_cases hin : (a : Int) < 0 ∨ (ws.length : Int) ≤ a
  · rw [if_pos hin] at h; exact absurd rfl h
  rw [if_neg hin] at h ⊢
  have ha : a < ws.length := by omega
  have hdrop : ws.drop a = ws.getD a 0 :: ws.drop (a + 1) := by
    rw [List.drop_eq_getElem_cons ha]; simp [List.getD, ha]
  rw [Int.toNat_natCast] at h ⊢
  generalize ws.getD a 0 = x at h hdrop ⊢
  cases hok : okW x with
  | false => rw [if_pos hok] at h; exact absurd rfl h
  | true =>
    have hwx : V6 x = true := by simp [okW] at hok; exact hok.1.1.1.1
    have hno : ¬ okW x = false := by simp [hok]
    simp only [hok, Bool.true_eq_false, if_false] at h ⊢
    cases hi : hasI (x / 1024) with
    | false =>
      simp only [if_true]
      obtain ⟨h1, h2⟩ := (Ju hwx 0 (by simp [hi])).1 hok
      have hw : W7 (Qn x 0) = [x] := by rw [Mj (by exact hi), h2]
      refine ⟨h1, ?_, ?_⟩
      · rw [hw, hdrop]; rfl
      · show a + 1 ≤ ws.length; omega
    | true =>
      simp only [hi, Bool.true_eq_false, if_false] at h ⊢
      by_cases hc : (a : Int) + 1 < ws.length ∧ V6 (ws.getD ((a : Int) + 1).toNat 0) = true
      · rw [if_pos hc]
        have e : ((a : Int) + 1).toNat = a + 1 := by omega
        rw [e] at hc ⊢
        have hb : a + 1 < ws.length := by omega
        have hdrop2 : ws.drop (a + 1) = ws.getD (a + 1) 0 :: ws.drop (a + 1 + 1) := by
          rw [List.drop_eq_getElem_cons hb]; simp [List.getD, hb]
        generalize ws.getD (a + 1) 0 = y at hdrop2 hc ⊢
        obtain ⟨h1, h2⟩ := (Ju hwx y (fun _ => hc.2)).1 hok
        have hw : W7 (Qn x y) = [x, y] := by rw [Me (by exact hi), h2]; rfl
        refine ⟨h1, ?_, ?_⟩
        · rw [hw, hdrop, hdrop2]; rfl
        · show a + 2 ≤ ws.length; omega
      · rw [if_neg hc] at h; exact absurd rfl h
theorem Hb (ws : List Int) : ∀ (f a : Nat) (acc : List Ins), ws.length < a + f → a ≤ ws.length → (Q7 ws f a acc).2.1 = 0 → ∃ c, (Q7 ws f a acc).1 = acc ++ c ∧ (∀ x ∈ c, X9 x = 0) ∧ wordsL c = ws.drop a
  | 0, a, acc, h1, h2, h3 => by omega
  | f + 1, a, acc, h1, h2, h3 => by
    simp only [Q7] at h3 ⊢
    by_cases ha : ws.length ≤ a
    · rw [if_pos ha]
      exact ⟨[], by simp, fun x hx => (by cases hx), by rw [List.drop_of_length_le ha]; rfl⟩
    · rw [if_neg ha] at h3 ⊢
      by_cases hn : (T9 ws a).2 = 0
      · rw [if_pos hn] at h3; exact absurd h3 (by simp)
      · rw [if_neg hn] at h3 ⊢
        obtain ⟨g1, g2, g3⟩ := H9 hn
        have hl := Lg ws a
        obtain ⟨c, e1, e2, e3⟩ := Hb ws f _ _ (by omega) g3 h3
        refine ⟨(T9 ws a).1 :: c, by rw [e1]; simp, fun x hx => ?_, by rw [V0, e3, g2]⟩
        rcases List.mem_cons.1 hx with rfl | hx
        · exact g1
        · exact e2 x hx
theorem enc_dec {ws : List Int} (h : (Pw ws).2.1 = 0) : U6 (Pw ws).1 = (ws, 0, 0) := by
  unfold Pw at h ⊢
  by_cases hb : 65536 < ws.length
  · rw [if_pos hb] at h; exact absurd h (by simp)
  · rw [if_neg hb] at h ⊢
    obtain ⟨c, e1, e2, e3⟩ := Hb ws (ws.length + 2) 0 [] (by omega) (by omega) h
    rw [e1, List.nil_append]
    rw [List.drop_zero] at e3
    rw [P2 e2 (by rw [e3]; omega), e3]
theorem enc_joined {l m : List Ins} (hl : (U6 l).2.1 = 0) (hm : (U6 m).2.1 = 0) :
    U6 (l ++ m) = ((U6 l).1 ++ (U6 m).1, 0, 0) ∨ ((U6 (l ++ m)).2.1 = 4 ∧ 65536 < (U6 l).1.length + (U6 m).1.length) := by
  obtain ⟨a1, a2, a3⟩ := Mw hl
  obtain ⟨b1, b2, b3⟩ := Mw hm
  have e : wordsL (l ++ m) = wordsL l ++ wordsL m := by simp [wordsL]
  have hr : ∀ x ∈ l ++ m, X9 x = 0 := fun x hx => (List.mem_append.1 hx).elim (a1 x) (b1 x)
  by_cases hlen : (wordsL (l ++ m)).length ≤ 65536
  · left
    rw [P2 hr hlen, e, a3, b3]
  · right
    refine ⟨Le _ _ _ (by simp) hr (by simpa using hlen), ?_⟩
    rw [a3, b3, ← List.length_append, ← e]
    omega
end Go.Proofs.YtccjjcdjgibilaaDoor
