/-
  The plain laws of instructions and their words: what is encoded is decoded, what is decoded is encoded, programs one behind the other are words one behind the other. No program in sight; no conditions.
-/
import Derived.Test.YtibkcfpcfbodaaaRefB
import Derived.Test.YtibkcfpcfbodaaaDecode
namespace Go.Proofs.Ytibkcfpcfbodaaa
open Go.RowKit Vc
set_option linter.unusedVariables false

def wordsL (l : List Ins) : List Int := l.flatMap wordsI
theorem wordsL_cons (x : Ins) (l : List Ins) : wordsL (x :: l) = wordsI x ++ wordsL l := rfl

theorem enc_of : ∀ (l : List Ins) (k : Nat) (acc : List Int), (∀ x ∈ l, wrongI x = 0) → (acc ++ wordsL l).length ≤ 65536 → encL l k acc = (acc ++ wordsL l, 0, 0)
  | [], _, acc, _, _ => by simp [encL, wordsL]
  | x :: l, k, acc, h, hl => by
    have hx := h x (List.mem_cons_self ..)
    rw [wordsL_cons, ← List.append_assoc] at hl
    have hn : ¬ 65536 < (acc ++ wordsI x).length := by rw [List.length_append] at hl; omega
    simp only [encL, if_pos hx, if_neg hn]
    rw [enc_of l (k + 1) _ (fun y hy => h y (List.mem_cons_of_mem _ hy)) hl, wordsL_cons, List.append_assoc]

theorem enc_ok : ∀ (l : List Ins) (k : Nat) (acc : List Int), acc.length ≤ 65536 → (encL l k acc).2.1 = 0 → (∀ x ∈ l, wrongI x = 0) ∧ (acc ++ wordsL l).length ≤ 65536
  | [], _, acc, h, _ => ⟨fun x hx => (by cases hx), by simpa [wordsL] using h⟩
  | x :: l, k, acc, h, h0 => by
    simp only [encL] at h0
    split at h0
    · rename_i hx
      split at h0
      · exact absurd h0 (by simp)
      · rename_i hn
        obtain ⟨h1, h2⟩ := enc_ok l (k + 1) (acc ++ wordsI x) (by omega) h0
        refine ⟨fun y hy => ?_, by rw [wordsL_cons, ← List.append_assoc]; exact h2⟩
        rcases List.mem_cons.1 hy with rfl | hy
        · exact hx
        · exact h1 y hy
    · rename_i hx
      exact absurd h0 hx

theorem enc_much : ∀ (l : List Ins) (k : Nat) (acc : List Int), acc.length ≤ 65536 → (∀ x ∈ l, wrongI x = 0) → 65536 < (acc ++ wordsL l).length → (encL l k acc).2.1 = 4
  | [], _, acc, h, _, h2 => by simp [wordsL] at h2; omega
  | x :: l, k, acc, h, h1, h2 => by
    have hx := h1 x (List.mem_cons_self ..)
    simp only [encL, if_pos hx]
    split
    · rfl
    · rw [wordsL_cons, ← List.append_assoc] at h2
      exact enc_much l (k + 1) _ (by omega) (fun y hy => h1 y (List.mem_cons_of_mem _ hy)) h2

theorem encS_ok {l : List Ins} (h : (encS l).2.1 = 0) : (∀ x ∈ l, wrongI x = 0) ∧ (wordsL l).length ≤ 65536 ∧ encS l = (wordsL l, 0, 0) := by
  obtain ⟨h1, h2⟩ := enc_ok l 0 [] (by simp) h
  exact ⟨h1, h2, enc_of l 0 [] h1 h2⟩
theorem encS_of {l : List Ins} (h : ∀ x ∈ l, wrongI x = 0) (hl : (wordsL l).length ≤ 65536) : encS l = (wordsL l, 0, 0) := enc_of l 0 [] h hl

theorem word_parts {x : Ins} (h : wrongI x = 0) : wordI x / 1024 = x.op ∧ wordI x / 128 % 8 = (bareI x).d ∧ wordI x / 16 % 8 = (bareI x).s ∧ wordI x % 16 = 0 := by
  obtain ⟨h1, h2, h3, _⟩ := right_of x h
  unfold wordI bareI
  simp only
  cases hd : hasD x.op <;> cases hs : hasS x.op <;> simp only [Bool.false_eq_true, ↓reduceIte] <;> (try have h2' := h2 hd) <;> (try have h3' := h3 hs) <;> omega

theorem bare_right {x : Ins} (h : wrongI x = 0) : insOf (wordI x) (bareI x).imm = bareI x ∧ okW (wordI x) = true := by
  obtain ⟨h1, h2, h3, h4⟩ := word_parts h
  have hw := wordI_le h
  have hr := right_of x h
  refine ⟨by simp only [insOf, h1, h2, h3]; rfl, ?_⟩
  have hk : knownK x.op = true := by simp [knownK]; omega
  simp only [okW, h1, h2, h3, h4, hk, wordly, bareI]
  cases hd : hasD x.op <;> cases hs : hasS x.op <;> simp <;> omega

theorem getD_at (a b : List Int) (y : Int) : (a ++ y :: b).getD a.length 0 = y := by simp [List.getD]

theorem one_words (a rest : List Int) {x : Ins} (h : wrongI x = 0) : oneS (a ++ (wordsI x ++ rest)) a.length = (bareI x, ((wordsI x).length : Int)) := by
  obtain ⟨h1, h2⟩ := bare_right h
  have hp := (word_parts h).1
  unfold wordsI oneS
  cases hi : hasI x.op with
  | false =>
    have himm : (bareI x).imm = 0 := by simp [bareI, hi]
    simp only [hi, Bool.false_eq_true, if_false, List.cons_append, List.nil_append, List.length_append, List.length_cons, List.length_nil]
    rw [if_neg (by omega), Int.toNat_natCast, getD_at, if_neg (by simp [h2]), hp, if_pos hi]
    rw [himm] at h1
    rw [h1]; rfl
  | true =>
    have himm : (bareI x).imm = x.imm := bare_imm hi
    have him := (right_of x h).2.2.2 hi
    have hwy : wordly x.imm = true := by simp [wordly]; omega
    have hg : (a ++ wordI x :: x.imm :: rest).getD ((a.length : Int) + 1).toNat 0 = x.imm := by
      have e : ((a.length : Int) + 1).toNat = a.length + 1 := by omega
      rw [e]
      have := getD_at (a ++ [wordI x]) rest x.imm
      simp at this ⊢
    simp only [hi, if_true, List.cons_append, List.nil_append, List.length_append, List.length_cons, List.length_nil]
    rw [if_neg (by omega), Int.toNat_natCast, getD_at, if_neg (by simp [h2]), hp, if_neg (by simp [hi]), hg, if_pos ⟨by omega, hwy⟩]
    rw [himm] at h1
    rw [h1]; rfl

theorem dec_words : ∀ (l : List Ins) (a : List Int) (acc : List Ins) (f : Nat), (∀ x ∈ l, wrongI x = 0) → l.length ≤ f → decL (a ++ wordsL l) f a.length acc = (acc ++ l.map bareI, 0, 0)
  | [], a, acc, f, _, _ => by
    cases f with
    | zero => simp [decL]
    | succ f => simp [decL, wordsL]
  | x :: l, a, acc, f, h, hf => by
    have hx := h x (List.mem_cons_self ..)
    obtain ⟨f, rfl⟩ : ∃ g, f = g + 1 := ⟨f - 1, by simp at hf; omega⟩
    have hpos : 0 < (wordsI x).length := by simp [wordsI]
    have hlen : ¬ (a ++ (wordsI x ++ wordsL l)).length ≤ a.length := by simp only [List.length_append]; omega
    rw [wordsL_cons]
    simp only [decL, if_neg hlen, one_words a (wordsL l) hx, Int.toNat_natCast]
    rw [if_neg (by omega)]
    have := dec_words l (a ++ wordsI x) (acc ++ [bareI x]) f (fun y hy => h y (List.mem_cons_of_mem _ hy)) (by simp at hf; omega)
    rw [List.length_append, List.append_assoc] at this
    rw [this]; simp

theorem words_le (l : List Ins) : l.length ≤ (wordsL l).length := by
  induction l with
  | nil => simp
  | cons x l ih => rw [wordsL_cons, List.length_append, List.length_cons]; have : 0 < (wordsI x).length := by simp [wordsI]
                   omega

/-- what is encoded is decoded -/
theorem dec_enc {l : List Ins} (h : (encS l).2.1 = 0) : decS (encS l).1 = (l.map bareI, 0, 0) := by
  obtain ⟨h1, h2, h3⟩ := encS_ok h
  rw [h3]
  unfold decS
  rw [if_neg (by simp only; omega)]
  have := dec_words l [] [] ((wordsL l).length + 2) h1 (by have := words_le l; omega)
  simpa using this

theorem one_spec {ws : List Int} {a : Nat} (h : (oneS ws a).2 ≠ 0) : wrongI (oneS ws a).1 = 0 ∧ ws.drop a = wordsI (oneS ws a).1 ++ ws.drop (a + (oneS ws a).2.toNat) ∧ a + (oneS ws a).2.toNat ≤ ws.length := by
  unfold oneS at h ⊢
  by_cases hin : (a : Int) < 0 ∨ (ws.length : Int) ≤ a
  · rw [if_pos hin] at h; exact absurd rfl h
  rw [if_neg hin] at h ⊢
  have ha : a < ws.length := by omega
  have hdrop : ws.drop a = ws.getD a 0 :: ws.drop (a + 1) := by
    rw [List.drop_eq_getElem_cons ha]; simp [List.getD, ha]
  rw [Int.toNat_natCast] at h ⊢
  generalize ws.getD a 0 = x at h hdrop ⊢
  cases hok : okW x with
  | false => rw [if_pos hok] at h; exact absurd rfl h
  | true =>
    have hwx : wordly x = true := by simp [okW] at hok; exact hok.1.1.1.1
    have hno : ¬ okW x = false := by simp [hok]
    simp only [hok, Bool.true_eq_false, if_false] at h ⊢
    cases hi : hasI (x / 1024) with
    | false =>
      simp only [if_true]
      obtain ⟨h1, h2⟩ := (okW_iff hwx 0 (by simp [hi])).1 hok
      have hw : wordsI (insOf x 0) = [x] := by rw [words_N (by exact hi), h2]
      refine ⟨h1, ?_, ?_⟩
      · rw [hw, hdrop]; rfl
      · show a + 1 ≤ ws.length; omega
    | true =>
      simp only [hi, Bool.true_eq_false, if_false] at h ⊢
      by_cases hc : (a : Int) + 1 < ws.length ∧ wordly (ws.getD ((a : Int) + 1).toNat 0) = true
      · rw [if_pos hc]
        have e : ((a : Int) + 1).toNat = a + 1 := by omega
        rw [e] at hc ⊢
        have hb : a + 1 < ws.length := by omega
        have hdrop2 : ws.drop (a + 1) = ws.getD (a + 1) 0 :: ws.drop (a + 1 + 1) := by
          rw [List.drop_eq_getElem_cons hb]; simp [List.getD, hb]
        generalize ws.getD (a + 1) 0 = y at hdrop2 hc ⊢
        obtain ⟨h1, h2⟩ := (okW_iff hwx y (fun _ => hc.2)).1 hok
        have hw : wordsI (insOf x y) = [x, y] := by rw [words_I (by exact hi), h2]; rfl
        refine ⟨h1, ?_, ?_⟩
        · rw [hw, hdrop, hdrop2]; rfl
        · show a + 2 ≤ ws.length; omega
      · rw [if_neg hc] at h; exact absurd rfl h

theorem dec_ok (ws : List Int) : ∀ (f a : Nat) (acc : List Ins), ws.length < a + f → a ≤ ws.length → (decL ws f a acc).2.1 = 0 → ∃ c, (decL ws f a acc).1 = acc ++ c ∧ (∀ x ∈ c, wrongI x = 0) ∧ wordsL c = ws.drop a
  | 0, a, acc, h1, h2, h3 => by omega
  | f + 1, a, acc, h1, h2, h3 => by
    simp only [decL] at h3 ⊢
    by_cases ha : ws.length ≤ a
    · rw [if_pos ha]
      exact ⟨[], by simp, fun x hx => (by cases hx), by rw [List.drop_of_length_le ha]; rfl⟩
    · rw [if_neg ha] at h3 ⊢
      by_cases hn : (oneS ws a).2 = 0
      · rw [if_pos hn] at h3; exact absurd h3 (by simp)
      · rw [if_neg hn] at h3 ⊢
        obtain ⟨g1, g2, g3⟩ := one_spec hn
        have hl := oneS_len ws a
        obtain ⟨c, e1, e2, e3⟩ := dec_ok ws f _ _ (by omega) g3 h3
        refine ⟨(oneS ws a).1 :: c, by rw [e1]; simp, fun x hx => ?_, by rw [wordsL_cons, e3, g2]⟩
        rcases List.mem_cons.1 hx with rfl | hx
        · exact g1
        · exact e2 x hx

/-- what is decoded is encoded -/
theorem enc_dec {ws : List Int} (h : (decS ws).2.1 = 0) : encS (decS ws).1 = (ws, 0, 0) := by
  unfold decS at h ⊢
  by_cases hb : 65536 < ws.length
  · rw [if_pos hb] at h; exact absurd h (by simp)
  · rw [if_neg hb] at h ⊢
    obtain ⟨c, e1, e2, e3⟩ := dec_ok ws (ws.length + 2) 0 [] (by omega) (by omega) h
    rw [e1, List.nil_append]
    rw [List.drop_zero] at e3
    rw [encS_of e2 (by rw [e3]; omega), e3]

/-- programs one behind the other -/
theorem enc_joined {l m : List Ins} (hl : (encS l).2.1 = 0) (hm : (encS m).2.1 = 0) :
    encS (l ++ m) = ((encS l).1 ++ (encS m).1, 0, 0) ∨ ((encS (l ++ m)).2.1 = 4 ∧ 65536 < (encS l).1.length + (encS m).1.length) := by
  obtain ⟨a1, a2, a3⟩ := encS_ok hl
  obtain ⟨b1, b2, b3⟩ := encS_ok hm
  have e : wordsL (l ++ m) = wordsL l ++ wordsL m := by simp [wordsL]
  have hr : ∀ x ∈ l ++ m, wrongI x = 0 := fun x hx => (List.mem_append.1 hx).elim (a1 x) (b1 x)
  by_cases hlen : (wordsL (l ++ m)).length ≤ 65536
  · left
    rw [encS_of hr hlen, e, a3, b3]
  · right
    refine ⟨enc_much _ _ _ (by simp) hr (by simpa using hlen), ?_⟩
    rw [a3, b3, ← List.length_append, ← e]
    omega
end Go.Proofs.Ytibkcfpcfbodaaa
