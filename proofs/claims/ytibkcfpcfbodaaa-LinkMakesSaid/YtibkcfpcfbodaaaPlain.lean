/-
  The plain laws of instructions and their words: what is encoded is decoded, what is decoded is encoded, programs one behind the other are words one behind the other. No program in sight; no conditions.
-/
import Derived.Test.YtibkcfpcfbodaaaRefB
import Derived.Test.YtibkcfpcfbodaaaDecode
namespace Go.Proofs.Ytibkcfpcfbodaaa
open Go.RowKit Vc
set_option linter.unusedVariables false
set_option linter.unusedSimpArgs false
def W6 (l : List Ins) : List Int := l.flatMap W7
theorem Vw (x : Ins) (l : List Ins) : W6 (x :: l) = W7 x ++ W6 l := rfl
theorem Kx : ∀ (l : List Ins) (k : Nat) (acc : List Int), (∀ x ∈ l, We x = 0) → (acc ++ W6 l).length ≤ 65536 → R3 l k acc = (acc ++ W6 l, 0, 0)
  | [], _, acc, _, _ => by simp [R3, W6]
  | x :: l, k, acc, h, hl => by
    have hx := h x (List.mem_cons_self ..)
    rw [Vw, ← List.append_assoc] at hl
    have hn : ¬ 65536 < (acc ++ W7 x).length := by rw [List.length_append] at hl; omega
    simp only [R3, if_pos hx, if_neg hn]
    rw [Kx l (k + 1) _ (fun y hy => h y (List.mem_cons_of_mem _ hy)) hl, Vw, List.append_assoc]
theorem I8 : ∀ (l : List Ins) (k : Nat) (acc : List Int), acc.length ≤ 65536 → (R3 l k acc).2.1 = 0 → (∀ x ∈ l, We x = 0) ∧ (acc ++ W6 l).length ≤ 65536
  | [], _, acc, h, _ => ⟨fun x hx => (by cases hx), by simpa [W6] using h⟩
  | x :: l, k, acc, h, h0 => by
    simp only [R3] at h0
    split at h0
    · rename_i hx
      split at h0
      · exact absurd h0 (by simp)
      · rename_i hn
        obtain ⟨h1, h2⟩ := I8 l (k + 1) (acc ++ W7 x) (by omega) h0
        refine ⟨fun y hy => ?_, by rw [Vw, ← List.append_assoc]; exact h2⟩
        rcases List.mem_cons.1 hy with rfl | hy
        · exact hx
        · exact h1 y hy
    · rename_i hx
      exact absurd h0 hx
theorem Lv : ∀ (l : List Ins) (k : Nat) (acc : List Int), acc.length ≤ 65536 → (∀ x ∈ l, We x = 0) → 65536 < (acc ++ W6 l).length → (R3 l k acc).2.1 = 4
  | [], _, acc, h, _, h2 => by simp [W6] at h2; omega
  | x :: l, k, acc, h, h1, h2 => by
    have hx := h1 x (List.mem_cons_self ..)
    simp only [R3, if_pos hx]
    split
    · rfl
    · rw [Vw, ← List.append_assoc] at h2
      exact Lv l (k + 1) _ (by omega) (fun y hy => h1 y (List.mem_cons_of_mem _ hy)) h2
theorem Le {l : List Ins} (h : (Uv l).2.1 = 0) : (∀ x ∈ l, We x = 0) ∧ (W6 l).length ≤ 65536 ∧ Uv l = (W6 l, 0, 0) := by
  obtain ⟨h1, h2⟩ := I8 l 0 [] (by simp) h
  exact ⟨h1, h2, Kx l 0 [] h1 h2⟩
theorem Oh {l : List Ins} (h : ∀ x ∈ l, We x = 0) (hl : (W6 l).length ≤ 65536) : Uv l = (W6 l, 0, 0) := Kx l 0 [] h hl
theorem Nj {x : Ins} (h : We x = 0) : Vm x / 1024 = x.op ∧ Vm x / 128 % 8 = (Vb x).d ∧ Vm x / 16 % 8 = (Vb x).s ∧ Vm x % 16 = 0 := by
  obtain ⟨h1, h2, h3, _⟩ := Tq x h
  unfold Vm Vb
  simp only
  cases hd : Sa x.op <;> cases hs : T9 x.op <;> simp only [Bool.false_eq_true, ↓reduceIte] <;> (try have h2' := h2 hd) <;> (try have h3' := h3 hs) <;> omega
theorem Ks {x : Ins} (h : We x = 0) : Ph (Vm x) (Vb x).imm = Vb x ∧ okW (Vm x) = true := by
  obtain ⟨h1, h2, h3, h4⟩ := Nj h
  have hw := Hf h
  have hr := Tq x h
  refine ⟨by simp only [Ph, h1, h2, h3]; rfl, ?_⟩
  have hk : V2 x.op = true := by simp [V2]; omega
  simp only [okW, h1, h2, h3, h4, hk, Ue, Vb]
  cases hd : Sa x.op <;> cases hs : T9 x.op <;> simp <;> omega
theorem M9 (a b : List Int) (y : Int) : (a ++ y :: b).getD a.length 0 = y := by simp [List.getD]
theorem Ic (a rest : List Int) {x : Ins} (h : We x = 0) : S4 (a ++ (W7 x ++ rest)) a.length = (Vb x, ((W7 x).length : Int)) := by
  obtain ⟨h1, h2⟩ := Ks h
  have hp := (Nj h).1
  unfold W7 S4
  cases hi : hasI x.op with
  | false =>
    have himm : (Vb x).imm = 0 := by simp [Vb, hi]
    simp only [hi, Bool.false_eq_true, if_false, List.cons_append, List.nil_append, List.length_append, List.length_cons, List.length_nil]
    rw [if_neg (by omega), Int.toNat_natCast, M9, if_neg (by simp [h2]), hp, if_pos hi]
    rw [himm] at h1
    rw [h1]; rfl
  | true =>
    have himm : (Vb x).imm = x.imm := Lt hi
    have him := (Tq x h).2.2.2 hi
    have hwy : Ue x.imm = true := by simp [Ue]; omega
    have hg : (a ++ Vm x :: x.imm :: rest).getD ((a.length : Int) + 1).toNat 0 = x.imm := by
      have e : ((a.length : Int) + 1).toNat = a.length + 1 := by omega
      rw [e]
      have := M9 (a ++ [Vm x]) rest x.imm
      simp at this ⊢
    simp only [hi, if_true, List.cons_append, List.nil_append, List.length_append, List.length_cons, List.length_nil]
    rw [if_neg (by omega), Int.toNat_natCast, M9, if_neg (by simp [h2]), hp, if_neg (by simp [hi]), hg, if_pos ⟨by omega, hwy⟩]
    rw [himm] at h1
    rw [h1]; rfl
theorem Mk : ∀ (l : List Ins) (a : List Int) (acc : List Ins) (f : Nat), (∀ x ∈ l, We x = 0) → l.length ≤ f → P2 (a ++ W6 l) f a.length acc = (acc ++ l.map Vb, 0, 0)
  | [], a, acc, f, _, _ => by
    cases f with
    | zero => simp [P2]
    | succ f => simp [P2, W6]
  | x :: l, a, acc, f, h, hf => by
    have hx := h x (List.mem_cons_self ..)
    obtain ⟨f, rfl⟩ : ∃ g, f = g + 1 := ⟨f - 1, by simp at hf; omega⟩
    have hpos : 0 < (W7 x).length := by simp [W7]
    have hlen : ¬ (a ++ (W7 x ++ W6 l)).length ≤ a.length := by simp only [List.length_append]; omega
    rw [Vw]
    simp only [P2, if_neg hlen, Ic a (W6 l) hx, Int.toNat_natCast]
    rw [if_neg (by omega)]
    have := Mk l (a ++ W7 x) (acc ++ [Vb x]) f (fun y hy => h y (List.mem_cons_of_mem _ hy)) (by simp at hf; omega)
    rw [List.length_append, List.append_assoc] at this
    rw [this]; simp
theorem Hb (l : List Ins) : l.length ≤ (W6 l).length := by
  induction l with
  | nil => simp
  | cons x l ih => rw [Vw, List.length_append, List.length_cons]; have : 0 < (W7 x).length := by simp [W7]
                   omega
theorem dec_enc {l : List Ins} (h : (Uv l).2.1 = 0) : O2 (Uv l).1 = (l.map Vb, 0, 0) := by
  obtain ⟨h1, h2, h3⟩ := Le h
  rw [h3]
  unfold O2
  rw [if_neg (by simp only; omega)]
  have := Mk l [] [] ((W6 l).length + 2) h1 (by have := Hb l; omega)
  simpa using this
theorem Ir {ws : List Int} {a : Nat} (h : (S4 ws a).2 ≠ 0) : We (S4 ws a).1 = 0 ∧ ws.drop a = W7 (S4 ws a).1 ++ ws.drop (a + (S4 ws a).2.toNat) ∧ a + (S4 ws a).2.toNat ≤ ws.length := by
  unfold S4 at h ⊢
  by_cases hin : (a : Int) < 0 ∨ (ws.length : Int) ≤ a
  · rw [if_pos hin] at h; exact absurd rfl h
  rw [if_neg hin] at h ⊢
  have ha : a < ws.length := by omega
  have hdrop : ws.drop a = ws.getD a 0 :: ws.drop (a + 1) := by
    rw [List.drop_eq_getElem_cons ha]; simp [List.getD, ha]
  rw [Int.toNat_natCast] at h ⊢
  generalize ws.getD a 0 = x at h hdrop ⊢
  cases hok : okW x with
  | false => rw [if_pos hok] at h; exact absurd rfl h
  | true =>
    have hwx : Ue x = true := by simp [okW] at hok; exact hok.1.1.1.1
    have hno : ¬ okW x = false := by simp [hok]
    simp only [hok, Bool.true_eq_false, if_false] at h ⊢
    cases hi : hasI (x / 1024) with
    | false =>
      simp only [if_true]
      obtain ⟨h1, h2⟩ := (Jm hwx 0 (by simp [hi])).1 hok
      have hw : W7 (Ph x 0) = [x] := by rw [Mu (by exact hi), h2]
      refine ⟨h1, ?_, ?_⟩
      · rw [hw, hdrop]; rfl
      · show a + 1 ≤ ws.length; omega
    | true =>
      simp only [hi, Bool.true_eq_false, if_false] at h ⊢
      by_cases hc : (a : Int) + 1 < ws.length ∧ Ue (ws.getD ((a : Int) + 1).toNat 0) = true
      · rw [if_pos hc]
        have e : ((a : Int) + 1).toNat = a + 1 := by omega
        rw [e] at hc ⊢
        have hb : a + 1 < ws.length := by omega
        have hdrop2 : ws.drop (a + 1) = ws.getD (a + 1) 0 :: ws.drop (a + 1 + 1) := by
          rw [List.drop_eq_getElem_cons hb]; simp [List.getD, hb]
        generalize ws.getD (a + 1) 0 = y at hdrop2 hc ⊢
        obtain ⟨h1, h2⟩ := (Jm hwx y (fun _ => hc.2)).1 hok
        have hw : W7 (Ph x y) = [x, y] := by rw [M1 (by exact hi), h2]; rfl
        refine ⟨h1, ?_, ?_⟩
        · rw [hw, hdrop, hdrop2]; rfl
        · show a + 2 ≤ ws.length; omega
      · rw [if_neg hc] at h; exact absurd rfl h
theorem Iv (ws : List Int) : ∀ (f a : Nat) (acc : List Ins), ws.length < a + f → a ≤ ws.length → (P2 ws f a acc).2.1 = 0 → ∃ c, (P2 ws f a acc).1 = acc ++ c ∧ (∀ x ∈ c, We x = 0) ∧ W6 c = ws.drop a
  | 0, a, acc, h1, h2, h3 => by omega
  | f + 1, a, acc, h1, h2, h3 => by
    simp only [P2] at h3 ⊢
    by_cases ha : ws.length ≤ a
    · rw [if_pos ha]
      exact ⟨[], by simp, fun x hx => (by cases hx), by rw [List.drop_of_length_le ha]; rfl⟩
    · rw [if_neg ha] at h3 ⊢
      by_cases hn : (S4 ws a).2 = 0
      · rw [if_pos hn] at h3; exact absurd h3 (by simp)
      · rw [if_neg hn] at h3 ⊢
        obtain ⟨g1, g2, g3⟩ := Ir hn
        have hl := Kc ws a
        obtain ⟨c, e1, e2, e3⟩ := Iv ws f _ _ (by omega) g3 h3
        refine ⟨(S4 ws a).1 :: c, by rw [e1]; simp, fun x hx => ?_, by rw [Vw, e3, g2]⟩
        rcases List.mem_cons.1 hx with rfl | hx
        · exact g1
        · exact e2 x hx
theorem enc_dec {ws : List Int} (h : (O2 ws).2.1 = 0) : Uv (O2 ws).1 = (ws, 0, 0) := by
  unfold O2 at h ⊢
  by_cases hb : 65536 < ws.length
  · rw [if_pos hb] at h; exact absurd h (by simp)
  · rw [if_neg hb] at h ⊢
    obtain ⟨c, e1, e2, e3⟩ := Iv ws (ws.length + 2) 0 [] (by omega) (by omega) h
    rw [e1, List.nil_append]
    rw [List.drop_zero] at e3
    rw [Oh e2 (by rw [e3]; omega), e3]
theorem enc_joined {l m : List Ins} (hl : (Uv l).2.1 = 0) (hm : (Uv m).2.1 = 0) :
    Uv (l ++ m) = ((Uv l).1 ++ (Uv m).1, 0, 0) ∨ ((Uv (l ++ m)).2.1 = 4 ∧ 65536 < (Uv l).1.length + (Uv m).1.length) := by
  obtain ⟨a1, a2, a3⟩ := Le hl
  obtain ⟨b1, b2, b3⟩ := Le hm
  have e : W6 (l ++ m) = W6 l ++ W6 m := by simp [W6]
  have hr : ∀ x ∈ l ++ m, We x = 0 := fun x hx => (List.mem_append.1 hx).elim (a1 x) (b1 x)
  by_cases hlen : (W6 (l ++ m)).length ≤ 65536
  · left
    rw [Oh hr hlen, e, a3, b3]
  · right
    refine ⟨Lv _ _ _ (by simp) hr (by simpa using hlen), ?_⟩
    rw [a3, b3, ← List.length_append, ← e]
    omega
end Go.Proofs.Ytibkcfpcfbodaaa
