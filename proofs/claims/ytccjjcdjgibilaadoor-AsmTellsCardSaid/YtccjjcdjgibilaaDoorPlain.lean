/-
  The plain laws of instructions and their words: what is encoded is decoded, what is decoded is encoded, programs one behind the other are words one behind the other. No program in sight; no conditions.
-/
import Derived.Test.YtccjjcdjgibilaaDoorRefB
import Derived.Test.YtccjjcdjgibilaaDoorDecode
namespace Go.Proofs.YtccjjcdjgibilaaDoor
open Go.RowKit Vc
set_option linter.unusedVariables false
set_option linter.unusedSimpArgs false
def Wc (l : List Ins) : List Int := l.flatMap Wv
theorem Vr (x : Ins) (l : List Ins) : Wc (x :: l) = Wv x ++ Wc l := rfl
theorem M7 : ∀ (l : List Ins) (k : Nat) (acc : List Int), (∀ x ∈ l, X2 x = 0) → (acc ++ Wc l).length ≤ 65536 → Sk l k acc = (acc ++ Wc l, 0, 0)
  | [], _, acc, _, _ => by simp [Sk, Wc]
  | x :: l, k, acc, h, hl => by
    have hx := h x (List.mem_cons_self ..)
    rw [Vr, ← List.append_assoc] at hl
    have hn : ¬ 65536 < (acc ++ Wv x).length := by rw [List.length_append] at hl; omega
    simp only [Sk, if_pos hx, if_neg hn]
    rw [M7 l (k + 1) _ (fun y hy => h y (List.mem_cons_of_mem _ hy)) hl, Vr, List.append_assoc]
theorem Kn : ∀ (l : List Ins) (k : Nat) (acc : List Int), acc.length ≤ 65536 → (Sk l k acc).2.1 = 0 → (∀ x ∈ l, X2 x = 0) ∧ (acc ++ Wc l).length ≤ 65536
  | [], _, acc, h, _ => ⟨fun x hx => (by cases hx), by simpa [Wc] using h⟩
  | x :: l, k, acc, h, h0 => by
    simp only [Sk] at h0
    split at h0
    · rename_i hx
      split at h0
      · exact absurd h0 (by simp)
      · rename_i hn
        obtain ⟨h1, h2⟩ := Kn l (k + 1) (acc ++ Wv x) (by omega) h0
        refine ⟨fun y hy => ?_, by rw [Vr, ← List.append_assoc]; exact h2⟩
        rcases List.mem_cons.1 hy with rfl | hy
        · exact hx
        · exact h1 y hy
    · rename_i hx
      exact absurd h0 hx
theorem Mn : ∀ (l : List Ins) (k : Nat) (acc : List Int), acc.length ≤ 65536 → (∀ x ∈ l, X2 x = 0) → 65536 < (acc ++ Wc l).length → (Sk l k acc).2.1 = 4
  | [], _, acc, h, _, h2 => by simp [Wc] at h2; omega
  | x :: l, k, acc, h, h1, h2 => by
    have hx := h1 x (List.mem_cons_self ..)
    simp only [Sk, if_pos hx]
    split
    · rfl
    · rw [Vr, ← List.append_assoc] at h2
      exact Mn l (k + 1) _ (by omega) (fun y hy => h1 y (List.mem_cons_of_mem _ hy)) h2
theorem Nj {l : List Ins} (h : (encS l).2.1 = 0) : (∀ x ∈ l, X2 x = 0) ∧ (Wc l).length ≤ 65536 ∧ encS l = (Wc l, 0, 0) := by
  obtain ⟨h1, h2⟩ := Kn l 0 [] (by simp) h
  exact ⟨h1, h2, M7 l 0 [] h1 h2⟩
theorem Nf {l : List Ins} (h : ∀ x ∈ l, X2 x = 0) (hl : (Wc l).length ≤ 65536) : encS l = (Wc l, 0, 0) := M7 l 0 [] h hl
theorem P4 {x : Ins} (h : X2 x = 0) : W3 x / 1024 = x.op ∧ W3 x / 128 % 8 = (Ww x).d ∧ W3 x / 16 % 8 = (Ww x).s ∧ W3 x % 16 = 0 := by
  obtain ⟨h1, h2, h3, _⟩ := Uu x h
  unfold W3 Ww
  simp only
  cases hd : Ug x.op <;> cases hs : Uf x.op <;> simp only [Bool.false_eq_true, ↓reduceIte] <;> (try have h2' := h2 hd) <;> (try have h3' := h3 hs) <;> omega
theorem La {x : Ins} (h : X2 x = 0) : Rz (W3 x) (Ww x).imm = Ww x ∧ okW (W3 x) = true := by
  obtain ⟨h1, h2, h3, h4⟩ := P4 h
  have hw := K8 h
  have hr := Uu x h
  refine ⟨by simp only [Rz, h1, h2, h3]; rfl, ?_⟩
  have hk : Wz x.op = true := by simp [Wz]; omega
  simp only [okW, h1, h2, h3, h4, hk, Vn, Ww]
  cases hd : Ug x.op <;> cases hs : Uf x.op <;> simp <;> omega
theorem Oz (a b : List Int) (y : Int) : (a ++ y :: b).getD a.length 0 = y := by simp [List.getD]
theorem Kl (a rest : List Int) {x : Ins} (h : X2 x = 0) : Tp (a ++ (Wv x ++ rest)) a.length = (Ww x, ((Wv x).length : Int)) := by
  obtain ⟨h1, h2⟩ := La h
  have hp := (P4 h).1
  unfold Wv Tp
  cases hi : hasI x.op with
  | false =>
    have himm : (Ww x).imm = 0 := by simp [Ww, hi]
    simp only [hi, Bool.false_eq_true, if_false, List.cons_append, List.nil_append, List.length_append, List.length_cons, List.length_nil]
    rw [if_neg (by omega), Int.toNat_natCast, Oz, if_neg (by simp [h2]), hp, if_pos hi]
    rw [himm] at h1
    rw [h1]; rfl
  | true =>
    have himm : (Ww x).imm = x.imm := Mp hi
    have him := (Uu x h).2.2.2 hi
    have hwy : Vn x.imm = true := by simp [Vn]; omega
    have hg : (a ++ W3 x :: x.imm :: rest).getD ((a.length : Int) + 1).toNat 0 = x.imm := by
      have e : ((a.length : Int) + 1).toNat = a.length + 1 := by omega
      rw [e]
      have := Oz (a ++ [W3 x]) rest x.imm
      simp at this ⊢
    simp only [hi, if_true, List.cons_append, List.nil_append, List.length_append, List.length_cons, List.length_nil]
    rw [if_neg (by omega), Int.toNat_natCast, Oz, if_neg (by simp [h2]), hp, if_neg (by simp [hi]), hg, if_pos ⟨by omega, hwy⟩]
    rw [himm] at h1
    rw [h1]; rfl
theorem Oj : ∀ (l : List Ins) (a : List Int) (acc : List Ins) (f : Nat), (∀ x ∈ l, X2 x = 0) → l.length ≤ f → Qd (a ++ Wc l) f a.length acc = (acc ++ l.map Ww, 0, 0)
  | [], a, acc, f, _, _ => by
    cases f with
    | zero => simp [Qd]
    | succ f => simp [Qd, Wc]
  | x :: l, a, acc, f, h, hf => by
    have hx := h x (List.mem_cons_self ..)
    obtain ⟨f, rfl⟩ : ∃ g, f = g + 1 := ⟨f - 1, by simp at hf; omega⟩
    have hpos : 0 < (Wv x).length := by simp [Wv]
    have hlen : ¬ (a ++ (Wv x ++ Wc l)).length ≤ a.length := by simp only [List.length_append]; omega
    rw [Vr]
    simp only [Qd, if_neg hlen, Kl a (Wc l) hx, Int.toNat_natCast]
    rw [if_neg (by omega)]
    have := Oj l (a ++ Wv x) (acc ++ [Ww x]) f (fun y hy => h y (List.mem_cons_of_mem _ hy)) (by simp at hf; omega)
    rw [List.length_append, List.append_assoc] at this
    rw [this]; simp
theorem Kx (l : List Ins) : l.length ≤ (Wc l).length := by
  induction l with
  | nil => simp
  | cons x l ih => rw [Vr, List.length_append, List.length_cons]; have : 0 < (Wv x).length := by simp [Wv]
                   omega
theorem dec_enc {l : List Ins} (h : (encS l).2.1 = 0) : Pn (encS l).1 = (l.map Ww, 0, 0) := by
  obtain ⟨h1, h2, h3⟩ := Nj h
  rw [h3]
  unfold Pn
  rw [if_neg (by simp only; omega)]
  have := Oj l [] [] ((Wc l).length + 2) h1 (by have := Kx l; omega)
  simpa using this
theorem Kv {ws : List Int} {a : Nat} (h : (Tp ws a).2 ≠ 0) : X2 (Tp ws a).1 = 0 ∧ ws.drop a = Wv (Tp ws a).1 ++ ws.drop (a + (Tp ws a).2.toNat) ∧ a + (Tp ws a).2.toNat ≤ ws.length := by
  unfold Tp at h ⊢
  by_cases hin : (a : Int) < 0 ∨ (ws.length : Int) ≤ a
  · rw [if_pos hin] at h; exact absurd rfl h
  rw [if_neg hin] at h ⊢
  have ha : a < ws.length := by omega
  have hdrop : ws.drop a = ws.getD a 0 :: ws.drop (a + 1) := by
    rw [List.drop_eq_getElem_cons ha]; simp [List.getD, ha]
  rw [Int.toNat_natCast] at h ⊢
  generalize ws.getD a 0 = x at h hdrop ⊢
  cases hok : okW x with
  | false => rw [if_pos hok] at h; exact absurd rfl h
  | true =>
    have hwx : Vn x = true := by simp [okW] at hok; exact hok.1.1.1.1
    have hno : ¬ okW x = false := by simp [hok]
    simp only [hok, Bool.true_eq_false, if_false] at h ⊢
    cases hi : hasI (x / 1024) with
    | false =>
      simp only [if_true]
      obtain ⟨h1, h2⟩ := (Lr hwx 0 (by simp [hi])).1 hok
      have hw : Wv (Rz x 0) = [x] := by rw [Nk (by exact hi), h2]
      refine ⟨h1, ?_, ?_⟩
      · rw [hw, hdrop]; rfl
      · show a + 1 ≤ ws.length; omega
    | true =>
      simp only [hi, Bool.true_eq_false, if_false] at h ⊢
      by_cases hc : (a : Int) + 1 < ws.length ∧ Vn (ws.getD ((a : Int) + 1).toNat 0) = true
      · rw [if_pos hc]
        have e : ((a : Int) + 1).toNat = a + 1 := by omega
        rw [e] at hc ⊢
        have hb : a + 1 < ws.length := by omega
        have hdrop2 : ws.drop (a + 1) = ws.getD (a + 1) 0 :: ws.drop (a + 1 + 1) := by
          rw [List.drop_eq_getElem_cons hb]; simp [List.getD, hb]
        generalize ws.getD (a + 1) 0 = y at hdrop2 hc ⊢
        obtain ⟨h1, h2⟩ := (Lr hwx y (fun _ => hc.2)).1 hok
        have hw : Wv (Rz x y) = [x, y] := by rw [Nh (by exact hi), h2]; rfl
        refine ⟨h1, ?_, ?_⟩
        · rw [hw, hdrop, hdrop2]; rfl
        · show a + 2 ≤ ws.length; omega
      · rw [if_neg hc] at h; exact absurd rfl h
theorem K7 (ws : List Int) : ∀ (f a : Nat) (acc : List Ins), ws.length < a + f → a ≤ ws.length → (Qd ws f a acc).2.1 = 0 → ∃ c, (Qd ws f a acc).1 = acc ++ c ∧ (∀ x ∈ c, X2 x = 0) ∧ Wc c = ws.drop a
  | 0, a, acc, h1, h2, h3 => by omega
  | f + 1, a, acc, h1, h2, h3 => by
    simp only [Qd] at h3 ⊢
    by_cases ha : ws.length ≤ a
    · rw [if_pos ha]
      exact ⟨[], by simp, fun x hx => (by cases hx), by rw [List.drop_of_length_le ha]; rfl⟩
    · rw [if_neg ha] at h3 ⊢
      by_cases hn : (Tp ws a).2 = 0
      · rw [if_pos hn] at h3; exact absurd h3 (by simp)
      · rw [if_neg hn] at h3 ⊢
        obtain ⟨g1, g2, g3⟩ := Kv hn
        have hl := N7 ws a
        obtain ⟨c, e1, e2, e3⟩ := K7 ws f _ _ (by omega) g3 h3
        refine ⟨(Tp ws a).1 :: c, by rw [e1]; simp, fun x hx => ?_, by rw [Vr, e3, g2]⟩
        rcases List.mem_cons.1 hx with rfl | hx
        · exact g1
        · exact e2 x hx
theorem enc_dec {ws : List Int} (h : (Pn ws).2.1 = 0) : encS (Pn ws).1 = (ws, 0, 0) := by
  unfold Pn at h ⊢
  by_cases hb : 65536 < ws.length
  · rw [if_pos hb] at h; exact absurd h (by simp)
  · rw [if_neg hb] at h ⊢
    obtain ⟨c, e1, e2, e3⟩ := K7 ws (ws.length + 2) 0 [] (by omega) (by omega) h
    rw [e1, List.nil_append]
    rw [List.drop_zero] at e3
    rw [Nf e2 (by rw [e3]; omega), e3]
theorem enc_joined {l m : List Ins} (hl : (encS l).2.1 = 0) (hm : (encS m).2.1 = 0) :
    encS (l ++ m) = ((encS l).1 ++ (encS m).1, 0, 0) ∨ ((encS (l ++ m)).2.1 = 4 ∧ 65536 < (encS l).1.length + (encS m).1.length) := by
  obtain ⟨a1, a2, a3⟩ := Nj hl
  obtain ⟨b1, b2, b3⟩ := Nj hm
  have e : Wc (l ++ m) = Wc l ++ Wc m := by simp [Wc]
  have hr : ∀ x ∈ l ++ m, X2 x = 0 := fun x hx => (List.mem_append.1 hx).elim (a1 x) (b1 x)
  by_cases hlen : (Wc (l ++ m)).length ≤ 65536
  · left
    rw [Nf hr hlen, e, a3, b3]
  · right
    refine ⟨Mn _ _ _ (by simp) hr (by simpa using hlen), ?_⟩
    rw [a3, b3, ← List.length_append, ← e]
    omega
end Go.Proofs.YtccjjcdjgibilaaDoor
