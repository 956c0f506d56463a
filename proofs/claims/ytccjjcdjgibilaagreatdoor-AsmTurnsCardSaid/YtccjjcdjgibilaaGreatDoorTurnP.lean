/-
  A plain law: what is written of lines is read as these lines with their own fields, and what is read is right. No program in sight; no conditions.
-/
import Derived.Test.YtccjjcdjgibilaaGreatDoorReadN
import Derived.Test.YtccjjcdjgibilaaGreatDoorTellP
namespace Go.Proofs.YtccjjcdjgibilaaGreatDoor
open Go Go.RowKit Vc
set_option linter.unusedVariables false
set_option linter.unusedSimpArgs false
def okC (b : UInt8) : Prop := b ≠ 10 ∧ b ≠ 59 ∧ b ≠ 32 ∧ b ≠ 9 ∧ b ≠ 44 ∧ b ≠ 58
instance (b : UInt8) : Decidable (okC b) := by unfold okC; exact inferInstance
def okT (s : List UInt8) : Prop := s ≠ [] ∧ ∀ b ∈ s, okC b
instance (s : List UInt8) : Decidable (okT s) := by unfold okT; exact inferInstance
theorem T2 {b : UInt8} (h : okC b) : ¬ blk b := fun e => e.elim h.2.2.1 h.2.2.2.1
theorem Hq {b : UInt8} (h : 46 ≤ b.toNat ∧ b.toNat ≤ 57 ∨ 95 ≤ b.toNat ∧ b.toNat ≤ 122) (h2 : b.toNat ≠ 58) : okC b := by
  refine ⟨?_, ?_, ?_, ?_, ?_, ?_⟩ <;> (rintro rfl; simp at h h2)
theorem Nr (s : List UInt8) : trimB s = Lib.trimRightS (Lib.trimLeftS s [32, 9]) [32, 9] := Ni [32, 9] s
theorem Oh {b : UInt8} (h : blk b) (s : List UInt8) : trimB (b :: s) = trimB s := by rw [Nr, Nr, Iw h]
theorem Pd {s : List UInt8} (h1 : ∀ b, s.head? = some b → ¬ blk b) (h2 : ∀ b, s.getLast? = some b → ¬ blk b) : trimB s = s := by
  rw [Nr]
  cases s with
  | nil => rfl
  | cons b r =>
    rw [left_no (h1 b rfl)]
    rcases List.eq_nil_or_concat (b :: r) with h | ⟨m, c, h⟩
    · cases h
    · rw [List.concat_eq_append] at h
      rw [h] at h2 ⊢
      exact I4 (h2 c (by simp))
theorem M3 {s : List UInt8} (h : okT s) : trimB s = s :=
  Pd (fun b hb => T2 (h.2 b (List.mem_of_mem_head? hb))) (fun b hb => T2 (h.2 b (List.mem_of_mem_getLast? hb)))
theorem trimB_nil : trimB [] = [] := rfl
def jn : List (List UInt8) → List UInt8
  | [] => []
  | [p] => p
  | p :: q :: r => p ++ 44 :: 32 :: jn (q :: r)
theorem K4 : ∀ ps : List (List UInt8), Lib.join ps [44, 32] = jn ps
  | [] => rfl
  | [p] => by simp [Lib.join, List.intercalate, jn]
  | p :: q :: r => by
    have ih := K4 (q :: r)
    unfold Lib.join at ih ⊢
    rw [jn, ← ih]
    simp [List.intercalate, List.intersperse]
theorem jn_mem : ∀ {ps : List (List UInt8)} {b : UInt8}, b ∈ jn ps → (∃ p ∈ ps, b ∈ p) ∨ b = 44 ∨ b = 32
  | [], b, h => by cases h
  | [p], b, h => .inl ⟨p, List.mem_cons_self .., h⟩
  | p :: q :: r, b, h => by
    simp only [jn, List.mem_append, List.mem_cons] at h
    rcases h with h | h | h | h
    · exact .inl ⟨p, List.mem_cons_self .., h⟩
    · exact .inr (.inl h)
    · exact .inr (.inr h)
    · rcases jn_mem h with ⟨x, hx, hb⟩ | h
      · exact .inl ⟨x, List.mem_cons_of_mem _ hx, hb⟩
      · exact .inr h
theorem N6 {p : List UInt8} {ps : List (List UInt8)} (hp : p ≠ []) : (jn (p :: ps)).head? = p.head? := by
  cases p with
  | nil => exact absurd rfl hp
  | cons b t =>
    cases ps with
    | nil => rfl
    | cons q r => rfl
theorem Ny : ∀ {ps : List (List UInt8)} {b : UInt8}, (∀ p ∈ ps, okT p) → (jn ps).getLast? = some b → okC b
  | [], b, _, h => by cases h
  | [p], b, hp, h => (hp p (List.mem_cons_self ..)).2 b (List.mem_of_mem_getLast? h)
  | p :: q :: r, b, hp, h => by
    refine Ny (ps := q :: r) (fun y hy => hp y (List.mem_cons_of_mem _ hy)) ?_
    have hne : jn (q :: r) ≠ [] := by
      intro e
      have := N6 (ps := r) (hp q (by simp)).1
      rw [e] at this
      have hq := (hp q (by simp)).1
      cases q with
      | nil => exact hq rfl
      | cons => cases this
    rw [← h, jn, List.getLast?_append, List.getLast?_cons_cons, List.getLast?_cons]
    cases hj : (jn (q :: r)).getLast? with
    | none => exact absurd (List.getLast?_eq_none_iff.1 hj) hne
    | some c => simp [hj]
theorem Mo {c : UInt8} (hc : c ≠ 32) (s : List UInt8) : (splitS c (32 :: s)).map trimB = (splitS c s).map trimB := by
  rw [Vo, if_neg (fun e => hc e.symm)]
  have hne := R6 c s
  cases hs : splitS c s with
  | nil => exact absurd hs hne
  | cons y ys => simp only [List.map_cons, Oh (.inl rfl : blk 32)]
theorem Lq : ∀ {ps : List (List UInt8)}, ps ≠ [] → (∀ p ∈ ps, okT p) → (splitS 44 (jn ps)).map trimB = ps
  | [], h, _ => absurd rfl h
  | [p], _, hp => by
    have h := hp p (List.mem_cons_self ..)
    rw [jn, Sm 44 p (fun hm => (h.2 _ hm).2.2.2.2.1 rfl), List.map_singleton, M3 h]
  | p :: q :: r, _, hp => by
    have h := hp p (List.mem_cons_self ..)
    rw [jn, S9 44 p _ (fun hm => (h.2 _ hm).2.2.2.2.1 rfl), List.map_cons, M3 h, Mo (by decide), Lq (by simp) fun y hy => hp y (List.mem_cons_of_mem _ hy)]
theorem jn_trim {ps : List (List UInt8)} (hp : ∀ p ∈ ps, okT p) : trimB (jn ps) = jn ps := by
  refine Pd (fun b hb => ?_) fun b hb => T2 (Ny hp hb)
  cases ps with
  | nil => cases hb
  | cons p ps =>
    have h := hp p (List.mem_cons_self ..)
    rw [N6 h.1] at hb
    exact T2 (h.2 b (List.mem_of_mem_head? hb))
theorem Ir {ps : List (List UInt8)} (hp : ∀ p ∈ ps, okT p) : jn ps = [] ↔ ps = [] := by
  constructor
  · intro e
    cases ps with
    | nil => rfl
    | cons p ps =>
      have h := hp p (List.mem_cons_self ..)
      have := N6 (ps := ps) h.1
      rw [e] at this
      have h1 := h.1
      cases p with
      | nil => exact absurd rfl h1
      | cons => cases this
  · rintro rfl; rfl
theorem Im {ps : List (List UInt8)} (hp : ∀ p ∈ ps, okT p) : Uq (jn ps) = ps := by
  unfold Uq
  rw [jn_trim hp]
  by_cases h : ps = []
  · subst h; rfl
  · rw [if_neg (fun e => h ((Ir hp).1 e)), Lq h hp]
theorem Qq : ∀ (l : List UInt8) (acc : Nat) (b : UInt8) (v d : Nat), Lib.decFrom acc l = some v → Lib.digitVal b = some d → Lib.decFrom acc (l ++ [b]) = some (v * 10 + d)
  | [], acc, b, v, d, h, hd => by
    simp only [Lib.decFrom, Option.some.injEq] at h
    subst h
    simp [Lib.decFrom, hd]
  | x :: l, acc, b, v, d, h, hd => by
    simp only [Lib.decFrom, List.cons_append] at h ⊢
    cases hx : Lib.digitVal x with
    | none => rw [hx] at h; cases h
    | some e =>
      rw [hx] at h
      exact Qq l _ b v d h hd
theorem Qs {k : Nat} (h : k < 10) : Lib.digitVal (UInt8.ofNat (48 + k)) = some k := by
  have e : (UInt8.ofNat (48 + k)).toNat = 48 + k := by
    rw [UInt8.toNat_ofNat']; omega
  unfold Lib.digitVal
  rw [e, if_pos (by omega)]
  congr 1; omega
theorem Kg (u : Nat) : Lib.decFrom 0 (Lib.decDigits u) = some u := by
  induction u using Nat.strongRecOn with
  | _ u ih =>
  rw [Lib.decDigits]
  split
  · rename_i h
    have e : Lib.decFrom 0 [UInt8.ofNat (48 + u)] = match Lib.digitVal (UInt8.ofNat (48 + u)) with | some d => Lib.decFrom (0 * 10 + d) [] | none => none := rfl
    rw [e, Qs h]
    simp [Lib.decFrom]
  · rename_i h
    rw [Qq _ 0 _ (u / 10) (u % 10) (ih (u / 10) (by omega)) (Qs (Nat.mod_lt _ (by decide)))]
    congr 1; omega
theorem Pk : ∀ (k u : Nat), u < 10 ^ (k + 1) → (Lib.decDigits u).length ≤ k + 1
  | 0, u, h => by
    rw [Lib.decDigits, dif_pos (by simpa using h)]; simp
  | k + 1, u, h => by
    rw [Lib.decDigits]
    split
    · simp
    · have hp : u / 10 < 10 ^ (k + 1) := by
        rw [Nat.pow_succ] at h
        omega
      have := Pk k (u / 10) hp
      simp only [List.length_append, List.length_cons, List.length_nil]; omega
theorem Qz (u : Nat) : ∀ b ∈ Lib.decDigits u, 48 ≤ b.toNat ∧ b.toNat ≤ 57 := by
  induction u using Nat.strongRecOn with
  | _ u ih =>
  have hd : ∀ k, k < 10 → 48 ≤ (UInt8.ofNat (48 + k)).toNat ∧ (UInt8.ofNat (48 + k)).toNat ≤ 57 := by
    intro k hk
    rw [UInt8.toNat_ofNat']; omega
  rw [Lib.decDigits]
  split
  · rename_i h
    intro b hb
    simp only [List.mem_singleton] at hb
    subst hb; exact hd u h
  · rename_i h
    intro b hb
    rcases List.mem_append.1 hb with hb | hb
    · exact ih (u / 10) (by omega) b hb
    · simp only [List.mem_singleton] at hb
      subst hb; exact hd _ (Nat.mod_lt _ (by decide))
theorem R1 (u : Nat) : Lib.decDigits u ≠ [] := by
  rw [Lib.decDigits]
  split <;> simp
theorem M5 (u : Nat) (h : 1 ≤ u) : ∃ b r, Lib.decDigits u = b :: r ∧ b ≠ 48 := by
  induction u using Nat.strongRecOn with
  | _ u ih =>
  rw [Lib.decDigits]
  split
  · rename_i h9
    refine ⟨_, [], rfl, fun e => ?_⟩
    have := congrArg UInt8.toNat e
    rw [UInt8.toNat_ofNat'] at this
    simp at this; omega
  · obtain ⟨b, r, e, hb⟩ := ih (u / 10) (by omega) (by omega)
    exact ⟨b, r ++ [UInt8.ofNat (48 + u % 10)], by rw [e]; rfl, hb⟩
theorem La {u : Nat} (h : u ≤ 65535) : T9 (Lib.decDigits u) = some u := by
  have hl := Pk 4 u (by omega)
  unfold T9
  rw [if_neg]
  · unfold Lib.decNat
    have hne := R1 u
    cases hd : Lib.decDigits u with
    | nil => exact absurd hd hne
    | cons b r =>
      rw [← hd]
      have : (Lib.decDigits u).isEmpty = false := by rw [hd]; rfl
      rw [this]
      exact Kg u
  · rintro (h1 | h1 | ⟨h1, h2⟩)
    · exact R1 u h1
    · omega
    · by_cases hu : 1 ≤ u
      · obtain ⟨b, r, e, hb⟩ := M5 u hu
        rw [e] at h2
        exact hb h2
      · have : u = 0 := by omega
        subst this
        rw [Lib.decDigits, dif_pos (by decide)] at h1
        simp at h1
theorem Q3 {u m : Nat} (h : u ≤ m) (hm : m ≤ 65535) : numS (Lib.decDigits u) m = some u := by
  unfold numS
  rw [La (by omega)]
  simp only
  rw [if_pos h]
theorem Oo (u : Nat) : okT (Lib.decDigits u) := ⟨R1 u, fun b hb => Hq (.inl (by have := Qz u b hb; omega)) (by have := Qz u b hb; omega)⟩
theorem Mr {u : Nat} (h : u ≤ 7) : Tr (Ov (u : Int)) = some u := by
  unfold Ov
  rw [Lib.itoa_nonneg]
  show (if (114 : UInt8) = 114 then numS (Lib.decDigits u) 7 else none) = some u
  rw [if_pos rfl, Q3 h (by omega)]
theorem K9 {u : Nat} : okT (Ov (u : Int)) := by
  unfold Ov
  rw [Lib.itoa_nonneg]
  refine ⟨by simp, fun b hb => ?_⟩
  rcases List.mem_cons.1 hb with rfl | hb
  · decide
  · exact (Oo u).2 b hb
theorem Kt {s : List UInt8} (h : Ws s = true) : ∀ b ∈ s, okC b := by
  intro b hb
  obtain ⟨i, hi, rfl⟩ := List.mem_iff_getElem.1 hb
  unfold Ws at h
  simp only [Bool.and_eq_true, List.all_eq_true, List.mem_range] at h
  have hc := h.2.2 i hi
  have hbt : Wr s i = ((s[i].toNat : Nat) : Int) := by simp [Wr, List.getD, hi]
  rw [hbt] at hc
  unfold Qh at hc
  simp only [Bool.or_eq_true, Bool.and_eq_true, decide_eq_true_eq] at hc
  refine Hq ?_ ?_ <;> omega
theorem Pt {s : List UInt8} (h : Ws s = true) : s ≠ [] := by rintro rfl; rw [Pw] at h; cases h
theorem R2 {s : List UInt8} (h : Ws s = true) : okT s := ⟨Pt h, Kt h⟩
theorem Ju {s : List UInt8} (h : Ws s = true) (m : Nat) : numS s m = none := by
  have hne := Pt h
  have hc : Qh 0 (Wr s 0) = true := by
    unfold Ws at h
    simp only [Bool.and_eq_true, List.all_eq_true, List.mem_range] at h
    exact h.2.2 0 (List.length_pos_iff.2 hne)
  cases s with
  | nil => exact absurd rfl hne
  | cons b r =>
    have hb : Wr (b :: r) 0 = ((b.toNat : Nat) : Int) := rfl
    rw [hb] at hc
    unfold Qh at hc
    simp only [Bool.or_eq_true, Bool.and_eq_true, decide_eq_true_eq] at hc
    have hd : Lib.digitVal b = none := by
      unfold Lib.digitVal
      rw [if_neg (by omega)]
    have : T9 (b :: r) = none := by
      unfold T9
      split
      · rfl
      · simp [Lib.decNat, Lib.decFrom, hd]
    unfold numS
    rw [this]
theorem Io : ∀ k : Nat, k < 33 → okT (V4.getD k []) ∧ kindS (V4.getD k []) = (k : Int) := by decide
theorem O2 {op : Int} (h0 : 0 ≤ op) (h1 : op ≤ 32) : okT (wordS op) ∧ kindS (wordS op) = op := by
  have := Io op.toNat (by omega)
  unfold wordS
  refine ⟨this.1, ?_⟩
  rw [this.2]; omega
theorem Hm {c : UInt8} {a r : List UInt8} (h : c ∉ a) : upToS c (a ++ c :: r) = (a, r, true) := by
  have h1 : c ∉ (a ++ c :: r).take a.length := by rw [List.take_left]; exact h
  have h2 : (a ++ c :: r)[a.length]? = some c := by simp
  rw [L3 h1 h2, List.take_left]
  simp
end Go.Proofs.YtccjjcdjgibilaaGreatDoor
namespace Go.Proofs.YtccjjcdjgibilaaGreatDoor
open Go Go.RowKit Vc
set_option linter.unusedVariables false
set_option linter.unusedSimpArgs false
def bareLn (x : Ln) : Ln := if x.label ≠ [] then ⟨x.label, Uj, []⟩ else ⟨[], Q1 x.ins, x.ref⟩
def T6 (x : Ln) : List UInt8 := if x.label = [] then 9 :: (wordS x.ins.op ++ (if Xw x = [] then [] else 32 :: jn (Xw x))) else x.label ++ [58]
theorem Js (x : Ln) : Ux x = T6 x ++ [10] := by
  unfold Ux T6
  by_cases hl : x.label = []
  · rw [if_pos hl, if_pos hl, K4]
    by_cases hp : Xw x = []
    · rw [if_pos hp, if_pos hp, hp]; simp [jn]
    · rw [if_neg hp, if_neg hp]; simp
  · rw [if_neg hl, if_neg hl]; simp
theorem Mq {x : Ln} (h : Wi x = 0) (hl : x.label = []) : ∀ p ∈ Xw x, okT p := by
  obtain ⟨h1, h2, h3, _, _⟩ := Vd h hl
  have hr := (Un h hl).2
  intro p hp
  unfold Xw at hp
  simp only [List.mem_append] at hp
  rcases hp with hp | hp | hp
  · split at hp
    · rename_i hd
      simp only [List.mem_singleton] at hp
      subst hp
      obtain ⟨u, hu⟩ : ∃ u : Nat, x.ins.d = u := ⟨x.ins.d.toNat, by have := (h1 hd).1; omega⟩
      rw [hu]; exact K9
    · cases hp
  · split at hp
    · rename_i hd
      simp only [List.mem_singleton] at hp
      subst hp
      obtain ⟨u, hu⟩ : ∃ u : Nat, x.ins.s = u := ⟨x.ins.s.toNat, by have := (h2 hd).1; omega⟩
      rw [hu]; exact K9
    · cases hp
  · split at hp
    · rename_i hd
      simp only [List.mem_singleton] at hp
      subst hp
      unfold Vl
      split
      · obtain ⟨u, hu⟩ : ∃ u : Nat, x.ins.imm = u := ⟨x.ins.imm.toNat, by have := (h3 hd).1; omega⟩
        rw [hu, Lib.itoa_nonneg]; exact Oo u
      · rename_i hrf
        exact R2 (hr hrf).1
    · cases hp
theorem Pg {b : Bool} {v : Int} (h : b = true → 0 ≤ v ∧ v ≤ 7) (ps : List (List UInt8)) : Tb b ((if b = true then [Ov v] else []) ++ ps) = .ok (if b = true then v.toNat else 0, ps) := by
  cases b
  · rfl
  · obtain ⟨h0, h7⟩ := h rfl
    simp only [if_true, List.cons_append, List.nil_append]
    refine Qe ?_ ps
    obtain ⟨u, rfl⟩ : ∃ u : Nat, v = u := ⟨v.toNat, by omega⟩
    rw [Mr (by omega)]; simp
theorem Kx {x : Ln} (h : Wi x = 0) (hl : x.label = []) :
    U2 x.ins.op (if W7 x.ins.op = true then [Vl x] else []) = .ok (if W7 x.ins.op = true ∧ x.ref = [] then x.ins.imm.toNat else 0, x.ref, []) := by
  obtain ⟨_, _, h3, _, _⟩ := Vd h hl
  have hr := (Un h hl).2
  cases hi : W7 x.ins.op
  · have hrf : x.ref = [] := by
      by_cases hrf : x.ref = []
      · exact hrf
      · have := (hr hrf).2.1
        unfold Vx at this
        rw [hi] at this; simp at this
    rw [if_neg (by decide), Mp hi, hrf]; simp
  · rw [if_pos rfl]
    unfold Vl
    by_cases hrf : x.ref = []
    · obtain ⟨h0, h1⟩ := h3 hi
      rw [if_pos hrf]
      obtain ⟨u, hu⟩ : ∃ u : Nat, x.ins.imm = u := ⟨x.ins.imm.toNat, by omega⟩
      rw [hu, Lib.itoa_nonneg, Nf hi (Q3 (by omega) (by omega)), hrf]; simp
    · rw [if_neg hrf, Nm hi (Ju (hr hrf).1 _) ⟨(hr hrf).1, (hr hrf).2.1⟩]; simp [hrf]
theorem He {x : Ln} (h : Wi x = 0) (hl : x.label = []) : insV x.ins.op (Xw x) = .ok ⟨[], Q1 x.ins, x.ref⟩ := by
  obtain ⟨h1, h2, h3, _, _⟩ := Vd h hl
  have hr := (Un h hl).2
  rw [Pc]
  unfold Xw
  rw [Pg h1]
  simp only
  unfold Jw
  rw [Pg h2]
  simp only
  unfold Q6
  rw [Kx h hl]
  simp only [if_true]
  unfold Q1
  congr 3
  · by_cases hd : Uh x.ins.op = true
    · have := h1 hd; rw [if_pos hd, if_pos hd]; omega
    · rw [if_neg hd, if_neg hd]; rfl
  · by_cases hd : Ue x.ins.op = true
    · have := h2 hd; rw [if_pos hd, if_pos hd]; omega
    · rw [if_neg hd, if_neg hd]; rfl
  · by_cases hd : W7 x.ins.op = true
    · have := h3 hd
      by_cases hrf : x.ref = []
      · rw [if_pos ⟨hd, hrf⟩, if_pos hd]; omega
      · rw [if_neg (fun e => hrf e.2), if_pos hd, (hr hrf).2.2]; rfl
    · rw [if_neg (fun e => hd e.1), if_neg hd]; rfl
theorem Ja {x : Ln} (h : Wi x = 0) {c : UInt8} (hc : c = 10 ∨ c = 59) : c ∉ T6 x := by
  have hok : ∀ b, okC b → b ≠ c := by
    intro b hb e
    subst e
    rcases hc with e | e
    · exact hb.1 e
    · exact hb.2.1 e
  unfold T6
  by_cases hl : x.label = []
  · rw [if_pos hl]
    have hp := Mq h hl
    have hk : 0 ≤ x.ins.op ∧ x.ins.op ≤ 32 := by simpa [Wy] using (Vd h hl).2.2.2.1
    have hw := (O2 hk.1 hk.2).1
    simp only [List.mem_cons, List.mem_append, not_or]
    refine ⟨by rcases hc with rfl | rfl <;> decide, fun hm => hok _ (hw.2 _ hm) rfl, ?_⟩
    split
    · simp
    · simp only [List.mem_cons, not_or]
      refine ⟨by rcases hc with rfl | rfl <;> decide, fun hm => ?_⟩
      rcases jn_mem hm with ⟨p, hpm, hb⟩ | e | e
      · exact hok _ ((hp p hpm).2 _ hb) rfl
      · rcases hc with rfl | rfl <;> cases e
      · rcases hc with rfl | rfl <;> cases e
  · rw [if_neg hl]
    have hn := R2 (Vg h hl).1
    simp only [List.mem_append, List.mem_singleton, not_or]
    exact ⟨fun hm => hok _ (hn.2 _ hm) rfl, by rcases hc with rfl | rfl <;> decide⟩
theorem Ik {x : Ln} (h : Wi x = 0) : Tf (T6 x) = .ok (some (bareLn x)) := by
  have h59 := Ja h (c := 59) (.inr rfl)
  unfold Tf
  rw [Re h59]
  simp only
  by_cases hl : x.label = []
  · have htx : T6 x = 9 :: (wordS x.ins.op ++ (if Xw x = [] then [] else 32 :: jn (Xw x))) := by unfold T6; rw [if_pos hl]
    have hbx : bareLn x = ⟨[], Q1 x.ins, x.ref⟩ := by unfold bareLn; rw [if_neg (by simpa using hl)]
    rw [htx, hbx]
    have hp := Mq h hl
    have hk : 0 ≤ x.ins.op ∧ x.ins.op ≤ 32 := by simpa [Wy] using (Vd h hl).2.2.2.1
    obtain ⟨hw, hkw⟩ := O2 hk.1 hk.2
    have hins := He h hl
    have h32 : (32 : UInt8) ∉ wordS x.ins.op := fun hm => (hw.2 _ hm).2.2.1 rfl
    generalize wordS x.ins.op = wd at *
    generalize hps : Xw x = ps at *
    generalize htl : (if ps = [] then [] else 32 :: jn ps) = tl
    have hcut : upToS 32 (wd ++ tl) = (wd, jn ps, decide (ps ≠ [])) := by
      by_cases he : ps = []
      · rw [if_pos he] at htl
        rw [← htl, List.append_nil, Re h32, he]; simp [jn]
      · rw [if_neg he] at htl
        rw [← htl, Hm h32]; simp [he]
    have hlast : ∀ b, (wd ++ tl).getLast? = some b → okC b := by
      intro b hb
      by_cases he : ps = []
      · rw [if_pos he] at htl
        rw [← htl, List.append_nil] at hb
        exact hw.2 b (List.mem_of_mem_getLast? hb)
      · rw [if_neg he] at htl
        have hj : jn ps ≠ [] := fun e => he ((Ir hp).1 e)
        rw [← htl, List.getLast?_append, List.getLast?_cons] at hb
        cases hq : (jn ps).getLast? with
        | none => exact absurd (List.getLast?_eq_none_iff.1 hq) hj
        | some c =>
          rw [hq] at hb
          simp at hb
          subst hb
          exact Ny hp hq
    have hne : wd ++ tl ≠ [] := by simp [hw.1]
    have htr : trimB (9 :: (wd ++ tl)) = wd ++ tl := by
      rw [Oh (.inr rfl)]
      refine Pd (fun b hb => ?_) fun b hb => T2 (hlast b hb)
      have hw1 := hw.1
      cases wd with
      | nil => exact absurd rfl hw1
      | cons y m =>
        simp only [List.cons_append, List.head?_cons, Option.some.injEq] at hb
        subst hb
        exact T2 (hw.2 y (List.mem_cons_self ..))
    rw [htr, if_neg hne, if_neg (fun e => (hlast 58 e).2.2.2.2.2 rfl), hcut]
    simp only
    rw [hkw, if_neg (by omega), Im hp, hins]
  · have htx : T6 x = x.label ++ [58] := by unfold T6; rw [if_neg hl]
    have hbx : bareLn x = ⟨x.label, Uj, []⟩ := by unfold bareLn; rw [if_pos hl]
    rw [htx, hbx]
    have hn := (Vg h hl).1
    have ho := R2 hn
    have htr : trimB (x.label ++ [58]) = x.label ++ [58] := by
      refine Pd (fun b hb => ?_) fun b hb => ?_
      · cases hx : x.label with
        | nil => exact absurd hx hl
        | cons y m =>
          rw [hx] at hb ho
          simp only [List.cons_append, List.head?_cons, Option.some.injEq] at hb
          subst hb
          exact T2 (ho.2 y (List.mem_cons_self ..))
      · rw [List.getLast?_concat] at hb
        cases hb
        exact fun e => by rcases e with e | e <;> cases e
    rw [htr, if_neg (by simp), if_pos (List.getLast?_concat ..), List.dropLast_concat, if_pos hn]
theorem Pf : ∀ l : List Ln, (∀ x ∈ l, Wi x = 0) → Vq ((l.map Ux).flatten) = l.map T6
  | [], _ => rfl
  | x :: l, h => by
    have ih := Pf l fun y hy => h y (List.mem_cons_of_mem _ hy)
    rw [List.map_cons, List.flatten_cons, Js, List.append_assoc, List.singleton_append, Ok (Ja (h x (List.mem_cons_self ..)) (.inl rfl)), ih, List.map_cons]
theorem Ol : ∀ (l : List Ln) (k : Nat) (acc : List Ln), (∀ x ∈ l, Wi x = 0) → V0 (l.map T6) k acc = (acc ++ l.map bareLn, 0, 0)
  | [], k, acc, _ => by simp [V0]
  | x :: l, k, acc, h => by
    have hx := Ik (h x (List.mem_cons_self ..))
    have hT : lineT (T6 x) = (bareLn x, true, 0) := by unfold lineT; rw [hx]
    rw [List.map_cons, V6, hT, if_neg (by simp), if_pos rfl, Ol l _ _ fun y hy => h y (List.mem_cons_of_mem _ hy)]
    simp
theorem Pq : ∀ (l : List Ln) (k : Nat) (acc : List UInt8), (∀ x ∈ l, Wi x = 0) → T7 l k acc = (acc ++ (l.map Ux).flatten, 0, 0)
  | [], k, acc, _ => by simp [T7]
  | x :: l, k, acc, h => by
    unfold T7
    rw [if_pos (h x (List.mem_cons_self ..)), Pq l _ _ fun y hy => h y (List.mem_cons_of_mem _ hy)]
    simp
theorem Qv : ∀ (l : List Ln) (k : Nat) (acc : List UInt8), (T7 l k acc).2.1 = 0 → ∀ x ∈ l, Wi x = 0
  | [], _, _, _, x, hx => by cases hx
  | y :: l, k, acc, h, x, hx => by
    unfold T7 at h
    split at h
    · rename_i hy
      rcases List.mem_cons.1 hx with rfl | hx
      · exact hy
      · exact Qv l _ _ h x hx
    · rename_i hy
      exact absurd h hy
theorem Qy {l : List Ln} (h : (showS l).2.1 = 0) : l.length ≤ 40000 ∧ (∀ x ∈ l, Wi x = 0) ∧ showS l = ((l.map Ux).flatten, 0, 0) := by
  have e : showS l = if 40000 < l.length then ([], 5, 0) else T7 l 0 [] := rfl
  by_cases hl : 40000 < l.length
  · rw [e, if_pos hl] at h; cases h
  · rw [if_neg hl] at e
    rw [e] at h
    have hr := Qv l 0 [] h
    exact ⟨by omega, hr, by rw [e, Pq l 0 [] hr]; rfl⟩
theorem Ix {l : List Ln} (hl : l.length ≤ 40000) (h : ∀ x ∈ l, Wi x = 0) : showS l = ((l.map Ux).flatten, 0, 0) := by
  have e : showS l = if 40000 < l.length then ([], 5, 0) else T7 l 0 [] := rfl
  rw [e, if_neg (by omega), Pq l 0 [] h]; rfl
theorem Lo {l : List Ln} (h : (showS l).2.1 = 0) (hs : (showS l).1.length ≤ 1048576) : readS (showS l).1 = (l.map bareLn, 0, 0) := by
  obtain ⟨hl, hr, e⟩ := Qy h
  rw [e] at hs ⊢
  simp only at hs ⊢
  unfold readS
  rw [if_neg (by omega), Pf l hr, List.length_map, if_neg (by omega), Ol l 0 [] hr, List.nil_append]
theorem Qo {b : Bool} {ps qs : List (List UInt8)} {n : Nat} (h : Tb b ps = .ok (n, qs)) : (b = true → n ≤ 7) ∧ (b = false → n = 0) := by
  unfold Tb at h
  split at h
  · rename_i hb
    cases h
    exact ⟨fun e => (by rw [hb] at e; cases e), fun _ => rfl⟩
  · rename_i hb
    split at h
    · cases h
    · split at h
      · rename_i hv
        cases h
        exact ⟨fun _ => regV_le hv, fun e => absurd e hb⟩
      · cases h
theorem Mf {op : Int} {ps qs : List (List UInt8)} {n : Nat} {r : List UInt8} (h : U2 op ps = .ok (n, r, qs)) :
    (W7 op = true → n ≤ 65535) ∧ (W7 op = false → n = 0) ∧ (r ≠ [] → Ws r = true ∧ Vx op = true ∧ n = 0) := by
  unfold U2 at h
  split at h
  · rename_i hb
    cases h
    exact ⟨fun e => (by rw [hb] at e; cases e), fun _ => rfl, fun e => absurd rfl e⟩
  · rename_i hb
    split at h
    · cases h
    · split at h
      · rename_i hv
        cases h
        exact ⟨fun _ => numS_le hv, fun e => absurd e hb, fun e => absurd rfl e⟩
      · split at h
        · rename_i hn
          cases h
          exact ⟨fun _ => by omega, fun e => absurd e hb, fun _ => ⟨hn.1, hn.2, rfl⟩⟩
        · cases h
theorem Kr {op : Int} (h0 : 0 ≤ op) (h1 : op ≤ 32) {ps : List (List UInt8)} {x : Ln} (h : insV op ps = .ok x) : Wi x = 0 ∧ bareLn x = x := by
  rw [Pc] at h
  split at h
  · cases h
  · rename_i d ps1 hd
    unfold Jw at h
    split at h
    · cases h
    · rename_i s ps2 hs
      unfold Q6 at h
      split at h
      · cases h
      · rename_i i r ps3 hi
        split at h
        · cases h
          obtain ⟨a1, a2⟩ := Qo hd
          obtain ⟨b1, b2⟩ := Qo hs
          obtain ⟨c1, c2, c3⟩ := Mf hi
          have hk : Wy op = true := by simp [Wy, h0, h1]
          have hw : W8 ⟨op, d, s, i⟩ = 0 := by
            unfold W8
            simp only [hk]
            rw [if_neg (by decide), if_neg]
            simp only [Bool.or_eq_true, Bool.and_eq_true, Bool.not_eq_true', not_or, not_and, Bool.not_eq_false]
            refine ⟨fun e => ?_, fun e => ?_, fun e => ?_⟩
            · have := a1 e; simp only [reg, Bool.and_eq_true, decide_eq_true_eq]; omega
            · have := b1 e; simp only [reg, Bool.and_eq_true, decide_eq_true_eq]; omega
            · have := c1 e; simp only [Of, Bool.and_eq_true, decide_eq_true_eq]; omega
          refine ⟨?_, ?_⟩
          · unfold Wi
            simp only [ne_eq, not_true_eq_false, if_false, hw]
            by_cases hr : r = []
            · rw [if_pos hr]
            · obtain ⟨e1, e2, e3⟩ := c3 hr
              rw [if_neg hr, if_neg (by rw [e1]; decide), if_neg]
              rw [e2, e3]; simp
          · unfold bareLn Q1
            simp only [ne_eq, not_true_eq_false, if_false]
            congr 2
            · cases hh : Uh op
              · rw [a2 hh]; rfl
              · rfl
            · cases hh : Ue op
              · rw [b2 hh]; rfl
              · rfl
            · cases hh : W7 op
              · rw [c2 hh]; rfl
              · rfl
        · cases h
theorem M9 {s : List UInt8} {x : Ln} (h : Tf s = .ok (some x)) : Wi x = 0 ∧ bareLn x = x := by
  unfold Tf at h
  simp only at h
  split at h
  · cases h
  · split at h
    · split at h
      · rename_i hn
        cases h
        have hne := Pt hn
        refine ⟨?_, by unfold bareLn; rw [if_pos hne]⟩
        unfold Wi
        simp only [ne_eq, hne, not_false_eq_true, if_true, hn]
        simp
      · cases h
    · split at h
      · cases h
      · rename_i hk
        split at h
        · cases h
        · rename_i y hy
          cases h
          have hr := Nk (upToS 32 (trimB (upToS 59 s).1)).1
          exact Kr (by omega) (by omega) hy
theorem Se : ∀ (l : List (List UInt8)) (k : Nat) (acc : List Ln), (∀ x ∈ acc, Wi x = 0 ∧ bareLn x = x) → ∀ x ∈ (V0 l k acc).1, Wi x = 0 ∧ bareLn x = x
  | [], k, acc, h => by simpa [V0] using h
  | s :: l, k, acc, h => by
    have ht : (lineT s).2.1 = true → Wi (lineT s).1 = 0 ∧ bareLn (lineT s).1 = (lineT s).1 := by
      intro hb
      unfold lineT at hb ⊢
      cases hv : Tf s with
      | error e => rw [hv] at hb; cases hb
      | ok o =>
        cases o with
        | none => rw [hv] at hb; cases hb
        | some x => exact M9 hv
    rw [V6]
    split
    · simp
    · split
      · rename_i hb
        refine Se l _ _ fun x hx => ?_
        rcases List.mem_append.1 hx with hx | hx
        · exact h x hx
        · simp only [List.mem_singleton] at hx
          subst hx
          exact ht hb
      · exact Se l _ _ h
theorem L1 (t : List UInt8) : ∀ x ∈ (readS t).1, Wi x = 0 ∧ bareLn x = x := by
  unfold readS
  split
  · simp
  · split
    · simp
    · exact Se _ _ _ (by simp)
theorem I8 {k : List Ln} (hl : k.length ≤ 40000) (h : ∀ x ∈ k, Wi x = 0 ∧ bareLn x = x) : (showS k).2 = (0, 0) ∧ ((showS k).1.length ≤ 1048576 → readS (showS k).1 = (k, 0, 0)) := by
  have e := Ix hl fun x hx => (h x hx).1
  refine ⟨by rw [e], fun hs => ?_⟩
  rw [Lo (by rw [e]) hs]
  have : k.map bareLn = k := by
    conv => rhs; rw [← List.map_id k]
    exact List.map_congr_left fun x hx => (h x hx).2
  rw [this]
end Go.Proofs.YtccjjcdjgibilaaGreatDoor
