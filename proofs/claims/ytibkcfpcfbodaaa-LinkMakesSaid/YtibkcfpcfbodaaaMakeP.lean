/-
  Plain laws of the reference's linking: its checks are the program's; its order of units is the program's; labels lie where both say.
-/
import Derived.Test.YtibkcfpcfbodaaaLinkM
namespace Go.Proofs.Ytibkcfpcfbodaaa
open Go.RowKit Vc
set_option linter.unusedVariables false
set_option linter.unusedSimpArgs false
def Nh (l : X5) (k : Nat) (y : Ln) : Bool := decide (y.label ≠ []) && (!W2 y.label && decide (holderL l y.label 0 ≠ (k : Int)))
def Rt (l : X5) : X5 → Nat → Int × Int
  | [], _ => (0, 0)
  | x :: r, k => if 40000 < x.2.length then (5, k) else if (Xr x.2 0).2.2.1 ≠ 0 then ((Xr x.2 0).2.2.1, k) else if x.2.any (Nh l k) = true then (7, k) else Rt l r (k + 1)
def S6 (l : X5) : Int × Int := if 400 < l.length then (5, 0) else Rt l l 0
theorem Rs (s : List UInt8) : ∀ (l : X5) (k : Nat), -1 ≤ holderL l s k ∧ holderL l s k < ((k + l.length : Nat) : Int)
  | [], k => by simp [holderL]; omega
  | u :: l, k => by
    unfold holderL
    have := Rs s l (k + 1)
    simp only [List.length_cons]
    split <;> omega
theorem holderL_ge (s : List UInt8) : ∀ (l : X5) (k : Nat), holderL l s k = -1 ∨ (k : Int) ≤ holderL l s k
  | [], k => .inl rfl
  | u :: l, k => by
    unfold holderL
    split
    · exact .inr (Int.le_refl _)
    · rcases holderL_ge s l (k + 1) with h | h
      · exact .inl h
      · exact .inr (by omega)
theorem O7 (s : List UInt8) : ∀ (l : X5) (k n : Nat), n < l.length → (l.getD n Vr).2.any (Qt s) = true → 0 ≤ holderL l s k ∧ holderL l s k ≤ ((k + n : Nat) : Int)
  | [], k, n, h, _ => by simp at h
  | u :: l, k, n, h, hn => by
    unfold holderL
    by_cases hu : u.2.any (Qt s) = true
    · rw [if_pos hu]; omega
    · rw [if_neg hu]
      cases n with
      | zero => exact absurd (by simpa using hn) hu
      | succ n =>
        have := O7 s l (k + 1) n (by simpa using h) (by simpa using hn)
        omega
theorem Qw (s : List UInt8) : ∀ (l : X5) (k n : Nat), n < l.length → (l.getD n Vr).2.any (Qt s) = true → (∀ m, m < n → ¬ (l.getD m Vr).2.any (Qt s) = true) → holderL l s k = ((k + n : Nat) : Int)
  | [], k, n, h, _, _ => by simp at h
  | u :: l, k, n, h, hn, hm => by
    unfold holderL
    cases n with
    | zero => rw [if_pos (by simpa using hn)]; simp
    | succ n =>
      rw [if_neg (by have := hm 0 (by omega); simpa using this)]
      rw [Qw s l (k + 1) n (by simpa using h) (by simpa using hn) fun m hlt => by have := hm (m + 1) (by omega); simpa using this]
      congr 1; omega
theorem Rc {u : Int} : ∀ {sp : List Spot} {f : Own}, (sp.map Spot.name).Nodup → (Vo u sp f = none ↔ ∃ s ∈ sp.map Spot.name, W2 s = false ∧ (f s).isSome = true)
  | [], f, _ => by simp [Vo]
  | y :: sp, f, hnd => by
    simp only [List.map_cons, List.nodup_cons] at hnd
    simp only [Vo]
    by_cases ho : W2 y.name = true
    · rw [if_pos ho, Rc hnd.2]
      constructor
      · rintro ⟨s, h1, h2⟩; exact ⟨s, by simp only [List.map_cons, List.mem_cons]; exact .inr h1, h2⟩
      · rintro ⟨s, h1, h2, h3⟩
        simp only [List.map_cons, List.mem_cons] at h1
        rcases h1 with rfl | h1
        · rw [ho] at h2; cases h2
        · exact ⟨s, h1, h2, h3⟩
    · rw [if_neg ho]
      by_cases hs : (f y.name).isSome = true
      · rw [if_pos hs]
        exact ⟨fun _ => ⟨y.name, by simp, by simpa using ho, hs⟩, fun _ => rfl⟩
      · rw [if_neg hs, Rc hnd.2]
        constructor
        · rintro ⟨s, h1, h2, h3⟩
          rw [if_neg (fun e : s = y.name => hnd.1 (e ▸ h1))] at h3
          exact ⟨s, by simp only [List.map_cons, List.mem_cons]; exact .inr h1, h2, h3⟩
        · rintro ⟨s, h1, h2, h3⟩
          simp only [List.map_cons, List.mem_cons] at h1
          rcases h1 with rfl | h1
          · exact absurd h3 hs
          · exact ⟨s, h1, h2, by rw [if_neg (fun e : s = y.name => hnd.1 (e ▸ h1))]; exact h3⟩
theorem any_bad {l : X5} {k : Nat} {ls : List Ln} : ls.any (Nh l k) = true ↔ ∃ s ∈ X4 ls, W2 s = false ∧ holderL l s 0 ≠ (k : Int) := by
  simp only [List.any_eq_true, Nh, Bool.and_eq_true, decide_eq_true_eq, Bool.not_eq_true', X4, List.mem_map, List.mem_filter]
  constructor
  · rintro ⟨y, h1, h2, h3, h4⟩; exact ⟨y.label, ⟨y, ⟨h1, h2⟩, rfl⟩, h3, h4⟩
  · rintro ⟨s, ⟨y, ⟨h1, h2⟩, rfl⟩, h3, h4⟩; exact ⟨y, h1, h2, h3, h4⟩
theorem N6 (l : X5) : ∀ (r : X5) (k : Nat) (f : Own), l.drop k = r → (∀ s v, f s = some v ↔ (W2 s = false ∧ ∃ n : Nat, n < k ∧ v = (n : Int) ∧ s ∈ X4 (l.getD n Vr).2)) → (Vp r k f).2 = Rt l r k
  | [], k, f, _, _ => rfl
  | x :: r, k, f, hd, hf => by
    have hk : k < l.length := by
      rcases Nat.lt_or_ge k l.length with h | h
      · exact h
      · rw [List.drop_of_length_le h] at hd; cases hd
    have hx : l.getD k Vr = x := by
      rw [List.drop_eq_getElem_cons hk] at hd
      injection hd with h1 _
      rw [List.getD_eq_getElem?_getD, List.getElem?_eq_getElem hk]; exact h1
    have hr : l.drop (k + 1) = r := by
      rw [List.drop_eq_getElem_cons hk] at hd
      injection hd
    unfold Vp Rt
    by_cases h1 : 40000 < x.2.length
    · rw [if_pos h1, if_pos h1]
    · rw [if_neg h1, if_neg h1]
      by_cases h2 : (Xr x.2 0).2.2.1 = 0
      · rw [if_neg (by simpa using h2), if_neg (by simpa using h2)]
        have hnm := (T0 h2).2
        have hnd := (T1 h2).2
        have hno := Rc (u := (k : Int)) (sp := (Xr x.2 0).1) (f := f) (by rw [hnm]; exact hnd)
        rw [hnm] at hno
        have key : (∃ s ∈ X4 x.2, W2 s = false ∧ (f s).isSome = true) ↔ x.2.any (Nh l k) = true := by
          rw [any_bad]
          constructor
          · rintro ⟨s, g1, g2, g3⟩
            refine ⟨s, g1, g2, ?_⟩
            obtain ⟨v, hv⟩ := Option.isSome_iff_exists.1 g3
            obtain ⟨_, n, hn, rfl, hs⟩ := (hf s v).1 hv
            have := O7 s l 0 n (by omega) ((Qd (Tb g1)).2 ⟨g2, hs⟩)
            omega
          · rintro ⟨s, g1, g2, g3⟩
            refine ⟨s, g1, g2, ?_⟩
            cases hfs : f s with
            | some v => rfl
            | none =>
              exfalso
              apply g3
              have := Qw s l 0 k hk ((Qd (Tb g1)).2 ⟨g2, by rw [hx]; exact g1⟩) fun m hm hany => by
                have h3 := ((Qd (Tb g1)).1 hany).2
                have := (hf s (m : Int)).2 ⟨g2, m, hm, rfl, h3⟩
                rw [hfs] at this; cases this
              rw [this]; simp
        cases hp : Vo (k : Int) (Xr x.2 0).1 f with
        | none => rw [if_pos (key.1 (hno.1 hp))]
        | some f' =>
          rw [if_neg (fun hb => by rw [hno.2 (key.2 hb)] at hp; cases hp)]
          refine N6 l r (k + 1) f' hr fun s v => ?_
          obtain ⟨g1, g2⟩ := T4 hp s
          rw [hnm] at g1 g2
          rw [g1]
          constructor
          · intro h
            split at h
            · rename_i hm
              cases h
              exact ⟨hm.1, k, by omega, rfl, by rw [hx]; exact hm.2⟩
            · obtain ⟨h3, n, h4, h5, h6⟩ := (hf s v).1 h
              exact ⟨h3, n, by omega, h5, h6⟩
          · rintro ⟨h3, n, h4, rfl, h6⟩
            rcases Nat.lt_or_ge n k with h7 | h7
            · have := (hf s (n : Int)).2 ⟨h3, n, h7, rfl, h6⟩
              rw [if_neg (fun hm => by rw [g2 hm.1 hm.2] at this; cases this)]
              exact this
            · have : n = k := by omega
              subst this
              rw [hx] at h6
              rw [if_pos ⟨h3, h6⟩]
      · rw [if_pos h2, if_pos h2]
theorem Jb (l : X5) : S6 l = (Yw l).2 := by
  unfold S6 Yw
  split
  · rfl
  · exact (N6 l l 0 Wr rfl fun s v => by simp [Wr]).symm
theorem O1 : ∀ (ls : List Ln), 0 ≤ Wt ls
  | [] => by simp [Wt]
  | x :: ls => by
    have := Sn x
    have := O1 ls
    simp only [Wt]; omega
theorem Qj : ∀ (l : List Ln) (k : Nat) (a0 a : Int) (seen : List (List UInt8)) (acc0 acc : List Spot), (Wy l k a0 seen acc0).2.2.1 = 0 → a ≤ 65536 → (Wy l k a seen acc).2.2.1 = if 65536 < a + Wt l then 4 else 0
  | [], k, a0, a, seen, acc0, acc, h, ha => by rw [if_neg (by simp [Wt]; omega)]; rfl
  | x :: l, k, a0, a, seen, acc0, acc, h, ha => by
    unfold Wy at h ⊢
    by_cases h1 : Vj x = 0
    · rw [if_neg (by simpa using h1)] at h ⊢
      by_cases h2 : x.label = []
      · rw [if_neg (by simpa using h2)] at h ⊢
        have hs := O1 l
        by_cases h3 : 65536 < a + W9 x
        · rw [if_pos h3, if_pos (by simp only [Wt]; omega)]
        · rw [if_neg h3]
          split at h
          · simp at h
          · rw [Qj l (k + 1) _ (a + W9 x) seen _ acc h (by omega)]
            simp only [Wt, Int.add_assoc]
            rfl
      · rw [if_pos h2] at h ⊢
        split at h
        · simp at h
        · rename_i h3
          rw [if_neg h3, Qj l (k + 1) _ a _ _ _ h ha]
          simp only [Wt, Tk h2, Int.zero_add]
    · rw [if_pos h1] at h
      exact absurd h h1
theorem K1 {l : List Ln} (h : (Xr l 0).2.2.1 = 0) {a : Int} (ha : a ≤ 65536) : (Xr l a).2.2.1 = if 65536 < a + Wt l then 4 else 0 := Qj l 0 0 a [] [] [] h ha
theorem P1 {s : List UInt8} (hs : s ≠ []) : ∀ (l : List Ln) (a : Int), s ∉ X4 l → whereL l s a = -1
  | [], a, _ => rfl
  | x :: l, a, h => by
    unfold whereL
    by_cases hl : x.label = []
    · rw [if_neg (by rw [hl]; exact fun e => hs e.symm)]
      exact P1 hs l _ (by rwa [Ty hl] at h)
    · rw [Tf hl] at h
      simp only [List.mem_cons, not_or] at h
      rw [if_neg (fun e => h.1 e.symm)]
      exact P1 hs l _ h.2
def R5 (l : X5) (u : Int) (s : List UInt8) : Int := if W2 s = true ∧ 0 ≤ whereL (linesOf l u) s 0 then u else holderL l s 0
def Qh (l : X5) (u : Int) : List Ln → List Int → Option (List Int)
  | [], us => some us
  | x :: ls, us => if x.ref = [] then Qh l u ls us else if R5 l u x.ref < 0 then none else Qh l u ls (if R5 l u x.ref ∈ us then us else us ++ [R5 l u x.ref])
def rk1 (l : X5) : Nat → Nat → List Int → List Int × Int × Int
  | 0, _, _ => ([], 99, 0)
  | f + 1, i, us => if us.length ≤ i then (us, 0, 0) else if 65536 < W1 l us (i + 1) then ([], 4, us.getD i 0) else
      match Qh l (us.getD i 0) (linesOf l (us.getD i 0)) us with
      | none => ([], 6, us.getD i 0)
      | some us' => rk1 l f (i + 1) us'
theorem Ob {s : List UInt8} (h : W2 s = true) : ∀ (l : X5) (k : Nat), holderL l s k = -1
  | [], _ => rfl
  | u :: l, k => by
    unfold holderL
    rw [if_neg (by simp [Qt, h])]
    exact Ob h l _
theorem I1 {l : X5} (hc : (Yw l).2.1 = 0) {u : Int} {s : List UInt8} (hs : s ≠ []) (hu0 : 0 ≤ u) {sp : List Spot} (hsp : sp.map Spot.name = X4 (linesOf l u)) : U7 (Yw l).1 u sp s = if R5 l u s < 0 then none else some (R5 l u s) := by
  by_cases ho : W2 s = true
  · by_cases hm : s ∈ X4 (linesOf l u)
    · have h0 := Tx (linesOf l u) 0 (by omega) hm
      have e1 : R5 l u s = u := by unfold R5; rw [if_pos ⟨ho, h0.1⟩]
      have e2 : U7 (Yw l).1 u sp s = some u := by unfold U7; rw [if_pos ho, Rm, hsp, if_pos (by simpa using hm)]
      rw [e1, e2, if_neg (by omega)]
    · have e1 : R5 l u s = -1 := by
        unfold R5
        rw [P1 hs _ _ hm, if_neg (fun h => absurd h.2 (by decide)), Ob ho]
      have e2 : U7 (Yw l).1 u sp s = none := by unfold U7; rw [if_pos ho, Rm, hsp, if_neg (by simpa using hm)]
      rw [e1, e2, if_pos (by decide)]
  · have e1 : R5 l u s = ((Yw l).1 s).getD (-1 : Int) := by
      unfold R5
      rw [if_neg (fun h => ho h.1), R2 hc hs]
    have e2 : U7 (Yw l).1 u sp s = (Yw l).1 s := by unfold U7; rw [if_neg ho]
    rw [e1, e2]
    cases hv : (Yw l).1 s with
    | none => rfl
    | some v =>
      have h0 : (0 : Int) ≤ v := ((Vf hc).2.2 s v hv).1
      show some v = if (v : Int) < 0 then none else some v
      rw [if_neg (Int.not_lt.mpr h0)]
theorem O4 {l : X5} (hc : (Yw l).2.1 = 0) {u : Int} (hu0 : 0 ≤ u) {sp : List Spot} (hsp : sp.map Spot.name = X4 (linesOf l u)) : ∀ (ls : List Ln) (us : List Int), Qh l u ls us = Vu (Yw l).1 u sp ls us
  | [], us => rfl
  | x :: ls, us => by
    simp only [Qh, Vu]
    by_cases hr : x.ref = []
    · rw [if_pos hr, if_pos hr, O4 hc hu0 hsp]
    · rw [if_neg hr, if_neg hr, I1 hc hr hu0 hsp]
      by_cases hn : R5 l u x.ref < 0
      · rw [if_pos hn, if_pos hn]
      · rw [if_neg hn, if_neg hn]
        simp only
        rw [O4 hc hu0 hsp]
def gS (l : X5) (us : List Int) : Nat → Own
  | 0 => Wr
  | i + 1 => Rd (X8 (linesOf l (us.getD i 0)) (W1 l us i)) (gS l us i)
def spS (l : X5) (us : List Int) : Nat → List Spot
  | 0 => []
  | i + 1 => spS l us i ++ Sy (X8 (linesOf l (us.getD i 0)) (W1 l us i))
theorem N7 (l : X5) (us vs : List Int) : ∀ (k : Nat), k ≤ us.length → gS l (us ++ vs) k = gS l us k ∧ spS l (us ++ vs) k = spS l us k
  | 0, _ => ⟨rfl, rfl⟩
  | k + 1, h => by
    have e : (us ++ vs).getD k 0 = us.getD k 0 := by
      rw [List.getD_eq_getElem?_getD, List.getElem?_append_left (by omega), ← List.getD_eq_getElem?_getD]
    obtain ⟨h1, h2⟩ := N7 l us vs k (by omega)
    unfold gS spS
    rw [e, V0 l us vs k (by omega), h1, h2]
    exact ⟨rfl, rfl⟩
theorem I3 {l : X5} (hc : (Yw l).2.1 = 0) : ∀ (f i : Nat) (us : List Int) (at_ : Int) (g : Own) (sps : List Spot), Sp l.length us → i ≤ us.length → at_ = W1 l us i → at_ ≤ 65536 → g = gS l us i → sps = spS l us i →
    ((rk1 l f i us).2 = (lk1 l (Yw l).1 f i us at_ g sps).2 ∧ (rk1 l f i us).1 = (lk1 l (Yw l).1 f i us at_ g sps).1.1) ∧
    ((lk1 l (Yw l).1 f i us at_ g sps).2.1 = 0 → (lk1 l (Yw l).1 f i us at_ g sps).1.2.1 = gS l (lk1 l (Yw l).1 f i us at_ g sps).1.1 (lk1 l (Yw l).1 f i us at_ g sps).1.1.length ∧
      (lk1 l (Yw l).1 f i us at_ g sps).1.2.2 = spS l (lk1 l (Yw l).1 f i us at_ g sps).1.1 (lk1 l (Yw l).1 f i us at_ g sps).1.1.length ∧ W1 l (lk1 l (Yw l).1 f i us at_ g sps).1.1 (lk1 l (Yw l).1 f i us at_ g sps).1.1.length ≤ 65536)
  | 0, i, us, at_, g, sps, _, _, _, _, _, _ => by simp [lk1, rk1]
  | f + 1, i, us, at_, g, sps, hus, hi, ha, ha1, hg, hsp => by
    obtain ⟨hl, hu, ho⟩ := Vf hc
    rw [To]
    unfold rk1
    by_cases h1 : us.length ≤ i
    · rw [if_pos h1, if_pos h1]
      have : i = us.length := by omega
      subst this
      exact ⟨⟨rfl, rfl⟩, fun _ => ⟨hg, hsp, by simp only; omega⟩⟩
    · rw [if_neg h1, if_neg h1]
      have hlt : i < us.length := by omega
      have hmem : us.getD i 0 ∈ us := by simp [List.getD, hlt]
      have hrng := hus.2 _ hmem
      have humem : l.getD (us.getD i 0).toNat Vr ∈ l := by
        have : (us.getD i 0).toNat < l.length := by omega
        rw [List.getD_eq_getElem?_getD, List.getElem?_eq_getElem this]; exact List.getElem_mem this
      have h0 : (Xr (linesOf l (us.getD i 0)) 0).2.2.1 = 0 := (hu _ humem).2
      have hmv := K1 h0 ha1
      rw [Uo l us i hlt, ← ha]
      by_cases h2 : 65536 < at_ + Wt (linesOf l (us.getD i 0))
      · rw [if_pos h2] at hmv
        rw [if_pos h2, if_pos (by rw [hmv]; decide), hmv]
        exact ⟨⟨rfl, rfl⟩, fun h => by simp at h⟩
      · rw [if_neg h2] at hmv
        rw [if_neg h2, if_neg (by rw [hmv]; decide)]
        obtain ⟨he, hnm⟩ := T0 hmv
        obtain ⟨hso, hnd⟩ := T1 hmv
        rw [O4 hc hrng.1 hnm]
        cases hr : Vu (Yw l).1 (us.getD i 0) (Xr (linesOf l (us.getD i 0)) at_).1 (linesOf l (us.getD i 0)) us with
        | none => exact ⟨⟨rfl, rfl⟩, fun h => by simp at h⟩
        | some us' =>
          obtain ⟨vs, rfl⟩ := Uh hr
          obtain ⟨q1, q2⟩ := N7 l us vs i hi
          have e0 : (us ++ vs).getD i 0 = us.getD i 0 := by
            rw [List.getD_eq_getElem?_getD, List.getElem?_append_left hlt, ← List.getD_eq_getElem?_getD]
          refine I3 hc f (i + 1) (us ++ vs) _ _ _ (Su hrng ho hr hus).1 (by simp; omega) ?_ ?_ ?_ ?_
          · rw [V0 l us vs (i + 1) (by omega), Uo l us i hlt, ← ha]; exact he
          · rw [he]; omega
          · show _ = Rd (X8 (linesOf l ((us ++ vs).getD i 0)) (W1 l (us ++ vs) i)) (gS l (us ++ vs) i)
            rw [e0, V0 l us vs i hi, q1, ← ha, ← hg, hso]
          · show _ = spS l (us ++ vs) i ++ Sy (X8 (linesOf l ((us ++ vs).getD i 0)) (W1 l (us ++ vs) i))
            rw [e0, V0 l us vs i hi, q2, ← ha, ← hsp, hso]
theorem Q9 {us : List Int} (h : us.Nodup) {i j : Nat} (hi : i < us.length) (hj : j < us.length) (e : us.getD i 0 = us.getD j 0) : i = j := by
  have a1 : us.getD i 0 = us[i] := by rw [List.getD_eq_getElem?_getD, List.getElem?_eq_getElem hi]; rfl
  have a2 : us.getD j 0 = us[j] := by rw [List.getD_eq_getElem?_getD, List.getElem?_eq_getElem hj]; rfl
  rw [a1, a2] at e
  have hp := List.pairwise_iff_getElem.1 h
  rcases Nat.lt_trichotomy i j with h1 | h1 | h1
  · exact absurd e (hp i j hi hj h1)
  · exact h1
  · exact absurd e.symm (hp j i hj hi h1)
theorem Iu {l : X5} (hc : (Yw l).2.1 = 0) {us : List Int} (hus : Sp l.length us) {s : List UInt8} (hos : W2 s = false) {k : Nat} (hs : s ∈ X4 (linesOf l (us.getD k 0))) : ∀ (n : Nat), k < n → n ≤ us.length → gS l us n s = some (whereL (linesOf l (us.getD k 0)) s (W1 l us k))
  | 0, h, _ => by omega
  | n + 1, h, hn => by
    have hlabel : ∀ m, m < us.length → s ∈ X4 (linesOf l (us.getD m 0)) → (Yw l).1 s = some (us.getD m 0) := fun m hm h2 => by
      have hr := hus.2 (us.getD m 0) (by simp [List.getD, hm])
      exact (Tn hc s _).2 ⟨hos, (us.getD m 0).toNat, by omega, by omega, h2⟩
    have hndl : ((X8 (linesOf l (us.getD n 0)) (W1 l us n)).map Spot.name).Nodup := by
      rw [W3]
      have hr := hus.2 (us.getD n 0) (by have : n < us.length := by omega
                                         simp [List.getD, this])
      have humem : l.getD (us.getD n 0).toNat Vr ∈ l := by
        have : (us.getD n 0).toNat < l.length := by omega
        rw [List.getD_eq_getElem?_getD, List.getElem?_eq_getElem this]; exact List.getElem_mem this
      exact (T1 ((Vf hc).2.1 _ humem).2).2
    show Rd (X8 (linesOf l (us.getD n 0)) (W1 l us n)) (gS l us n) s = _
    rw [P4 _ _ _ hndl, W3]
    by_cases hm : s ∈ X4 (linesOf l (us.getD n 0))
    · have h1 := hlabel n (by omega) hm
      have h2 := hlabel k (by omega) hs
      rw [h1] at h2
      have hkn : k = n := by
        have h3 := Option.some.inj h2
        exact (Q9 hus.1 (by omega) (by omega) h3).symm
      subst hkn
      rw [if_pos ⟨hos, hm⟩, Tv (Tb hm) _ _ hm]
    · rw [if_neg (fun h => hm h.2)]
      have : k ≠ n := fun e => hm (e ▸ hs)
      exact Iu hc hus hos hs n (by omega) (by omega)
end Go.Proofs.Ytibkcfpcfbodaaa
