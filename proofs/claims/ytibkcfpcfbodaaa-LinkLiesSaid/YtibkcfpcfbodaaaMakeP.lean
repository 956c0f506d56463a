/-
  Plain laws of the reference's linking: its checks are the program's; its order of units is the program's; labels lie where both say.
-/
import Derived.Test.YtibkcfpcfbodaaaLinkM
namespace Go.Proofs.Ytibkcfpcfbodaaa
open Go.RowKit Vc
set_option linter.unusedVariables false
set_option linter.unusedSimpArgs false
def badL (l : X3) (k : Nat) (y : Ln) : Bool := decide (y.label ≠ []) && (!Wz y.label && decide (Wc l y.label 0 ≠ (k : Int)))
def Mx (l : X3) : X3 → Nat → Int × Int
  | [], _ => (0, 0)
  | x :: r, k => if 40000 < x.2.length then (5, k) else if (Y1 x.2 0).2.2.1 ≠ 0 then ((Y1 x.2 0).2.2.1, k) else if x.2.any (badL l k) = true then (7, k) else Mx l r (k + 1)
def Jt (l : X3) : Int × Int := if 400 < l.length then (5, 0) else Mx l l 0
theorem M3 (s : List UInt8) : ∀ (l : X3) (k : Nat), -1 ≤ Wc l s k ∧ Wc l s k < ((k + l.length : Nat) : Int)
  | [], k => by simp [Wc]; omega
  | u :: l, k => by
    unfold Wc
    have := M3 s l (k + 1)
    simp only [List.length_cons]
    split <;> omega
theorem holderL_ge (s : List UInt8) : ∀ (l : X3) (k : Nat), Wc l s k = -1 ∨ (k : Int) ≤ Wc l s k
  | [], k => .inl rfl
  | u :: l, k => by
    unfold Wc
    split
    · exact .inr (Int.le_refl _)
    · rcases holderL_ge s l (k + 1) with h | h
      · exact .inl h
      · exact .inr (by omega)
theorem Nf (s : List UInt8) : ∀ (l : X3) (k n : Nat), n < l.length → (l.getD n Ud).2.any (Qc s) = true → 0 ≤ Wc l s k ∧ Wc l s k ≤ ((k + n : Nat) : Int)
  | [], k, n, h, _ => by simp at h
  | u :: l, k, n, h, hn => by
    unfold Wc
    by_cases hu : u.2.any (Qc s) = true
    · rw [if_pos hu]; omega
    · rw [if_neg hu]
      cases n with
      | zero => exact absurd (by simpa using hn) hu
      | succ n =>
        have := Nf s l (k + 1) n (by simpa using h) (by simpa using hn)
        omega
theorem Qm (s : List UInt8) : ∀ (l : X3) (k n : Nat), n < l.length → (l.getD n Ud).2.any (Qc s) = true → (∀ m, m < n → ¬ (l.getD m Ud).2.any (Qc s) = true) → Wc l s k = ((k + n : Nat) : Int)
  | [], k, n, h, _, _ => by simp at h
  | u :: l, k, n, h, hn, hm => by
    unfold Wc
    cases n with
    | zero => rw [if_pos (by simpa using hn)]; simp
    | succ n =>
      rw [if_neg (by have := hm 0 (by omega); simpa using this)]
      rw [Qm s l (k + 1) n (by simpa using h) (by simpa using hn) fun m hlt => by have := hm (m + 1) (by omega); simpa using this]
      congr 1; omega
theorem S0 {u : Int} : ∀ {sp : List Spot} {f : Own}, (sp.map Spot.name).Nodup → (Vl u sp f = none ↔ ∃ s ∈ sp.map Spot.name, Wz s = false ∧ (f s).isSome = true)
  | [], f, _ => by simp [Vl]
  | y :: sp, f, hnd => by
    simp only [List.map_cons, List.nodup_cons] at hnd
    simp only [Vl]
    by_cases ho : Wz y.name = true
    · rw [if_pos ho, S0 hnd.2]
      constructor
      · rintro ⟨s, h1, h2⟩; exact ⟨s, by simp only [List.map_cons, List.mem_cons]; exact .inr h1, h2⟩
      · rintro ⟨s, h1, h2, h3⟩
        simp only [List.map_cons, List.mem_cons] at h1
        rcases h1 with rfl | h1
        · rw [ho] at h2; cases h2
        · exact ⟨s, h1, h2, h3⟩
    · rw [if_neg ho]
      by_cases hs : (f y.name).isSome = true
      · rw [if_pos hs]
        exact ⟨fun _ => ⟨y.name, by simp, by simpa using ho, hs⟩, fun _ => rfl⟩
      · rw [if_neg hs, S0 hnd.2]
        constructor
        · rintro ⟨s, h1, h2, h3⟩
          rw [if_neg (fun e : s = y.name => hnd.1 (e ▸ h1))] at h3
          exact ⟨s, by simp only [List.map_cons, List.mem_cons]; exact .inr h1, h2, h3⟩
        · rintro ⟨s, h1, h2, h3⟩
          simp only [List.map_cons, List.mem_cons] at h1
          rcases h1 with rfl | h1
          · exact absurd h3 hs
          · exact ⟨s, h1, h2, by rw [if_neg (fun e : s = y.name => hnd.1 (e ▸ h1))]; exact h3⟩
theorem any_bad {l : X3} {k : Nat} {ls : List Ln} : ls.any (badL l k) = true ↔ ∃ s ∈ Xz ls, Wz s = false ∧ Wc l s 0 ≠ (k : Int) := by
  simp only [List.any_eq_true, badL, Bool.and_eq_true, decide_eq_true_eq, Bool.not_eq_true', Xz, List.mem_map, List.mem_filter]
  constructor
  · rintro ⟨y, h1, h2, h3, h4⟩; exact ⟨y.label, ⟨y, ⟨h1, h2⟩, rfl⟩, h3, h4⟩
  · rintro ⟨s, ⟨y, ⟨h1, h2⟩, rfl⟩, h3, h4⟩; exact ⟨y, h1, h2, h3, h4⟩
theorem Ma (l : X3) : ∀ (r : X3) (k : Nat) (f : Own), l.drop k = r → (∀ s v, f s = some v ↔ (Wz s = false ∧ ∃ n : Nat, n < k ∧ v = (n : Int) ∧ s ∈ Xz (l.getD n Ud).2)) → (Vm r k f).2 = Mx l r k
  | [], k, f, _, _ => rfl
  | x :: r, k, f, hd, hf => by
    have hk : k < l.length := by
      rcases Nat.lt_or_ge k l.length with h | h
      · exact h
      · rw [List.drop_of_length_le h] at hd; cases hd
    have hx : l.getD k Ud = x := by
      rw [List.drop_eq_getElem_cons hk] at hd
      injection hd with h1 _
      rw [List.getD_eq_getElem?_getD, List.getElem?_eq_getElem hk]; exact h1
    have hr : l.drop (k + 1) = r := by
      rw [List.drop_eq_getElem_cons hk] at hd
      injection hd
    unfold Vm Mx
    by_cases h1 : 40000 < x.2.length
    · rw [if_pos h1, if_pos h1]
    · rw [if_neg h1, if_neg h1]
      by_cases h2 : (Y1 x.2 0).2.2.1 = 0
      · rw [if_neg (by simpa using h2), if_neg (by simpa using h2)]
        have hnm := (Tq h2).2
        have hnd := (U8 h2).2
        have hno := S0 (u := (k : Int)) (sp := (Y1 x.2 0).1) (f := f) (by rw [hnm]; exact hnd)
        rw [hnm] at hno
        have key : (∃ s ∈ Xz x.2, Wz s = false ∧ (f s).isSome = true) ↔ x.2.any (badL l k) = true := by
          rw [any_bad]
          constructor
          · rintro ⟨s, g1, g2, g3⟩
            refine ⟨s, g1, g2, ?_⟩
            obtain ⟨v, hv⟩ := Option.isSome_iff_exists.1 g3
            obtain ⟨_, n, hn, rfl, hs⟩ := (hf s v).1 hv
            have := Nf s l 0 n (by omega) ((Rr (Ts g1)).2 ⟨g2, hs⟩)
            omega
          · rintro ⟨s, g1, g2, g3⟩
            refine ⟨s, g1, g2, ?_⟩
            cases hfs : f s with
            | some v => rfl
            | none =>
              exfalso
              apply g3
              have := Qm s l 0 k hk ((Rr (Ts g1)).2 ⟨g2, by rw [hx]; exact g1⟩) fun m hm hany => by
                have h3 := ((Rr (Ts g1)).1 hany).2
                have := (hf s (m : Int)).2 ⟨g2, m, hm, rfl, h3⟩
                rw [hfs] at this; cases this
              rw [this]; simp
        cases hp : Vl (k : Int) (Y1 x.2 0).1 f with
        | none => rw [if_pos (key.1 (hno.1 hp))]
        | some f' =>
          rw [if_neg (fun hb => by rw [hno.2 (key.2 hb)] at hp; cases hp)]
          refine Ma l r (k + 1) f' hr fun s v => ?_
          obtain ⟨g1, g2⟩ := Tw hp s
          rw [hnm] at g1 g2
          rw [g1]
          constructor
          · intro h
            split at h
            · rename_i hm
              cases h
              exact ⟨hm.1, k, by omega, rfl, by rw [hx]; exact hm.2⟩
            · obtain ⟨h3, n, h4, h5, h6⟩ := (hf s v).1 h
              exact ⟨h3, n, by omega, h5, h6⟩
          · rintro ⟨h3, n, h4, rfl, h6⟩
            rcases Nat.lt_or_ge n k with h7 | h7
            · have := (hf s (n : Int)).2 ⟨h3, n, h7, rfl, h6⟩
              rw [if_neg (fun hm => by rw [g2 hm.1 hm.2] at this; cases this)]
              exact this
            · have : n = k := by omega
              subst this
              rw [hx] at h6
              rw [if_pos ⟨h3, h6⟩]
      · rw [if_pos h2, if_pos h2]
theorem checkRS_eq (l : X3) : Jt l = (Yn l).2 := by
  unfold Jt Yn
  split
  · rfl
  · exact (Ma l l 0 Wk rfl fun s v => by simp [Wk]).symm
theorem Oq : ∀ (ls : List Ln), 0 ≤ X9 ls
  | [] => by simp [X9]
  | x :: ls => by
    have := Tx x
    have := Oq ls
    simp only [X9]; omega
theorem Rt : ∀ (l : List Ln) (k : Nat) (a0 a : Int) (seen : List (List UInt8)) (acc0 acc : List Spot), (W0 l k a0 seen acc0).2.2.1 = 0 → a ≤ 65536 → (W0 l k a seen acc).2.2.1 = if 65536 < a + X9 l then 4 else 0
  | [], k, a0, a, seen, acc0, acc, h, ha => by rw [if_neg (by simp [X9]; omega)]; rfl
  | x :: l, k, a0, a, seen, acc0, acc, h, ha => by
    unfold W0 at h ⊢
    by_cases h1 : W6 x = 0
    · rw [if_neg (by simpa using h1)] at h ⊢
      by_cases h2 : x.label = []
      · rw [if_neg (by simpa using h2)] at h ⊢
        have hs := Oq l
        by_cases h3 : 65536 < a + Wu x
        · rw [if_pos h3, if_pos (by simp only [X9]; omega)]
        · rw [if_neg h3]
          split at h
          · simp at h
          · rw [Rt l (k + 1) _ (a + Wu x) seen _ acc h (by omega)]
            simp only [X9, Int.add_assoc]
            rfl
      · rw [if_pos h2] at h ⊢
        split at h
        · simp at h
        · rename_i h3
          rw [if_neg h3, Rt l (k + 1) _ a _ _ _ h ha]
          simp only [X9, V3 h2, Int.zero_add]
    · rw [if_pos h1] at h
      exact absurd h h1
theorem Kx {l : List Ln} (h : (Y1 l 0).2.2.1 = 0) {a : Int} (ha : a ≤ 65536) : (Y1 l a).2.2.1 = if 65536 < a + X9 l then 4 else 0 := Rt l 0 0 a [] [] [] h ha
theorem Pp {s : List UInt8} (hs : s ≠ []) : ∀ (l : List Ln) (a : Int), s ∉ Xz l → Wp l s a = -1
  | [], a, _ => rfl
  | x :: l, a, h => by
    unfold Wp
    by_cases hl : x.label = []
    · rw [if_neg (by rw [hl]; exact fun e => hs e.symm)]
      exact Pp hs l _ (by rwa [U7 hl] at h)
    · rw [Vw hl] at h
      simp only [List.mem_cons, not_or] at h
      rw [if_neg (fun e => h.1 e.symm)]
      exact Pp hs l _ h.2
def Oc (l : X3) (u : Int) (s : List UInt8) : Int := if Wz s = true ∧ 0 ≤ Wp (linesOf l u) s 0 then u else Wc l s 0
def Lz (l : X3) (u : Int) : List Ln → List Int → Option (List Int)
  | [], us => some us
  | x :: ls, us => if x.ref = [] then Lz l u ls us else if Oc l u x.ref < 0 then none else Lz l u ls (if Oc l u x.ref ∈ us then us else us ++ [Oc l u x.ref])
def rk1 (l : X3) : Nat → Nat → List Int → List Int × Int × Int
  | 0, _, _ => ([], 99, 0)
  | f + 1, i, us => if us.length ≤ i then (us, 0, 0) else if 65536 < Wr l us (i + 1) then ([], 4, us.getD i 0) else
      match Lz l (us.getD i 0) (linesOf l (us.getD i 0)) us with
      | none => ([], 6, us.getD i 0)
      | some us' => rk1 l f (i + 1) us'
theorem P7 {s : List UInt8} (h : Wz s = true) : ∀ (l : X3) (k : Nat), Wc l s k = -1
  | [], _ => rfl
  | u :: l, k => by
    unfold Wc
    rw [if_neg (by simp [Qc, h])]
    exact P7 h l _
theorem Hj {l : X3} (hc : (Yn l).2.1 = 0) {u : Int} {s : List UInt8} (hs : s ≠ []) (hu0 : 0 ≤ u) {sp : List Spot} (hsp : sp.map Spot.name = Xz (linesOf l u)) : Uz (Yn l).1 u sp s = if Oc l u s < 0 then none else some (Oc l u s) := by
  by_cases ho : Wz s = true
  · by_cases hm : s ∈ Xz (linesOf l u)
    · have h0 := Tr (linesOf l u) 0 (by omega) hm
      have e1 : Oc l u s = u := by unfold Oc; rw [if_pos ⟨ho, h0.1⟩]
      have e2 : Uz (Yn l).1 u sp s = some u := by unfold Uz; rw [if_pos ho, Rc, hsp, if_pos (by simpa using hm)]
      rw [e1, e2, if_neg (by omega)]
    · have e1 : Oc l u s = -1 := by
        unfold Oc
        rw [Pp hs _ _ hm, if_neg (fun h => absurd h.2 (by decide)), P7 ho]
      have e2 : Uz (Yn l).1 u sp s = none := by unfold Uz; rw [if_pos ho, Rc, hsp, if_neg (by simpa using hm)]
      rw [e1, e2, if_pos (by decide)]
  · have e1 : Oc l u s = ((Yn l).1 s).getD (-1 : Int) := by
      unfold Oc
      rw [if_neg (fun h => ho h.1), Nd hc hs]
    have e2 : Uz (Yn l).1 u sp s = (Yn l).1 s := by unfold Uz; rw [if_neg ho]
    rw [e1, e2]
    cases hv : (Yn l).1 s with
    | none => rfl
    | some v =>
      have h0 : (0 : Int) ≤ v := ((W8 hc).2.2 s v hv).1
      show some v = if (v : Int) < 0 then none else some v
      rw [if_neg (Int.not_lt.mpr h0)]
theorem Na {l : X3} (hc : (Yn l).2.1 = 0) {u : Int} (hu0 : 0 ≤ u) {sp : List Spot} (hsp : sp.map Spot.name = Xz (linesOf l u)) : ∀ (ls : List Ln) (us : List Int), Lz l u ls us = Vq (Yn l).1 u sp ls us
  | [], us => rfl
  | x :: ls, us => by
    simp only [Lz, Vq]
    by_cases hr : x.ref = []
    · rw [if_pos hr, if_pos hr, Na hc hu0 hsp]
    · rw [if_neg hr, if_neg hr, Hj hc hr hu0 hsp]
      by_cases hn : Oc l u x.ref < 0
      · rw [if_pos hn, if_pos hn]
      · rw [if_neg hn, if_neg hn]
        simp only
        rw [Na hc hu0 hsp]
def gS (l : X3) (us : List Int) : Nat → Own
  | 0 => Wk
  | i + 1 => Sc (X2 (linesOf l (us.getD i 0)) (Wr l us i)) (gS l us i)
def spS (l : X3) (us : List Int) : Nat → List Spot
  | 0 => []
  | i + 1 => spS l us i ++ T4 (X2 (linesOf l (us.getD i 0)) (Wr l us i))
theorem Ml (l : X3) (us vs : List Int) : ∀ (k : Nat), k ≤ us.length → gS l (us ++ vs) k = gS l us k ∧ spS l (us ++ vs) k = spS l us k
  | 0, _ => ⟨rfl, rfl⟩
  | k + 1, h => by
    have e : (us ++ vs).getD k 0 = us.getD k 0 := by
      rw [List.getD_eq_getElem?_getD, List.getElem?_append_left (by omega), ← List.getD_eq_getElem?_getD]
    obtain ⟨h1, h2⟩ := Ml l us vs k (by omega)
    unfold gS spS
    rw [e, V4 l us vs k (by omega), h1, h2]
    exact ⟨rfl, rfl⟩
theorem Ku {l : X3} (hc : (Yn l).2.1 = 0) : ∀ (f i : Nat) (us : List Int) (at_ : Int) (g : Own) (sps : List Spot), Qf l.length us → i ≤ us.length → at_ = Wr l us i → at_ ≤ 65536 → g = gS l us i → sps = spS l us i →
    ((rk1 l f i us).2 = (lk1 l (Yn l).1 f i us at_ g sps).2 ∧ (rk1 l f i us).1 = (lk1 l (Yn l).1 f i us at_ g sps).1.1) ∧
    ((lk1 l (Yn l).1 f i us at_ g sps).2.1 = 0 → (lk1 l (Yn l).1 f i us at_ g sps).1.2.1 = gS l (lk1 l (Yn l).1 f i us at_ g sps).1.1 (lk1 l (Yn l).1 f i us at_ g sps).1.1.length ∧
      (lk1 l (Yn l).1 f i us at_ g sps).1.2.2 = spS l (lk1 l (Yn l).1 f i us at_ g sps).1.1 (lk1 l (Yn l).1 f i us at_ g sps).1.1.length ∧ Wr l (lk1 l (Yn l).1 f i us at_ g sps).1.1 (lk1 l (Yn l).1 f i us at_ g sps).1.1.length ≤ 65536)
  | 0, i, us, at_, g, sps, _, _, _, _, _, _ => by simp [lk1, rk1]
  | f + 1, i, us, at_, g, sps, hus, hi, ha, ha1, hg, hsp => by
    obtain ⟨hl, hu, ho⟩ := W8 hc
    rw [Tj]
    unfold rk1
    by_cases h1 : us.length ≤ i
    · rw [if_pos h1, if_pos h1]
      have : i = us.length := by omega
      subst this
      exact ⟨⟨rfl, rfl⟩, fun _ => ⟨hg, hsp, by simp only; omega⟩⟩
    · rw [if_neg h1, if_neg h1]
      have hlt : i < us.length := by omega
      have hmem : us.getD i 0 ∈ us := by simp [List.getD, hlt]
      have hrng := hus.2 _ hmem
      have humem : l.getD (us.getD i 0).toNat Ud ∈ l := by
        have : (us.getD i 0).toNat < l.length := by omega
        rw [List.getD_eq_getElem?_getD, List.getElem?_eq_getElem this]; exact List.getElem_mem this
      have h0 : (Y1 (linesOf l (us.getD i 0)) 0).2.2.1 = 0 := (hu _ humem).2
      have hmv := Kx h0 ha1
      rw [Vr l us i hlt, ← ha]
      by_cases h2 : 65536 < at_ + X9 (linesOf l (us.getD i 0))
      · rw [if_pos h2] at hmv
        rw [if_pos h2, if_pos (by rw [hmv]; decide), hmv]
        exact ⟨⟨rfl, rfl⟩, fun h => by simp at h⟩
      · rw [if_neg h2] at hmv
        rw [if_neg h2, if_neg (by rw [hmv]; decide)]
        obtain ⟨he, hnm⟩ := Tq hmv
        obtain ⟨hso, hnd⟩ := U8 hmv
        rw [Na hc hrng.1 hnm]
        cases hr : Vq (Yn l).1 (us.getD i 0) (Y1 (linesOf l (us.getD i 0)) at_).1 (linesOf l (us.getD i 0)) us with
        | none => exact ⟨⟨rfl, rfl⟩, fun h => by simp at h⟩
        | some us' =>
          obtain ⟨vs, rfl⟩ := Ua hr
          obtain ⟨q1, q2⟩ := Ml l us vs i hi
          have e0 : (us ++ vs).getD i 0 = us.getD i 0 := by
            rw [List.getD_eq_getElem?_getD, List.getElem?_append_left hlt, ← List.getD_eq_getElem?_getD]
          refine Ku hc f (i + 1) (us ++ vs) _ _ _ (Sl hrng ho hr hus).1 (by simp; omega) ?_ ?_ ?_ ?_
          · rw [V4 l us vs (i + 1) (by omega), Vr l us i hlt, ← ha]; exact he
          · rw [he]; omega
          · show _ = Sc (X2 (linesOf l ((us ++ vs).getD i 0)) (Wr l (us ++ vs) i)) (gS l (us ++ vs) i)
            rw [e0, V4 l us vs i hi, q1, ← ha, ← hg, hso]
          · show _ = spS l (us ++ vs) i ++ T4 (X2 (linesOf l ((us ++ vs).getD i 0)) (Wr l (us ++ vs) i))
            rw [e0, V4 l us vs i hi, q2, ← ha, ← hsp, hso]
theorem Qu {us : List Int} (h : us.Nodup) {i j : Nat} (hi : i < us.length) (hj : j < us.length) (e : us.getD i 0 = us.getD j 0) : i = j := by
  have a1 : us.getD i 0 = us[i] := by rw [List.getD_eq_getElem?_getD, List.getElem?_eq_getElem hi]; rfl
  have a2 : us.getD j 0 = us[j] := by rw [List.getD_eq_getElem?_getD, List.getElem?_eq_getElem hj]; rfl
  rw [a1, a2] at e
  have hp := List.pairwise_iff_getElem.1 h
  rcases Nat.lt_trichotomy i j with h1 | h1 | h1
  · exact absurd e (hp i j hi hj h1)
  · exact h1
  · exact absurd e.symm (hp j i hj hi h1)
theorem Mw {l : X3} (hc : (Yn l).2.1 = 0) {us : List Int} (hus : Qf l.length us) {s : List UInt8} (hos : Wz s = false) {k : Nat} (hs : s ∈ Xz (linesOf l (us.getD k 0))) : ∀ (n : Nat), k < n → n ≤ us.length → gS l us n s = some (Wp (linesOf l (us.getD k 0)) s (Wr l us k))
  | 0, h, _ => by omega
  | n + 1, h, hn => by
    have hlabel : ∀ m, m < us.length → s ∈ Xz (linesOf l (us.getD m 0)) → (Yn l).1 s = some (us.getD m 0) := fun m hm h2 => by
      have hr := hus.2 (us.getD m 0) (by simp [List.getD, hm])
      exact (Ty hc s _).2 ⟨hos, (us.getD m 0).toNat, by omega, by omega, h2⟩
    have hndl : ((X2 (linesOf l (us.getD n 0)) (Wr l us n)).map Spot.name).Nodup := by
      rw [W4]
      have hr := hus.2 (us.getD n 0) (by have : n < us.length := by omega
                                         simp [List.getD, this])
      have humem : l.getD (us.getD n 0).toNat Ud ∈ l := by
        have : (us.getD n 0).toNat < l.length := by omega
        rw [List.getD_eq_getElem?_getD, List.getElem?_eq_getElem this]; exact List.getElem_mem this
      exact (U8 ((W8 hc).2.1 _ humem).2).2
    show Sc (X2 (linesOf l (us.getD n 0)) (Wr l us n)) (gS l us n) s = _
    rw [Po _ _ _ hndl, W4]
    by_cases hm : s ∈ Xz (linesOf l (us.getD n 0))
    · have h1 := hlabel n (by omega) hm
      have h2 := hlabel k (by omega) hs
      rw [h1] at h2
      have hkn : k = n := by
        have h3 := Option.some.inj h2
        exact (Qu hus.1 (by omega) (by omega) h3).symm
      subst hkn
      rw [if_pos ⟨hos, hm⟩, To (Ts hm) _ _ hm]
    · rw [if_neg (fun h => hm h.2)]
      have : k ≠ n := fun e => hm (e ▸ hs)
      exact Mw hc hus hos hs n (by omega) (by omega)
end Go.Proofs.Ytibkcfpcfbodaaa
