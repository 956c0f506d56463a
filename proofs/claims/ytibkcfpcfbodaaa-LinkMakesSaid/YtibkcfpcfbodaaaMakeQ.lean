/-
  Plain laws of the reference's linking: words and labels, line by line, are the program's.
-/
import Derived.Test.YtibkcfpcfbodaaaMakeP
namespace Go.Proofs.Ytibkcfpcfbodaaa
open Go.RowKit Vc
set_option linter.unusedVariables false
set_option linter.unusedSimpArgs false
def begL (l : X5) : List Int → Int → List Int
  | [], a => [a]
  | u :: us, a => a :: begL l us (a + Wt (linesOf l u))
theorem Ok (l : X5) : ∀ (us : List Int) (a : Int), (begL l us a).length = us.length + 1
  | [], a => rfl
  | u :: us, a => by simp [begL, Ok l us]
theorem Sv (l : X5) : ∀ (us : List Int) (a : Int) (k : Nat), k ≤ us.length → (begL l us a).getD k 0 = a + W1 l us k
  | [], a, k, h => by
    have : k = 0 := by simpa using h
    subst this; simp [begL, W1]
  | u :: us, a, 0, h => by simp [begL, W1]
  | u :: us, a, k + 1, h => by
    have := Sv l us (a + Wt (linesOf l u)) k (by simpa using h)
    simp only [begL, List.getD_cons_succ, this]
    show _ = a + (Wt (linesOf l u) + W1 l us k)
    omega
def Tp (l : X5) (us bs : List Int) (s : List UInt8) (u a : Int) : Int :=
  if W2 s = true then whereL (linesOf l u) s a
  else if Us (fun v => decide (v = holderL l s 0)) us 0 < 0 then -1
  else whereL (linesOf l (holderL l s 0)) s (bs.getD (Us (fun v => decide (v = holderL l s 0)) us 0).toNat 0)
def Ny (pl : List UInt8 → Int) (y : Ln) : Ins := if y.ref ≠ [] then ⟨y.ins.op, y.ins.d, y.ins.s, (pl y.ref).tmod 65536⟩ else y.ins
def Q2 (pl : List UInt8 → Int) (y : Ln) : List Int := if y.label ≠ [] then [] else (Uv [Ny pl y]).1
def Rh (pl : List UInt8 → Int) (y : Ln) : List Spot := if y.label ≠ [] ∧ W2 y.label = false then [⟨y.label, pl y.label⟩] else []
def dW (l : X5) (us bs : List Int) : Nat → List Int → List Int
  | _, [] => []
  | i, u :: r => (linesOf l u).flatMap (Q2 fun s => Tp l us bs s u (bs.getD i 0)) ++ dW l us bs (i + 1) r
def dS (l : X5) (us bs : List Int) : Nat → List Int → List Spot
  | _, [] => []
  | i, u :: r => (linesOf l u).flatMap (Rh fun s => Tp l us bs s u (bs.getD i 0)) ++ dS l us bs (i + 1) r
theorem Jk {α : Type} (p : α → Bool) : ∀ (us : List α) (k i : Nat) (d : α), i < us.length → p (us.getD i d) = true → (∀ m, m < i → p (us.getD m d) = false) → Us p us k = ((k + i : Nat) : Int)
  | [], k, i, d, h, _, _ => by simp at h
  | x :: us, k, 0, d, h, h1, _ => by simp [Us, show p x = true by simpa using h1]
  | x :: us, k, i + 1, d, h, h1, h2 => by
    have h0 := h2 0 (by omega)
    simp only [List.getD_cons_zero] at h0
    simp only [Us, h0, Bool.false_eq_true, if_false]
    rw [Jk p us (k + 1) i d (by simpa using h) (by simpa using h1) fun m hm => by have := h2 (m + 1) (by omega); simpa using this]
    congr 1; omega
structure ImgOk (l : X5) (us : List Int) (g : Own) : Prop where
  chk : (Yw l).2.1 = 0
  ok : Sp l.length us
  good : ∀ k, k < us.length → R7 l (Yw l).1 us k
  gval : g = gS l us us.length
  room : W1 l us us.length ≤ 65536
theorem Tz (l : X5) (us : List Int) : ∀ (n k : Nat), k ≤ n → n ≤ us.length → 0 ≤ W1 l us k ∧ W1 l us k ≤ W1 l us n
  | 0, k, h, _ => by
    have : k = 0 := by omega
    subst this; cases us <;> simp [W1]
  | n + 1, k, h, hn => by
    have h1 := Tz l us n n (Nat.le_refl _) (by omega)
    have h2 := O1 (linesOf l (us.getD n 0))
    rw [Uo l us n (by omega)]
    rcases Nat.lt_or_ge k (n + 1) with h3 | h3
    · have := Tz l us n k (by omega) (by omega)
      omega
    · have : k = n + 1 := by omega
      subst this
      rw [Uo l us n (by omega)]
      omega
section
variable {l : X5} {us : List Int} {g : Own}
theorem ImgOk.lines (h : ImgOk l us g) {k : Nat} (hk : k < us.length) : (∀ x ∈ linesOf l (us.getD k 0), Vj x = 0) ∧ (X4 (linesOf l (us.getD k 0))).Nodup ∧ (Xr (linesOf l (us.getD k 0)) 0).2.2.1 = 0 := by
  have hr := h.ok.2 (us.getD k 0) (by simp [List.getD, hk])
  have humem : l.getD (us.getD k 0).toNat Vr ∈ l := by
    have : (us.getD k 0).toNat < l.length := by omega
    rw [List.getD_eq_getElem?_getD, List.getElem?_eq_getElem this]; exact List.getElem_mem this
  have h0 : (Xr (linesOf l (us.getD k 0)) 0).2.2.1 = 0 := ((Vf h.chk).2.1 _ humem).2
  exact ⟨Uf _ 0 0 [] [] h0, (T1 h0).2, h0⟩
theorem ImgOk.holder (h : ImgOk l us g) {s : List UInt8} (hs : s ≠ []) (ho : W2 s = false) {v : Int} (hv : (Yw l).1 s = some v) (hm : v ∈ us) : ∃ k, k < us.length ∧ us.getD k 0 = v ∧ s ∈ X4 (linesOf l v) ∧
    holderL l s 0 = v ∧ Us (fun x => decide (x = holderL l s 0)) us 0 = (k : Int) := by
  obtain ⟨k, hk, e⟩ := List.getElem_of_mem hm
  have e' : us.getD k 0 = v := by rw [List.getD_eq_getElem?_getD, List.getElem?_eq_getElem hk]; exact e
  have hh : holderL l s 0 = v := by rw [R2 h.chk hs, hv]; rfl
  obtain ⟨_, n, hn, rfl, hl⟩ := (Tn h.chk s v).1 hv
  refine ⟨k, hk, e', by show s ∈ X4 (l.getD ((n : Nat) : Int).toNat Vr).2; rw [Int.toNat_natCast]; exact hl, hh, ?_⟩
  rw [Jk _ us 0 k 0 hk (by rw [e', hh]; simp) fun m hm' => ?_]
  · simp
  · rw [hh]
    refine decide_eq_false fun e2 => ?_
    have := Q9 h.ok.1 (show m < us.length by omega) hk (e2.trans e'.symm)
    omega
theorem ImgOk.place (h : ImgOk l us g) {k : Nat} (hk : k < us.length) {y : Ln} (hy : y ∈ linesOf l (us.getD k 0)) (hr : y.ref ≠ []) :
    (Sc g (Xr (linesOf l (us.getD k 0)) (W1 l us k)).1 y.ref).1 = Tp l us (begL l us 0) y.ref (us.getD k 0) ((begL l us 0).getD k 0) ∧
      0 ≤ Tp l us (begL l us 0) y.ref (us.getD k 0) ((begL l us 0).getD k 0) ∧ Tp l us (begL l us 0) y.ref (us.getD k 0) ((begL l us 0).getD k 0) ≤ 65536 := by
  obtain ⟨hg1, hg2⟩ := h.good k hk
  obtain ⟨hsp, hnd⟩ := T1 hg1
  have hgy := hg2 y hy hr
  have hbk : (begL l us 0).getD k 0 = W1 l us k := by rw [Sv l us 0 k (by omega)]; omega
  have hroom : ∀ m, m < us.length → 0 ≤ W1 l us m ∧ W1 l us m + Wt (linesOf l (us.getD m 0)) ≤ 65536 := fun m hm => by
    have h1 := Tz l us us.length (m + 1) (by omega) (Nat.le_refl _)
    have h2 := Tz l us us.length m (by omega) (Nat.le_refl _)
    have h3 := h.room
    rw [Uo l us m hm] at h1
    omega
  rw [hbk]
  unfold Sc Tp
  by_cases ho : W2 y.ref = true
  · rw [if_pos ho] at hgy
    rw [if_pos ho, if_pos ho, hsp]
    obtain ⟨i, h1, h2⟩ := Nk y.ref (X8 (linesOf l (us.getD k 0)) (W1 l us k)) 0 (by rw [W3]; exact hgy)
    rw [h1]
    simp only [Nat.zero_add, Int.toNat_natCast]
    rw [h2, Tv hr _ _ hgy]
    have := Tx (linesOf l (us.getD k 0)) (W1 l us k) (hroom k hk).1 hgy
    have := hroom k hk
    exact ⟨rfl, by omega, by omega⟩
  · rw [if_neg ho] at hgy
    rw [if_neg ho, if_neg ho]
    obtain ⟨v, hv, hm⟩ := hgy
    obtain ⟨k', hk', e1, e2, e3, e4⟩ := h.holder hr (by simpa using ho) hv hm
    rw [e4, if_neg (by omega), Int.toNat_natCast, Sv l us 0 k' (by omega), e3]
    subst e1
    have hgv := Iu h.chk h.ok (by simpa using ho) e2 us.length hk' (Nat.le_refl _)
    rw [h.gval, hgv]
    have := Tx (linesOf l (us.getD k' 0)) (W1 l us k') (hroom k' hk').1 e2
    have := hroom k' hk'
    simp only [Option.getD_some, Int.zero_add]
    exact ⟨trivial, by omega, by omega⟩
theorem Ka {h : List UInt8 → Int × Bool} {pl : List UInt8 → Int} : ∀ (ls : List Ln), (∀ x ∈ ls, Vj x = 0) → (∀ x ∈ ls, x.ref ≠ [] → (h x.ref).1 = pl x.ref ∧ 0 ≤ pl x.ref ∧ pl x.ref ≤ 65536) → ls.flatMap (Q2 pl) = W6 (Ts h ls)
  | [], _, _ => rfl
  | x :: ls, hw, hp => by
    have ih := Ka ls (fun y hy => hw y (List.mem_cons_of_mem _ hy)) (fun y hy => hp y (List.mem_cons_of_mem _ hy))
    rw [List.flatMap_cons, ih]
    by_cases hl : x.label = []
    · have e : Ts h (x :: ls) = O9 h x :: Ts h ls := by simp [Ts, hl]
      rw [e, Vw]
      congr 1
      obtain ⟨g1, g2⟩ := Jf (h := h) (hw x (List.mem_cons_self ..)) hl (fun hr => by have := hp x (List.mem_cons_self ..) hr; omega)
      have e2 : Ny pl x = O9 h x := by
        unfold Ny O9
        by_cases hr : x.ref = []
        · rw [if_neg (by simpa using hr), if_neg (by simpa using hr)]
        · obtain ⟨q1, q2, q3⟩ := hp x (List.mem_cons_self ..) hr
          rw [if_pos hr, if_pos hr, q1, Jr _ q2 (by omega), Int.tmod_eq_emod_of_nonneg q2]
      unfold Q2
      rw [if_neg (by simpa using hl), e2, Li, if_pos g1]
    · have e : Ts h (x :: ls) = Ts h ls := by simp [Ts, hl]
      rw [e]
      unfold Q2
      rw [if_pos hl]; rfl
theorem dW_eq (h : ImgOk l us g) : ∀ (r : List Int) (i : Nat) (acc : List Int), us.drop i = r → lk2 l g r (W1 l us i) acc = acc ++ dW l us (begL l us 0) i r
  | [], i, acc, _ => by simp [lk2, dW]
  | u :: r, i, acc, hd => by
    have hi : i < us.length := by
      rcases Nat.lt_or_ge i us.length with h1 | h1
      · exact h1
      · rw [List.drop_of_length_le h1] at hd; cases hd
    rw [List.drop_eq_getElem_cons hi] at hd
    injection hd with h1 h2
    have hu : us.getD i 0 = u := by rw [List.getD_eq_getElem?_getD, List.getElem?_eq_getElem hi]; exact h1
    obtain ⟨hw, hnd, h0⟩ := h.lines hi
    have hg1 := (h.good i hi).1
    have hend := (T0 hg1).1
    have hpl := fun y hy hr => h.place hi (y := y) hy hr
    rw [hu] at hw hnd h0 hg1 hend hpl
    simp only [lk2, dW]
    rw [hend, show W1 l us i + Wt (linesOf l u) = W1 l us (i + 1) by rw [Uo l us i hi, hu]]
    rw [dW_eq h r (i + 1) _ h2, List.append_assoc]
    congr 2
    rw [Ka (h := Sc g (Xr (linesOf l u) (W1 l us i)).1) (linesOf l u) hw hpl]
    have hres : (W4 (Sc g (Xr (linesOf l u) (W1 l us i)).1) (linesOf l u)).1 = Ts (Sc g (Xr (linesOf l u) (W1 l us i)).1) (linesOf l u) := by
      unfold W4
      rw [S5 _ _ _ (fun x _ _ _ => by unfold Sc; split <;> rfl)]
      simp
    rw [hres]
    obtain ⟨q1, q2⟩ := M8 (h := Sc g (Xr (linesOf l u) (W1 l us i)).1) (linesOf l u) hw (fun x hx hr => by
      obtain ⟨a1, a2, a3⟩ := hpl x hx hr
      rw [a1]; omega)
    have hsz : Wt (linesOf l u) ≤ 65536 := by
      have h3 := Tz l us us.length (i + 1) (by omega) (Nat.le_refl _)
      have h4 := Tz l us us.length i (by omega) (Nat.le_refl _)
      have h5 := h.room
      rw [Uo l us i hi, hu] at h3
      omega
    rw [Oh q1 (by omega)]
theorem O6 {pl : List UInt8 → Int} (a : Int) (ls0 : List Ln) : ∀ (ls : List Ln) (b : Int), (X4 ls).Nodup → (∀ y ∈ ls, y.label ≠ [] → W2 y.label = false → pl y.label = whereL ls y.label b) → ls.flatMap (Rh pl) = Sy (X8 ls b)
  | [], b, _, _ => rfl
  | x :: ls, b, hnd, hp => by
    rw [List.flatMap_cons]
    by_cases hl : x.label = []
    · rw [Ty hl] at hnd
      have e1 : Rh pl x = [] := by unfold Rh; rw [if_neg (fun h => h.1 hl)]
      have e2 : X8 (x :: ls) b = X8 ls (b + W9 x) := by
        conv => lhs; unfold X8
        rw [if_neg (by simpa using hl)]
      rw [e1, e2, List.nil_append]
      refine O6 a ls0 ls _ hnd fun y hy h1 h2 => ?_
      rw [hp y (List.mem_cons_of_mem _ hy) h1 h2]
      conv => lhs; unfold whereL
      rw [if_neg (by rw [hl]; exact fun e => h1 e.symm)]
    · rw [Tf hl] at hnd
      simp only [List.nodup_cons] at hnd
      have e2 : X8 (x :: ls) b = ⟨x.label, b⟩ :: X8 ls b := by
        conv => lhs; unfold X8
        rw [if_pos hl]
      rw [e2]
      have ih := O6 (pl := pl) a ls0 ls b hnd.2 fun y hy h1 h2 => by
        rw [hp y (List.mem_cons_of_mem _ hy) h1 h2]
        conv => lhs; unfold whereL
        rw [if_neg (fun e => hnd.1 (by rw [e]; exact List.mem_map.2 ⟨y, List.mem_filter.2 ⟨hy, by simpa using h1⟩, rfl⟩)), Tk hl, Int.add_zero]
      rw [ih]
      unfold Rh Sy
      cases ho : W2 x.label with
      | true => rw [if_neg (fun h => by cases h.2)]; simp [ho]
      | false =>
        rw [if_pos ⟨hl, rfl⟩, hp x (List.mem_cons_self ..) hl ho]
        have : whereL (x :: ls) x.label b = b := by unfold whereL; rw [if_pos rfl]
        rw [this]; simp [ho]
theorem dS_eq (h : ImgOk l us g) : ∀ (r : List Int) (i : Nat), i ≤ us.length → us.drop i = r → spS l us i ++ dS l us (begL l us 0) i r = spS l us us.length
  | [], i, hle, hd => by
    have hi : us.length ≤ i := by
      rcases Nat.lt_or_ge i us.length with h1 | h1
      · rw [List.drop_eq_getElem_cons h1] at hd; cases hd
      · exact h1
    have : i = us.length := by omega
    subst this
    simp [dS]
  | u :: r, i, hle, hd => by
    have hi : i < us.length := by
      rcases Nat.lt_or_ge i us.length with h1 | h1
      · exact h1
      · rw [List.drop_of_length_le h1] at hd; cases hd
    rw [List.drop_eq_getElem_cons hi] at hd
    injection hd with h1 h2
    have hu : us.getD i 0 = u := by rw [List.getD_eq_getElem?_getD, List.getElem?_eq_getElem hi]; exact h1
    have ih := dS_eq h r (i + 1) hi h2
    obtain ⟨hw, hnd, h0⟩ := h.lines hi
    rw [← ih]
    simp only [dS]
    show _ = (spS l us i ++ Sy (X8 (linesOf l (us.getD i 0)) (W1 l us i))) ++ _
    rw [List.append_assoc]
    congr 2
    rw [hu] at hnd ⊢
    have hbk : (begL l us 0).getD i 0 = W1 l us i := by rw [Sv l us 0 i (by omega)]; omega
    refine O6 0 [] (linesOf l u) (W1 l us i) hnd fun y hy hl ho => ?_
    have hyl : y.label ∈ X4 (linesOf l u) := List.mem_map.2 ⟨y, List.mem_filter.2 ⟨hy, by simpa using hl⟩, rfl⟩
    have hr := h.ok.2 (us.getD i 0) (by simp [List.getD, hi])
    rw [hu] at hr
    have hv : (Yw l).1 y.label = some u := (Tn h.chk _ _).2 ⟨ho, u.toNat, by omega, by omega, hyl⟩
    obtain ⟨k, hk, e1, _, e3, e4⟩ := h.holder hl ho hv (by rw [← hu]; simp [List.getD, hi])
    have hki : k = i := Q9 h.ok.1 hk hi (e1.trans hu.symm)
    subst hki
    unfold Tp
    rw [if_neg (by simp [ho]), e4, if_neg (by omega), Int.toNat_natCast, Sv l us 0 k (by omega), e3, Int.zero_add]
end
end Go.Proofs.Ytibkcfpcfbodaaa
