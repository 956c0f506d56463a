/-
  Plain laws of the reference's linking: words and labels, line by line, are the program's.
-/
import Derived.Test.YtibkcfpcfbodaaaMakeP
namespace Go.Proofs.Ytibkcfpcfbodaaa
open Go.RowKit Vc
set_option linter.unusedVariables false
set_option linter.unusedSimpArgs false
def Up (l : X3) : List Int → Int → List Int
  | [], a => [a]
  | u :: us, a => a :: Up l us (a + X9 (linesOf l u))
theorem Iu (l : X3) : ∀ (us : List Int) (a : Int), (Up l us a).length = us.length + 1
  | [], a => rfl
  | u :: us, a => by simp [Up, Iu l us]
theorem Sn (l : X3) : ∀ (us : List Int) (a : Int) (k : Nat), k ≤ us.length → (Up l us a).getD k 0 = a + Wr l us k
  | [], a, k, h => by
    have : k = 0 := by simpa using h
    subst this; simp [Up, Wr]
  | u :: us, a, 0, h => by simp [Up, Wr]
  | u :: us, a, k + 1, h => by
    have := Sn l us (a + X9 (linesOf l u)) k (by simpa using h)
    simp only [Up, List.getD_cons_succ, this]
    show _ = a + (X9 (linesOf l u) + Wr l us k)
    omega
def U6 (l : X3) (us bs : List Int) (s : List UInt8) (u a : Int) : Int :=
  if Wz s = true then Wp (linesOf l u) s a
  else if U3 (fun v => decide (v = Wc l s 0)) us 0 < 0 then -1
  else Wp (linesOf l (Wc l s 0)) s (bs.getD (U3 (fun v => decide (v = Wc l s 0)) us 0).toNat 0)
def Pa (pl : List UInt8 → Int) (y : Ln) : Ins := if y.ref ≠ [] then ⟨y.ins.op, y.ins.d, y.ins.s, (pl y.ref).tmod 65536⟩ else y.ins
def O1 (pl : List UInt8 → Int) (y : Ln) : List Int := if y.label ≠ [] then [] else (Uw [Pa pl y]).1
def Lp (pl : List UInt8 → Int) (y : Ln) : List Spot := if y.label ≠ [] ∧ Wz y.label = false then [⟨y.label, pl y.label⟩] else []
def dW (l : X3) (us bs : List Int) : Nat → List Int → List Int
  | _, [] => []
  | i, u :: r => (linesOf l u).flatMap (O1 fun s => U6 l us bs s u (bs.getD i 0)) ++ dW l us bs (i + 1) r
def dS (l : X3) (us bs : List Int) : Nat → List Int → List Spot
  | _, [] => []
  | i, u :: r => (linesOf l u).flatMap (Lp fun s => U6 l us bs s u (bs.getD i 0)) ++ dS l us bs (i + 1) r
theorem Jk {α : Type} (p : α → Bool) : ∀ (us : List α) (k i : Nat) (d : α), i < us.length → p (us.getD i d) = true → (∀ m, m < i → p (us.getD m d) = false) → U3 p us k = ((k + i : Nat) : Int)
  | [], k, i, d, h, _, _ => by simp at h
  | x :: us, k, 0, d, h, h1, _ => by simp [U3, show p x = true by simpa using h1]
  | x :: us, k, i + 1, d, h, h1, h2 => by
    have h0 := h2 0 (by omega)
    simp only [List.getD_cons_zero] at h0
    simp only [U3, h0, Bool.false_eq_true, if_false]
    rw [Jk p us (k + 1) i d (by simpa using h) (by simpa using h1) fun m hm => by have := h2 (m + 1) (by omega); simpa using this]
    congr 1; omega
structure ImgOk (l : X3) (us : List Int) (g : Own) : Prop where
  chk : (Yn l).2.1 = 0
  ok : Qf l.length us
  good : ∀ k, k < us.length → Ry l (Yn l).1 us k
  gval : g = gS l us us.length
  room : Wr l us us.length ≤ 65536
theorem Tt (l : X3) (us : List Int) : ∀ (n k : Nat), k ≤ n → n ≤ us.length → 0 ≤ Wr l us k ∧ Wr l us k ≤ Wr l us n
  | 0, k, h, _ => by
    have : k = 0 := by omega
    subst this; cases us <;> simp [Wr]
  | n + 1, k, h, hn => by
    have h1 := Tt l us n n (Nat.le_refl _) (by omega)
    have h2 := Oq (linesOf l (us.getD n 0))
    rw [Vr l us n (by omega)]
    rcases Nat.lt_or_ge k (n + 1) with h3 | h3
    · have := Tt l us n k (by omega) (by omega)
      omega
    · have : k = n + 1 := by omega
      subst this
      rw [Vr l us n (by omega)]
      omega
section
variable {l : X3} {us : List Int} {g : Own}
theorem ImgOk.lines (h : ImgOk l us g) {k : Nat} (hk : k < us.length) : (∀ x ∈ linesOf l (us.getD k 0), W6 x = 0) ∧ (Xz (linesOf l (us.getD k 0))).Nodup ∧ (Y1 (linesOf l (us.getD k 0)) 0).2.2.1 = 0 := by
  have hr := h.ok.2 (us.getD k 0) (by simp [List.getD, hk])
  have humem : l.getD (us.getD k 0).toNat Ud ∈ l := by
    have : (us.getD k 0).toNat < l.length := by omega
    rw [List.getD_eq_getElem?_getD, List.getElem?_eq_getElem this]; exact List.getElem_mem this
  have h0 : (Y1 (linesOf l (us.getD k 0)) 0).2.2.1 = 0 := ((W8 h.chk).2.1 _ humem).2
  exact ⟨Vv _ 0 0 [] [] h0, (U8 h0).2, h0⟩
theorem ImgOk.holder (h : ImgOk l us g) {s : List UInt8} (hs : s ≠ []) (ho : Wz s = false) {v : Int} (hv : (Yn l).1 s = some v) (hm : v ∈ us) : ∃ k, k < us.length ∧ us.getD k 0 = v ∧ s ∈ Xz (linesOf l v) ∧
    Wc l s 0 = v ∧ U3 (fun x => decide (x = Wc l s 0)) us 0 = (k : Int) := by
  obtain ⟨k, hk, e⟩ := List.getElem_of_mem hm
  have e' : us.getD k 0 = v := by rw [List.getD_eq_getElem?_getD, List.getElem?_eq_getElem hk]; exact e
  have hh : Wc l s 0 = v := by rw [Nd h.chk hs, hv]; rfl
  obtain ⟨_, n, hn, rfl, hl⟩ := (Ty h.chk s v).1 hv
  refine ⟨k, hk, e', by show s ∈ Xz (l.getD ((n : Nat) : Int).toNat Ud).2; rw [Int.toNat_natCast]; exact hl, hh, ?_⟩
  rw [Jk _ us 0 k 0 hk (by rw [e', hh]; simp) fun m hm' => ?_]
  · simp
  · rw [hh]
    refine decide_eq_false fun e2 => ?_
    have := Qu h.ok.1 (show m < us.length by omega) hk (e2.trans e'.symm)
    omega
theorem ImgOk.place (h : ImgOk l us g) {k : Nat} (hk : k < us.length) {y : Ln} (hy : y ∈ linesOf l (us.getD k 0)) (hr : y.ref ≠ []) :
    (T8 g (Y1 (linesOf l (us.getD k 0)) (Wr l us k)).1 y.ref).1 = U6 l us (Up l us 0) y.ref (us.getD k 0) ((Up l us 0).getD k 0) ∧
      0 ≤ U6 l us (Up l us 0) y.ref (us.getD k 0) ((Up l us 0).getD k 0) ∧ U6 l us (Up l us 0) y.ref (us.getD k 0) ((Up l us 0).getD k 0) ≤ 65536 := by
  obtain ⟨hg1, hg2⟩ := h.good k hk
  obtain ⟨hsp, hnd⟩ := U8 hg1
  have hgy := hg2 y hy hr
  have hbk : (Up l us 0).getD k 0 = Wr l us k := by rw [Sn l us 0 k (by omega)]; omega
  have hroom : ∀ m, m < us.length → 0 ≤ Wr l us m ∧ Wr l us m + X9 (linesOf l (us.getD m 0)) ≤ 65536 := fun m hm => by
    have h1 := Tt l us us.length (m + 1) (by omega) (Nat.le_refl _)
    have h2 := Tt l us us.length m (by omega) (Nat.le_refl _)
    have h3 := h.room
    rw [Vr l us m hm] at h1
    omega
  rw [hbk]
  unfold T8 U6
  by_cases ho : Wz y.ref = true
  · rw [if_pos ho] at hgy
    rw [if_pos ho, if_pos ho, hsp]
    obtain ⟨i, h1, h2⟩ := Nj y.ref (X2 (linesOf l (us.getD k 0)) (Wr l us k)) 0 (by rw [W4]; exact hgy)
    rw [h1]
    simp only [Nat.zero_add, Int.toNat_natCast]
    rw [h2, To hr _ _ hgy]
    have := Tr (linesOf l (us.getD k 0)) (Wr l us k) (hroom k hk).1 hgy
    have := hroom k hk
    exact ⟨rfl, by omega, by omega⟩
  · rw [if_neg ho] at hgy
    rw [if_neg ho, if_neg ho]
    obtain ⟨v, hv, hm⟩ := hgy
    obtain ⟨k', hk', e1, e2, e3, e4⟩ := h.holder hr (by simpa using ho) hv hm
    rw [e4, if_neg (by omega), Int.toNat_natCast, Sn l us 0 k' (by omega), e3]
    subst e1
    have hgv := Mw h.chk h.ok (by simpa using ho) e2 us.length hk' (Nat.le_refl _)
    rw [h.gval, hgv]
    have := Tr (linesOf l (us.getD k' 0)) (Wr l us k') (hroom k' hk').1 e2
    have := hroom k' hk'
    simp only [Option.getD_some, Int.zero_add]
    exact ⟨trivial, by omega, by omega⟩
theorem Li {h : List UInt8 → Int × Bool} {pl : List UInt8 → Int} : ∀ (ls : List Ln), (∀ x ∈ ls, W6 x = 0) → (∀ x ∈ ls, x.ref ≠ [] → (h x.ref).1 = pl x.ref ∧ 0 ≤ pl x.ref ∧ pl x.ref ≤ 65536) → ls.flatMap (O1 pl) = Wf (Tl h ls)
  | [], _, _ => rfl
  | x :: ls, hw, hp => by
    have ih := Li ls (fun y hy => hw y (List.mem_cons_of_mem _ hy)) (fun y hy => hp y (List.mem_cons_of_mem _ hy))
    rw [List.flatMap_cons, ih]
    by_cases hl : x.label = []
    · have e : Tl h (x :: ls) = Nm h x :: Tl h ls := by simp [Tl, hl]
      rw [e, Vd]
      congr 1
      obtain ⟨g1, g2⟩ := Jw (h := h) (hw x (List.mem_cons_self ..)) hl (fun hr => by have := hp x (List.mem_cons_self ..) hr; omega)
      have e2 : Pa pl x = Nm h x := by
        unfold Pa Nm
        by_cases hr : x.ref = []
        · rw [if_neg (by simpa using hr), if_neg (by simpa using hr)]
        · obtain ⟨q1, q2, q3⟩ := hp x (List.mem_cons_self ..) hr
          rw [if_pos hr, if_pos hr, q1, Js _ q2 (by omega), Int.tmod_eq_emod_of_nonneg q2]
      unfold O1
      rw [if_neg (by simpa using hl), e2, Kq, if_pos g1]
    · have e : Tl h (x :: ls) = Tl h ls := by simp [Tl, hl]
      rw [e]
      unfold O1
      rw [if_pos hl]; rfl
theorem dW_eq (h : ImgOk l us g) : ∀ (r : List Int) (i : Nat) (acc : List Int), us.drop i = r → lk2 l g r (Wr l us i) acc = acc ++ dW l us (Up l us 0) i r
  | [], i, acc, _ => by simp [lk2, dW]
  | u :: r, i, acc, hd => by
    have hi : i < us.length := by
      rcases Nat.lt_or_ge i us.length with h1 | h1
      · exact h1
      · rw [List.drop_of_length_le h1] at hd; cases hd
    rw [List.drop_eq_getElem_cons hi] at hd
    injection hd with h1 h2
    have hu : us.getD i 0 = u := by rw [List.getD_eq_getElem?_getD, List.getElem?_eq_getElem hi]; exact h1
    obtain ⟨hw, hnd, h0⟩ := h.lines hi
    have hg1 := (h.good i hi).1
    have hend := (Tq hg1).1
    have hpl := fun y hy hr => h.place hi (y := y) hy hr
    rw [hu] at hw hnd h0 hg1 hend hpl
    simp only [lk2, dW]
    rw [hend, show Wr l us i + X9 (linesOf l u) = Wr l us (i + 1) by rw [Vr l us i hi, hu]]
    rw [dW_eq h r (i + 1) _ h2, List.append_assoc]
    congr 2
    rw [Li (h := T8 g (Y1 (linesOf l u) (Wr l us i)).1) (linesOf l u) hw hpl]
    have hres : (W7 (T8 g (Y1 (linesOf l u) (Wr l us i)).1) (linesOf l u)).1 = Tl (T8 g (Y1 (linesOf l u) (Wr l us i)).1) (linesOf l u) := by
      unfold W7
      rw [Sy _ _ _ (fun x _ _ _ => by unfold T8; split <;> rfl)]
      simp
    rw [hres]
    obtain ⟨q1, q2⟩ := M9 (h := T8 g (Y1 (linesOf l u) (Wr l us i)).1) (linesOf l u) hw (fun x hx hr => by
      obtain ⟨a1, a2, a3⟩ := hpl x hx hr
      rw [a1]; omega)
    have hsz : X9 (linesOf l u) ≤ 65536 := by
      have h3 := Tt l us us.length (i + 1) (by omega) (Nat.le_refl _)
      have h4 := Tt l us us.length i (by omega) (Nat.le_refl _)
      have h5 := h.room
      rw [Vr l us i hi, hu] at h3
      omega
    rw [Q7 q1 (by omega)]
theorem Oj {pl : List UInt8 → Int} (a : Int) (ls0 : List Ln) : ∀ (ls : List Ln) (b : Int), (Xz ls).Nodup → (∀ y ∈ ls, y.label ≠ [] → Wz y.label = false → pl y.label = Wp ls y.label b) → ls.flatMap (Lp pl) = T4 (X2 ls b)
  | [], b, _, _ => rfl
  | x :: ls, b, hnd, hp => by
    rw [List.flatMap_cons]
    by_cases hl : x.label = []
    · rw [U7 hl] at hnd
      have e1 : Lp pl x = [] := by unfold Lp; rw [if_neg (fun h => h.1 hl)]
      have e2 : X2 (x :: ls) b = X2 ls (b + Wu x) := by
        conv => lhs; unfold X2
        rw [if_neg (by simpa using hl)]
      rw [e1, e2, List.nil_append]
      refine Oj a ls0 ls _ hnd fun y hy h1 h2 => ?_
      rw [hp y (List.mem_cons_of_mem _ hy) h1 h2]
      conv => lhs; unfold Wp
      rw [if_neg (by rw [hl]; exact fun e => h1 e.symm)]
    · rw [Vw hl] at hnd
      simp only [List.nodup_cons] at hnd
      have e2 : X2 (x :: ls) b = ⟨x.label, b⟩ :: X2 ls b := by
        conv => lhs; unfold X2
        rw [if_pos hl]
      rw [e2]
      have ih := Oj (pl := pl) a ls0 ls b hnd.2 fun y hy h1 h2 => by
        rw [hp y (List.mem_cons_of_mem _ hy) h1 h2]
        conv => lhs; unfold Wp
        rw [if_neg (fun e => hnd.1 (by rw [e]; exact List.mem_map.2 ⟨y, List.mem_filter.2 ⟨hy, by simpa using h1⟩, rfl⟩)), V3 hl, Int.add_zero]
      rw [ih]
      unfold Lp T4
      cases ho : Wz x.label with
      | true => rw [if_neg (fun h => by cases h.2)]; simp [ho]
      | false =>
        rw [if_pos ⟨hl, rfl⟩, hp x (List.mem_cons_self ..) hl ho]
        have : Wp (x :: ls) x.label b = b := by unfold Wp; rw [if_pos rfl]
        rw [this]; simp [ho]
theorem dS_eq (h : ImgOk l us g) : ∀ (r : List Int) (i : Nat), i ≤ us.length → us.drop i = r → spS l us i ++ dS l us (Up l us 0) i r = spS l us us.length
  | [], i, hle, hd => by
    have hi : us.length ≤ i := by
      rcases Nat.lt_or_ge i us.length with h1 | h1
      · rw [List.drop_eq_getElem_cons h1] at hd; cases hd
      · exact h1
    have : i = us.length := by omega
    subst this
    simp [dS]
  | u :: r, i, hle, hd => by
    have hi : i < us.length := by
      rcases Nat.lt_or_ge i us.length with h1 | h1
      · exact h1
      · rw [List.drop_of_length_le h1] at hd; cases hd
    rw [List.drop_eq_getElem_cons hi] at hd
    injection hd with h1 h2
    have hu : us.getD i 0 = u := by rw [List.getD_eq_getElem?_getD, List.getElem?_eq_getElem hi]; exact h1
    have ih := dS_eq h r (i + 1) hi h2
    obtain ⟨hw, hnd, h0⟩ := h.lines hi
    rw [← ih]
    simp only [dS]
    show _ = (spS l us i ++ T4 (X2 (linesOf l (us.getD i 0)) (Wr l us i))) ++ _
    rw [List.append_assoc]
    congr 2
    rw [hu] at hnd ⊢
    have hbk : (Up l us 0).getD i 0 = Wr l us i := by rw [Sn l us 0 i (by omega)]; omega
    refine Oj 0 [] (linesOf l u) (Wr l us i) hnd fun y hy hl ho => ?_
    have hyl : y.label ∈ Xz (linesOf l u) := List.mem_map.2 ⟨y, List.mem_filter.2 ⟨hy, by simpa using hl⟩, rfl⟩
    have hr := h.ok.2 (us.getD i 0) (by simp [List.getD, hi])
    rw [hu] at hr
    have hv : (Yn l).1 y.label = some u := (Ty h.chk _ _).2 ⟨ho, u.toNat, by omega, by omega, hyl⟩
    obtain ⟨k, hk, e1, _, e3, e4⟩ := h.holder hl ho hv (by rw [← hu]; simp [List.getD, hi])
    have hki : k = i := Qu h.ok.1 hk hi (e1.trans hu.symm)
    subst hki
    unfold U6
    rw [if_neg (by simp [ho]), e4, if_neg (by omega), Int.toNat_natCast, Sn l us 0 k (by omega), e3, Int.zero_add]
end
end Go.Proofs.Ytibkcfpcfbodaaa
