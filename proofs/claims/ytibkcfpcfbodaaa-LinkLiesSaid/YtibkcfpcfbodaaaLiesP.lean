/-
  Plain law of LinkLies: words are those of the lines' instructions, and who speaks of a label has its place.
-/
import Derived.Test.YtibkcfpcfbodaaaMakeQ
namespace Go.Proofs.Ytibkcfpcfbodaaa
open Go.RowKit Vc
set_option linter.unusedVariables false
set_option linter.unusedSimpArgs false
def iL (pl : List UInt8 → Int) (ls : List Ln) : List Ins := (ls.filter fun x => decide (x.label = [])).map (Pa pl)
def dI (l : X3) (us bs : List Int) : Nat → List Int → List Ins
  | _, [] => []
  | i, u :: r => iL (fun s => U6 l us bs s u (bs.getD i 0)) (linesOf l u) ++ dI l us bs (i + 1) r
def Pl (g : Own) (wh : List UInt8 → Int) (I : List Ins) : List Ln → Nat → Int → Option (Nat × Int)
  | [], k, at_ => some (k, at_)
  | y :: ls, k, at_ =>
    if y.label ≠ [] then (if Wz y.label = false ∧ g y.label ≠ some at_ then none else Pl g wh I ls k at_)
    else if I.length ≤ k then none
    else if (I.getD k Sa).op ≠ y.ins.op then none
    else if y.ref = [] then Pl g wh I ls (k + 1) (at_ + Wu y)
    else if Wz y.ref = true then (if (I.getD k Sa).imm ≠ (wh y.ref).tmod 65536 then none else Pl g wh I ls (k + 1) (at_ + Wu y))
    else match g y.ref with
      | none => none
      | some p => if (I.getD k Sa).imm ≠ Int.tmod p 65536 then none else Pl g wh I ls (k + 1) (at_ + Wu y)
def Ks (l : X3) (g : Own) (I : List Ins) : List Int → Nat → Int → Option (Nat × Int)
  | [], k, at_ => some (k, at_)
  | u :: us, k, at_ => match Pl g (fun s => Wp (linesOf l u) s at_) I (linesOf l u) k at_ with
    | none => none
    | some (k', a') => Ks l g I us k' a'
theorem Qs {s : List UInt8} (hs : s ≠ []) : ∀ (P ls : List Ln) (a : Int), s ∉ Xz P → Wp (P ++ ls) s a = Wp ls s (a + X9 P)
  | [], ls, a, _ => by simp [X9]
  | x :: P, ls, a, h => by
    rw [List.cons_append]
    conv => lhs; unfold Wp
    by_cases hl : x.label = []
    · rw [if_neg (by rw [hl]; exact fun e => hs e.symm), Qs hs P ls _ (by rwa [U7 hl] at h)]
      simp only [X9, Int.add_assoc]
    · rw [Vw hl] at h
      simp only [List.mem_cons, not_or] at h
      rw [if_neg (fun e => h.1 e.symm), Qs hs P ls _ h.2]
      simp only [X9, Int.add_assoc]
theorem P4 (P ls : List Ln) : Xz (P ++ ls) = Xz P ++ Xz ls := by simp [Xz]
theorem N2 : ∀ (P ls : List Ln), X9 (P ++ ls) = X9 P + X9 ls
  | [], ls => by simp [X9]
  | x :: P, ls => by rw [List.cons_append]; simp only [X9, N2 P ls, Int.add_assoc]
section
variable {l : X3} {us : List Int} {g : Own}
theorem ImgOk.glob (h : ImgOk l us g) {k : Nat} (hk : k < us.length) {y : Ln} (hy : y ∈ linesOf l (us.getD k 0)) (hr : y.ref ≠ []) (ho : Wz y.ref = false) : g y.ref = some (U6 l us (Up l us 0) y.ref (us.getD k 0) ((Up l us 0).getD k 0)) := by
  have hgy := (h.good k hk).2 y hy hr
  rw [if_neg (by rw [ho]; decide)] at hgy
  obtain ⟨v, hv, hm⟩ := hgy
  obtain ⟨k', hk', e1, e2, e3, e4⟩ := h.holder hr ho hv hm
  unfold U6
  rw [if_neg (by rw [ho]; decide), e4, if_neg (by omega), Int.toNat_natCast, Sn l us 0 k' (by omega), e3, Int.zero_add]
  subst e1
  rw [h.gval]
  exact Mw h.chk h.ok ho e2 us.length hk' (Nat.le_refl _)
theorem ImgOk.lab (h : ImgOk l us g) {k : Nat} (hk : k < us.length) {P ls : List Ln} {y : Ln} (e : linesOf l (us.getD k 0) = P ++ y :: ls) (hl : y.label ≠ []) (ho : Wz y.label = false) : g y.label = some (Wr l us k + X9 P) := by
  obtain ⟨_, hnd, _⟩ := h.lines hk
  have hm : y.label ∈ Xz (linesOf l (us.getD k 0)) := by rw [e, P4, Vw hl]; simp
  rw [h.gval, Mw h.chk h.ok ho hm us.length hk (Nat.le_refl _)]
  rw [e, P4, Vw hl] at hnd
  have hno : y.label ∉ Xz P := fun hp => (List.nodup_append.1 hnd).2.2 _ hp _ (List.mem_cons_self ..) rfl
  rw [e, Qs hl _ _ _ hno]
  unfold Wp
  rw [if_pos rfl]
theorem Om {pl : List UInt8 → Int} {y : Ln} (hw : W6 y = 0) (hl : y.label = []) (hp : y.ref ≠ [] → 0 ≤ pl y.ref) : X5 (Pa pl y) = 0 ∧ ((W2 (Pa pl y)).length : Int) = Wu y ∧ (Ws (Pa pl y)).op = y.ins.op ∧ (y.ref ≠ [] → (Ws (Pa pl y)).imm = (pl y.ref).tmod 65536) := by
  obtain ⟨h1, h2⟩ := U2 hw hl
  have hlen : ∀ x : Ins, x.op = y.ins.op → ((W2 x).length : Int) = Wu y := fun x hx => by
    have e : Wu y = if hasI y.ins.op = true then 2 else 1 := by unfold Wu; rw [if_neg (by simpa using hl)]
    rw [e]
    unfold W2
    rw [hx]
    split <;> simp
  unfold Pa
  by_cases hr : y.ref = []
  · rw [if_neg (by simpa using hr)]
    exact ⟨h1, hlen _ rfl, rfl, fun h => absurd hr h⟩
  · rw [if_pos hr]
    obtain ⟨_, g2, _⟩ := h2 hr
    have hI : hasI y.ins.op = true := by
      unfold Sx at g2; simp only [Bool.and_eq_true] at g2; exact g2.1
    have h0 := hp hr
    have hm : 0 ≤ (pl y.ref).tmod 65536 ∧ (pl y.ref).tmod 65536 ≤ 65535 := by
      rw [Int.tmod_eq_emod_of_nonneg h0]; omega
    exact ⟨Oo h1 hm.1 hm.2, hlen _ rfl, rfl, fun _ => O5 (x := ⟨y.ins.op, y.ins.d, y.ins.s, (pl y.ref).tmod 65536⟩) hI⟩
theorem Pr (I : List Ins) (wh pl : List UInt8 → Int) (a0 : Int) : ∀ (ls P : List Ln) (A B : List Ins), (∀ y ∈ ls, W6 y = 0) → (∀ y ∈ ls, y.ref ≠ [] → 0 ≤ pl y.ref ∧ (Wz y.ref = true → wh y.ref = pl y.ref) ∧ (Wz y.ref = false → g y.ref = some (pl y.ref))) →
    (∀ P1 y P2, ls = P1 ++ y :: P2 → y.label ≠ [] → Wz y.label = false → g y.label = some (a0 + X9 (P ++ P1))) → I = A ++ ((iL pl ls).map Ws ++ B) →
    Pl g wh I ls A.length (a0 + X9 P) = some (A.length + (iL pl ls).length, a0 + X9 P + X9 ls)
  | [], P, A, B, _, _, _, _ => by simp [Pl, iL, X9]
  | y :: ls, P, A, B, hw, hp, hlab, hI => by
    have hwy := hw y (List.mem_cons_self ..)
    have hpy := hp y (List.mem_cons_self ..)
    have hsz : a0 + X9 P + Wu y = a0 + X9 (P ++ [y]) := by rw [N2]; simp only [X9, Int.add_assoc, Int.add_zero]
    have hlab' : ∀ P1 z P2, ls = P1 ++ z :: P2 → z.label ≠ [] → Wz z.label = false → g z.label = some (a0 + X9 ((P ++ [y]) ++ P1)) := fun P1 z P2 e h1 h2 => by
      have := hlab (y :: P1) z P2 (by rw [e]; rfl) h1 h2
      rw [this, List.append_assoc]; rfl
    have hw' : ∀ z ∈ ls, W6 z = 0 := fun z hz => hw z (List.mem_cons_of_mem _ hz)
    have hp' := fun z hz => hp z (List.mem_cons_of_mem _ hz)
    unfold Pl
    by_cases hl : y.label = []
    · rw [if_neg (by simpa using hl)]
      have e : iL pl (y :: ls) = Pa pl y :: iL pl ls := by simp [iL, hl]
      rw [e] at hI ⊢
      obtain ⟨r1, r2, r3, r4⟩ := Om hwy hl (fun hr => (hpy hr).1)
      have hlen : A.length < I.length := by rw [hI]; simp
      have hget : I.getD A.length Sa = Ws (Pa pl y) := by rw [hI]; simp [List.getD]
      have ih := Pr I wh pl a0 ls (P ++ [y]) (A ++ [Ws (Pa pl y)]) B hw' hp' hlab' (by rw [hI]; simp)
      rw [← hsz] at ih
      simp only [List.length_append, List.length_cons, List.length_nil, Nat.zero_add] at ih
      have fin : Pl g wh I ls (A.length + 1) (a0 + X9 P + Wu y) = some (A.length + (Pa pl y :: iL pl ls).length, a0 + X9 P + X9 (y :: ls)) := by
        rw [ih]
        simp only [List.length_cons, X9]
        congr 2
        · omega
        · omega
      rw [if_neg (by omega), hget, if_neg (by rw [r3]; simp)]
      by_cases hr : y.ref = []
      · rw [if_pos hr]; exact fin
      · rw [if_neg hr]
        obtain ⟨q1, q2, q3⟩ := hpy hr
        by_cases ho : Wz y.ref = true
        · rw [if_pos ho, if_neg (by rw [r4 hr, q2 ho]; simp)]; exact fin
        · rw [if_neg ho, q3 (by simpa using ho)]
          simp only
          rw [if_neg (by rw [r4 hr]; simp)]; exact fin
    · rw [if_pos hl]
      have e : iL pl (y :: ls) = iL pl ls := by simp [iL, hl]
      rw [e] at hI ⊢
      have hl0 := V3 hl
      have ih := Pr I wh pl a0 ls (P ++ [y]) A B hw' hp' hlab' hI
      rw [← hsz, hl0, Int.add_zero] at ih
      rw [if_neg (fun h => h.2 (by have := hlab [] y ls rfl hl h.1; rw [List.append_nil] at this; exact this)), ih]
      simp only [X9, hl0]
      congr 2
      omega
theorem Kj (h : ImgOk l us g) : ∀ (r : List Int) (i : Nat), i ≤ us.length → us.drop i = r → (∀ x ∈ dI l us (Up l us 0) i r, X5 x = 0) ∧ dW l us (Up l us 0) i r = Wf (dI l us (Up l us 0) i r) ∧ ((Wf (dI l us (Up l us 0) i r)).length : Int) = Wr l us us.length - Wr l us i
  | [], i, hle, hd => by
    have : i = us.length := by
      rcases Nat.lt_or_ge i us.length with h1 | h1
      · rw [List.drop_eq_getElem_cons h1] at hd; cases hd
      · omega
    subst this
    simp [dI, dW, Wf]
  | u :: r, i, hle, hd => by
    have hi : i < us.length := by
      rcases Nat.lt_or_ge i us.length with h1 | h1
      · exact h1
      · rw [List.drop_of_length_le h1] at hd; cases hd
    rw [List.drop_eq_getElem_cons hi] at hd
    injection hd with h1 h2
    have hu : us.getD i 0 = u := by rw [List.getD_eq_getElem?_getD, List.getElem?_eq_getElem hi]; exact h1
    obtain ⟨g1, g2, g3⟩ := Kj h r (i + 1) hi h2
    obtain ⟨hw, _, _⟩ := h.lines hi
    have hpl := fun y hy hr => (h.place hi (y := y) hy hr).2
    rw [hu] at hw hpl
    simp only [dI, dW]
    generalize hplq : (fun s => U6 l us (Up l us 0) s u ((Up l us 0).getD i 0)) = pl
    have hpe : ∀ s, U6 l us (Up l us 0) s u ((Up l us 0).getD i 0) = pl s := congrFun hplq
    have key : ∀ (ls : List Ln), (∀ y ∈ ls, W6 y = 0) → (∀ y ∈ ls, y.ref ≠ [] → 0 ≤ pl y.ref) → (∀ x ∈ iL pl ls, X5 x = 0) ∧ ls.flatMap (O1 pl) = Wf (iL pl ls) ∧ ((Wf (iL pl ls)).length : Int) = X9 ls := by
      intro ls
      induction ls with
      | nil => intro _ _; simp [iL, Wf, X9]
      | cons y ls ih =>
        intro hw hp
        obtain ⟨i1, i2, i3⟩ := ih (fun z hz => hw z (List.mem_cons_of_mem _ hz)) (fun z hz => hp z (List.mem_cons_of_mem _ hz))
        by_cases hl : y.label = []
        · have e : iL pl (y :: ls) = Pa pl y :: iL pl ls := by simp [iL, hl]
          obtain ⟨r1, r2, _, _⟩ := Om (hw y (List.mem_cons_self ..)) hl (hp y (List.mem_cons_self ..))
          rw [e]
          refine ⟨fun x hx => ?_, ?_, ?_⟩
          · rcases List.mem_cons.1 hx with rfl | hx
            · exact r1
            · exact i1 x hx
          · rw [List.flatMap_cons, i2, Vd]
            congr 1
            unfold O1
            rw [if_neg (by simpa using hl), Kq, if_pos r1]
          · rw [Vd, List.length_append]; simp only [X9]; omega
        · have e : iL pl (y :: ls) = iL pl ls := by simp [iL, hl]
          rw [e]
          refine ⟨i1, ?_, ?_⟩
          · rw [List.flatMap_cons, i2]
            unfold O1
            rw [if_pos hl]; rfl
          · simp only [X9, V3 hl]; omega
    obtain ⟨k1, k2, k3⟩ := key (linesOf l u) hw (fun y hy hr => by rw [← hpe]; exact (hpl y hy hr).1)
    have hwa : ∀ a b : List Ins, Wf (a ++ b) = Wf a ++ Wf b := fun a b => by simp [Wf]
    refine ⟨fun x hx => ?_, ?_, ?_⟩
    · rcases List.mem_append.1 hx with h3 | h3
      · exact k1 x h3
      · exact g1 x h3
    · rw [k2, g2, hwa]
    · rw [hwa, List.length_append]
      have := Vr l us i hi
      rw [hu] at this
      omega
theorem Mb (h : ImgOk l us g) (I : List Ins) : ∀ (r : List Int) (i : Nat) (A : List Ins), i ≤ us.length → us.drop i = r → I = A ++ (dI l us (Up l us 0) i r).map Ws → Ks l g I r A.length (Wr l us i) = some (I.length, Wr l us us.length)
  | [], i, A, hle, hd, hI => by
    have : i = us.length := by
      rcases Nat.lt_or_ge i us.length with h1 | h1
      · rw [List.drop_eq_getElem_cons h1] at hd; cases hd
      · omega
    subst this
    simp only [dI, List.map_nil, List.append_nil] at hI
    subst hI; rfl
  | u :: r, i, A, hle, hd, hI => by
    have hi : i < us.length := by
      rcases Nat.lt_or_ge i us.length with h1 | h1
      · exact h1
      · rw [List.drop_of_length_le h1] at hd; cases hd
    rw [List.drop_eq_getElem_cons hi] at hd
    injection hd with h1 h2
    have hu : us.getD i 0 = u := by rw [List.getD_eq_getElem?_getD, List.getElem?_eq_getElem hi]; exact h1
    obtain ⟨hw, _, _⟩ := h.lines hi
    have hpl := fun y hy hr => (h.place hi (y := y) hy hr).2
    have hgl := fun y hy hr ho => h.glob hi (y := y) hy hr ho
    have hlb := fun P ls y e hl ho => h.lab hi (P := P) (ls := ls) (y := y) e hl ho
    have hbk : (Up l us 0).getD i 0 = Wr l us i := by rw [Sn l us 0 i (by omega)]; omega
    rw [hu] at hw hpl hgl hlb
    simp only [dI, List.map_append] at hI
    rw [hbk] at hI hpl hgl
    simp only [Ks]
    have := Pr (g := g) I (fun s => Wp (linesOf l u) s (Wr l us i)) (fun s => U6 l us (Up l us 0) s u (Wr l us i)) (Wr l us i) (linesOf l u) [] A ((dI l us (Up l us 0) (i + 1) r).map Ws) hw
      (fun y hy hr => ⟨(hpl y hy hr).1, fun ho => by unfold U6; rw [if_pos ho], fun ho => hgl y hy hr ho⟩) (fun P1 y P2 e hl ho => by rw [List.nil_append]; exact hlb P1 P2 y e hl ho) hI
    simp only [X9, Int.add_zero] at this
    rw [this]
    simp only
    have ih := Mb h I r (i + 1) (A ++ (iL (fun s => U6 l us (Up l us 0) s u (Wr l us i)) (linesOf l u)).map Ws) hi h2 (by rw [hI, List.append_assoc])
    rw [List.length_append, List.length_map, Vr l us i hi, hu] at ih
    exact ih
end
theorem Ou : ∀ (sp : List Spot) (g : Own), Sc sp g = Uu (T4 sp) g
  | [], g => rfl
  | s :: sp, g => by
    unfold Sc T4
    by_cases ho : Wz s.name = true
    · rw [if_pos ho, Ou sp g, List.filter_cons_of_neg (by simp [ho])]; rfl
    · rw [if_neg ho, Ou sp _, List.filter_cons_of_pos (by simpa using ho)]; rfl
theorem Lm : ∀ (a b : List Spot) (g : Own), Uu (a ++ b) g = Uu b (Uu a g)
  | [], b, g => rfl
  | s :: a, b, g => Lm a b _
theorem L5 (l : X3) (us : List Int) : ∀ n, Uu (spS l us n) Wk = gS l us n
  | 0 => rfl
  | n + 1 => by
    show Uu (spS l us n ++ T4 _) Wk = Sc _ (gS l us n)
    rw [Lm, L5 l us n, Ou]
theorem Iq {l : X3} {entry : List UInt8} (hz : (Wt l entry).2.1 = 0) : ∃ I, Oe (Wt l entry).1.1 = (I, 0, 0) ∧ Ks l (Uu (Wt l entry).1.2.2 Wk) I (Wt l entry).1.2.1 0 0 = some (I.length, ((Wt l entry).1.1.length : Int)) := by
  obtain ⟨hc, first, hf, hz1, e⟩ := T2 hz
  obtain ⟨hl, hu, ho⟩ := W8 hc
  have hus0 : Qf l.length [first] := ⟨by simp, fun v hv => by
    simp only [List.mem_singleton] at hv; subst hv; exact ho _ _ hf⟩
  obtain ⟨_, h3⟩ := Ku hc 402 0 [first] 0 Wk [] hus0 (by simp) (by simp [Wr]) (by omega) rfl rfl
  have hgood := R5 (l := l) (own := (Yn l).1) 402 0 [first] 0 Wk [] hz1 (by simp) (by simp [Wr]) (fun k hk => by omega)
  have hus := Oi (l := l) (own := (Yn l).1) hu ho 402 0 [first] 0 Wk [] hz1 hus0
  rw [e]
  simp only
  generalize lk1 l (Yn l).1 402 0 [first] 0 Wk [] = L at *
  obtain ⟨a1, a2, a3⟩ := h3 hz1
  have hI : ImgOk l L.1.1 L.1.2.1 := ⟨hc, hus, hgood.1, a1, a3⟩
  have e1 := dW_eq hI L.1.1 0 [] rfl
  have e0 : Wr l L.1.1 0 = 0 := by cases L.1.1 <;> rfl
  rw [e0, List.nil_append] at e1
  obtain ⟨r1, r2, r3⟩ := Kj hI L.1.1 0 (Nat.zero_le _) rfl
  rw [e0] at r3
  have hel : (Wf (dI l L.1.1 (Up l L.1.1 0) 0 L.1.1)).length ≤ 65536 := by omega
  have henc := Q7 r1 hel
  have hdec := dec_enc (l := dI l L.1.1 (Up l L.1.1 0) 0 L.1.1) (by rw [henc])
  rw [henc] at hdec
  rw [e1, r2, a2, L5]
  refine ⟨_, hdec, ?_⟩
  have := Mb hI ((dI l L.1.1 (Up l L.1.1 0) 0 L.1.1).map Ws) L.1.1 0 [] (Nat.zero_le _) rfl rfl
  rw [e0, a1] at this
  simp only [List.length_nil] at this
  rw [this]
  congr 2
  omega
end Go.Proofs.Ytibkcfpcfbodaaa
