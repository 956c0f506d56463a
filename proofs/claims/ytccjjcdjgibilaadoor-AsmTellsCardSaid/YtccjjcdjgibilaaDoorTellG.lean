/-
  A plain law: asm.Assemble's way and the reference's come to the same words and the same faults. No program in sight; no conditions.
-/
import Derived.Test.YtccjjcdjgibilaaDoorAsmP
namespace Go.Proofs.YtccjjcdjgibilaaDoor
open Go.RowKit Vc
set_option linter.unusedVariables false
set_option linter.unusedSimpArgs false
theorem Pg (a b : List Ins) : Wc (a ++ b) = Wc a ++ Wc b := by simp [Wc]
theorem Q7 {x : Ins} (h : X2 x = 0) : (encS [x]).1 = Wv x := by rw [Ny, if_pos h]
def KnOk (h : List UInt8 → Int × Bool) (L : List Ln) : Prop :=
  ∀ s, s ≠ [] → (h s = (whereL L s 0, true) ∧ 0 ≤ whereL L s 0 ∧ whereL L s 0 ≤ 1000000) ∨ (h s = (0, false) ∧ whereL L s 0 = -1)
theorem Pv {h : List UInt8 → Int × Bool} {L : List Ln} (hk : KnOk h L) : ∀ (m : List Ln) (k : Nat) (acc : List Ins), (∀ x ∈ m, Wt x = 0) →
    U7 L m k (Wc acc) = if (Wn h m k acc).2.1 = 0 then (Wc (Wn h m k acc).1, 0, 0) else ([], (Wn h m k acc).2)
  | [], k, acc, hw => by simp [U7, Wn]
  | x :: m, k, acc, hw => by
    have ih := fun acc => Pv hk m (k + 1) acc fun y hy => hw y (List.mem_cons_of_mem _ hy)
    have hwx := hw x (List.mem_cons_self ..)
    unfold U7 Wn
    by_cases hl : x.label ≠ []
    · rw [if_pos hl, if_pos hl]; exact ih acc
    · have hl' : x.label = [] := by simpa using hl
      rw [if_neg hl, if_neg hl]
      have hwi := (Tl hwx hl').1
      by_cases hr : x.ref ≠ []
      · rw [if_pos hr, if_pos hr]
        rcases hk x.ref hr with ⟨e, h0, h1⟩ | ⟨e, hneg⟩
        · rw [if_neg (show ¬ whereL L x.ref 0 < 0 by omega), if_neg (show ¬ (h x.ref).2 = false by rw [e]; simp), show (h x.ref).1 = whereL L x.ref 0 by rw [e]]
          have hin : Ps .i64 (whereL L x.ref 0) 65535 = (whereL L x.ref 0).tmod 65536 := by
            rw [Lq _ h0 (by omega), Int.tmod_eq_emod_of_nonneg h0]
          rw [hin]
          have hwr : X2 ⟨x.ins.op, x.ins.d, x.ins.s, (whereL L x.ref 0).tmod 65536⟩ = 0 := by
            rw [Int.tmod_eq_emod_of_nonneg h0]
            exact Pq hwi (by omega) (by omega)
          rw [Q7 hwr, ← ih, Pg]
          simp [Wc]
        · rw [if_pos (show whereL L x.ref 0 < 0 by omega), if_pos (show (h x.ref).2 = false by rw [e])]
          simp
      · rw [if_neg hr, if_neg hr, Q7 hwi, ← ih, Pg]
        simp [Wc]
theorem asm_ref (l : List Ln) : asmS l = Sg l := by
  unfold asmS Sg
  by_cases hlen : 40000 < l.length
  · rw [if_pos hlen, if_pos hlen]
  rw [if_neg hlen, if_neg hlen]
  by_cases he : (spotsS l 0).2.2.1 ≠ 0
  · rw [if_pos he, if_pos he]
  rw [if_neg he, if_neg he]
  have he' : (spotsS l 0).2.2.1 = 0 := by simpa using he
  have hw0 : ∀ x ∈ l, Wt x = 0 := Uz l 0 0 [] [] he'
  obtain ⟨hsp, hnd⟩ := M3 he'
  have hend := (L8 he').1
  have hmax := (Md l 0 (by omega) (by omega)).2.2.2
  have hsz : Tg l ≤ 65536 := by rw [hend] at hmax; omega
  have hk : KnOk (knA (Si (spotsS l 0).1 Qb)) l := by
    intro s hs
    rw [hsp]
    unfold knA
    rw [Og _ _ _ (by rw [U3]; exact hnd), U3]
    by_cases hm : s ∈ Ws l
    · left
      rw [if_pos hm, Qj hs l 0 hm]
      have := Rd l 0 (by omega) hm
      exact ⟨rfl, this.1, by omega⟩
    · right
      rw [if_neg hm]
      exact ⟨rfl, R8 hs l 0 hm⟩
  generalize knA (Si (spotsS l 0).1 Qb) = h at hk
  have := Pv hk l 0 [] hw0
  have e0 : Wc [] = [] := rfl
  rw [e0] at this
  rw [this]
  show (if (Wn h l 0 []).2.1 ≠ 0 then ([], (Wn h l 0 []).2) else encS (Wn h l 0 []).1) = _
  by_cases hz : (Wn h l 0 []).2.1 = 0
  · rw [if_neg (by simpa using hz), if_pos hz]
    have hall : ∀ x ∈ l, x.label = [] → x.ref ≠ [] → (h x.ref).2 = true := by
      have key : ∀ (m : List Ln) (k : Nat) (acc : List Ins), (Wn h m k acc).2.1 = 0 → ∀ x ∈ m, x.label = [] → x.ref ≠ [] → (h x.ref).2 = true := by
        intro m
        induction m with
        | nil => intro k acc _ x hx; cases hx
        | cons y m ih =>
          intro k acc hz x hx hxl hxr
          unfold Wn at hz
          by_cases hl : y.label ≠ []
          · rw [if_pos hl] at hz
            rcases List.mem_cons.1 hx with rfl | hx
            · exact absurd hxl hl
            · exact ih _ _ hz x hx hxl hxr
          · rw [if_neg hl] at hz
            by_cases hr : y.ref ≠ []
            · rw [if_pos hr] at hz
              by_cases hf : (h y.ref).2 = false
              · rw [if_pos hf] at hz; simp at hz
              · rw [if_neg hf] at hz
                rcases List.mem_cons.1 hx with rfl | hx
                · simpa using hf
                · exact ih _ _ hz x hx hxl hxr
            · rw [if_neg hr] at hz
              rcases List.mem_cons.1 hx with rfl | hx
              · exact absurd hxr (by simpa using hr)
              · exact ih _ _ hz x hx hxl hxr
      exact key l 0 [] hz
    have hres := Qs (h := h) l 0 [] hall
    rw [hres, List.nil_append]
    have hrng : ∀ x ∈ l, x.ref ≠ [] → 0 ≤ (h x.ref).1 ∧ (h x.ref).1 ≤ 1000000 := by
      intro x hx hr
      rcases hk x.ref hr with ⟨e, h0, h1⟩ | ⟨e, _⟩
      · rw [e]; exact ⟨h0, h1⟩
      · rw [e]; simp
    obtain ⟨g1, g2⟩ := Li (h := h) l hw0 hrng
    have g3 : (Wc (Rm h l)).length ≤ 65536 := by omega
    exact Nf g1 g3
  · rw [if_pos hz, if_neg hz]
theorem Kq (l : List Ln) : (asmS l).1.length ≤ 65536 := by
  unfold asmS
  split
  · simp
  · split
    · simp
    · split
      · simp
      · exact Jj _
end Go.Proofs.YtccjjcdjgibilaaDoor
