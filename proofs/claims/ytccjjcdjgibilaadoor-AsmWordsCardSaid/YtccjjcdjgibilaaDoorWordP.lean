/-
  Plain laws: what is assembled is, decoded, the lines' instructions; labels are the places behind which they lie. No program in sight; no conditions.
-/
import Derived.Test.YtccjjcdjgibilaaDoorAsmP
namespace Go.Proofs.YtccjjcdjgibilaaDoor
open Go.RowKit Vc
set_option linter.unusedVariables false
set_option linter.unusedSimpArgs false
structure AsmOk (l : List Ln) (h : List UInt8 → Int × Bool) : Prop where
  many : l.length ≤ 40000
  right : ∀ x ∈ l, Vm x = 0
  once : (Wb l).Nodup
  words : asmS l = (wordsL (Um h l), 0, 0)
  good : ∀ x ∈ Um h l, X9 x = 0
  size : ((wordsL (Um h l)).length : Int) = Ud l
  small : Ud l ≤ 65536
  kn : ∀ s, s ≠ [] → (s ∈ Wb l ∧ h s = (whereL l s 0, true)) ∨ (s ∉ Wb l ∧ h s = (0, false))
  refs : ∀ x ∈ l, x.label = [] → x.ref ≠ [] → x.ref ∈ Wb l
theorem Nh {h : List UInt8 → Int × Bool} : ∀ (m : List Ln) (k : Nat) (acc : List Ins), (Vd h m k acc).2.1 = 0 → ∀ x ∈ m, x.label = [] → x.ref ≠ [] → (h x.ref).2 = true := by
  intro m
  induction m with
  | nil => intro k acc _ x hx; cases hx
  | cons y m ih =>
    intro k acc hz x hx hxl hxr
    unfold Vd at hz
    by_cases hl : y.label ≠ []
    · rw [if_pos hl] at hz
      rcases List.mem_cons.1 hx with rfl | hx
      · exact absurd hxl hl
      · exact ih _ _ hz x hx hxl hxr
    · rw [if_neg hl] at hz
      by_cases hr : y.ref ≠ []
      · rw [if_pos hr] at hz
        by_cases hf : (h y.ref).2 = false
        · rw [if_pos hf] at hz; simp at hz
        · rw [if_neg hf] at hz
          rcases List.mem_cons.1 hx with rfl | hx
          · simpa using hf
          · exact ih _ _ hz x hx hxl hxr
      · rw [if_neg hr] at hz
        rcases List.mem_cons.1 hx with rfl | hx
        · exact absurd hxr (by simpa using hr)
        · exact ih _ _ hz x hx hxl hxr
theorem asm_ok {l : List Ln} (h : (asmS l).2.1 = 0) : ∃ g, AsmOk l g := by
  have hdef : asmS l = if 40000 < l.length then ([], 5, 0) else if (Wo l 0).2.2.1 ≠ 0 then ([], (Wo l 0).2.2) else
      if (Vd (knA (T8 (Wo l 0).1 Si)) l 0 []).2.1 ≠ 0 then ([], (Vd (knA (T8 (Wo l 0).1 Si)) l 0 []).2) else U6 (Vd (knA (T8 (Wo l 0).1 Si)) l 0 []).1 := rfl
  by_cases hlen : 40000 < l.length
  · rw [hdef, if_pos hlen] at h; cases h
  by_cases he : (Wo l 0).2.2.1 ≠ 0
  · rw [hdef, if_neg hlen, if_pos he] at h; exact absurd h he
  rw [if_neg hlen, if_neg he] at hdef
  have he' : (Wo l 0).2.2.1 = 0 := by simpa using he
  have hw0 : ∀ x ∈ l, Vm x = 0 := Tx l 0 0 [] [] he'
  obtain ⟨hsp, hnd⟩ := Jj he'
  have hend := (Ib he').1
  have hmax := (Kj l 0 (by omega) (by omega)).2.2.2
  have hsz : Ud l ≤ 65536 := by rw [hend] at hmax; omega
  have hk : ∀ s, s ≠ [] → (s ∈ Wb l ∧ knA (T8 (Wo l 0).1 Si) s = (whereL l s 0, true)) ∨ (s ∉ Wb l ∧ knA (T8 (Wo l 0).1 Si) s = (0, false)) := by
    intro s hs
    rw [hsp]
    unfold knA
    rw [N9 _ _ _ (by rw [Tm]; exact hnd), Tm]
    by_cases hm : s ∈ Wb l
    · left
      rw [if_pos hm, Q5 hs l 0 hm]
      exact ⟨hm, rfl⟩
    · right
      rw [if_neg hm]
      exact ⟨hm, rfl⟩
  generalize knA (T8 (Wo l 0).1 Si) = g at hk hdef
  refine ⟨g, ?_⟩
  by_cases hz : (Vd g l 0 []).2.1 = 0
  · rw [if_neg (by simpa using hz)] at hdef
    have hall := Nh l 0 [] hz
    rw [Pu l 0 [] hall, List.nil_append] at hdef
    have hrng : ∀ x ∈ l, x.ref ≠ [] → 0 ≤ (g x.ref).1 ∧ (g x.ref).1 ≤ 1000000 := by
      intro x hx hr
      rcases hk x.ref hr with ⟨hm, e⟩ | ⟨_, e⟩
      · rw [e]
        have := Sw l 0 (by omega) hm
        exact ⟨this.1, by simp only; omega⟩
      · rw [e]; simp
    obtain ⟨g1, g2⟩ := Jm (h := g) l hw0 hrng
    have g3 : (wordsL (Um g l)).length ≤ 65536 := by omega
    rw [P2 g1 g3] at hdef
    refine ⟨by omega, hw0, hnd, hdef, g1, g2, hsz, hk, fun x hx hl hr => ?_⟩
    rcases hk x.ref hr with ⟨hm, _⟩ | ⟨_, e⟩
    · exact hm
    · have := hall x hx hl hr
      rw [e] at this; cases this
  · rw [if_pos hz] at hdef
    rw [hdef] at h
    exact absurd h hz
theorem AsmOk.dec {l : List Ln} {h : List UInt8 → Int × Bool} (k : AsmOk l h) : Pw (wordsL (Um h l)) = ((Um h l).map bareI, 0, 0) := by
  have e := P2 k.good (by have := k.size; have := k.small; omega)
  have := dec_enc (l := Um h l) (by rw [e])
  rwa [e] at this
def Sr : List Ln → Int → Own → Own × Int
  | [], a, f => (f, a)
  | x :: l, a, f => if x.label ≠ [] then Sr l a (fun t => if t = x.label then some a else f t) else Sr l (a + longI x.ins.op) f
theorem Q3 : ∀ (l : List Ln) (a : Int) (f : Own), (Sr l a f).2 = a + Ud l
  | [], a, f => by simp [Sr, Ud]
  | x :: l, a, f => by
    unfold Sr Ud
    by_cases hl : x.label ≠ []
    · rw [if_pos hl, Q3 l, Uy hl]; omega
    · rw [if_neg hl, Q3 l, Ru (by simpa using hl)]; omega
theorem Qf {s : List UInt8} (hs : s ≠ []) : ∀ (l : List Ln) (a : Int) (f : Own), (Wb l).Nodup → (Sr l a f).1 s = if s ∈ Wb l then some (whereL l s a) else f s
  | [], a, f, _ => by simp [Sr, Wb]
  | x :: l, a, f, hn => by
    unfold Sr whereL
    by_cases hl : x.label ≠ []
    · rw [if_pos hl]
      rw [U2 hl] at hn ⊢
      have hn' := List.nodup_cons.1 hn
      rw [Qf hs l a _ hn'.2, Uy hl, Int.add_zero]
      by_cases hx : x.label = s
      · have : s ∉ Wb l := by rw [← hx]; exact hn'.1
        rw [if_neg this, if_pos hx.symm, if_pos (by rw [hx]; exact List.mem_cons_self ..), if_pos hx]
      · by_cases hm : s ∈ Wb l
        · rw [if_pos hm, if_pos (List.mem_cons_of_mem _ hm), if_neg hx]
        · have hm2 : s ∉ x.label :: Wb l := by
            simp only [List.mem_cons, not_or]; exact ⟨fun e => hx e.symm, hm⟩
          rw [if_neg hm, if_neg hm2, if_neg (fun e => hx e.symm)]
    · have hl' : x.label = [] := by simpa using hl
      rw [if_neg hl]
      rw [Ti hl'] at hn ⊢
      rw [Qf hs l _ f hn, if_neg (show ¬ x.label = s by rw [hl']; exact fun e => hs e.symm), Ru hl']
theorem Iu : ∀ l : List Ln, 0 ≤ Ud l
  | [] => by simp [Ud]
  | y :: l => by have := Ts y; have := Iu l; simp only [Ud]; omega
theorem Ky {h : List UInt8 → Int × Bool} {x : Ln} (hr : x.ref = []) : bareI (Pz h x) = bareI x.ins := by
  unfold Pz; rw [if_neg (by simpa using hr)]
theorem Ho {l : List Ln} {h : List UInt8 → Int × Bool} (k : AsmOk l h) {x : Ln} (hx : x ∈ l) (hl : x.label = []) (hr : x.ref ≠ []) :
    bareI (Pz h x) = ⟨(bareI x.ins).op, (bareI x.ins).d, (bareI x.ins).s, (whereL l x.ref 0).tmod 65536⟩ ∧ (Sr l 0 Si).1 x.ref = some (whereL l x.ref 0) ∧ 0 ≤ whereL l x.ref 0 ∧ whereL l x.ref 0 ≤ 65536 := by
  have hm := k.refs x hx hl hr
  have hrng := Sw l 0 (by omega) hm
  have hsm := k.small
  have hri := (Th (k.right x hx) hl).2 hr
  have hi : hasI x.ins.op = true := by
    have := hri.2.1
    unfold Vt at this
    simp only [Bool.and_eq_true] at this
    exact this.1
  rcases k.kn x.ref hr with ⟨_, e⟩ | ⟨hno, _⟩
  · refine ⟨?_, ?_, hrng.1, by omega⟩
    · unfold Pz
      rw [if_pos hr, e]
      simp only [bareI, hi, if_true]
      rw [Jq _ hrng.1 (by omega), Int.tmod_eq_emod_of_nonneg hrng.1]
    · rw [Qf hr l 0 Si k.once, if_pos hm]
  · exact absurd hm hno
theorem K7 {h : List UInt8 → Int × Bool} {x : Ln} {l : List Ln} (hl : x.label ≠ []) : Um h (x :: l) = Um h l := by simp [Um, hl]
theorem Il {h : List UInt8 → Int × Bool} {x : Ln} {l : List Ln} (hl : x.label = []) : Um h (x :: l) = Pz h x :: Um h l := by simp [Um, hl]
theorem Hn {x : Ln} (hw : Vm x = 0) (hl : x.label = []) : Ve x.ins.op = true := Qw (Th hw hl).1
end Go.Proofs.YtccjjcdjgibilaaDoor
