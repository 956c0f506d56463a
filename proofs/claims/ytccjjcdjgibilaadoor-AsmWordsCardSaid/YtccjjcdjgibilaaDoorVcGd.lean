/- What a contract takes is there: read-only views of a caller's memory. -/
import Derived.Test.YtccjjcdjgibilaaDoorVcGc
namespace Go.Proofs.YtccjjcdjgibilaaDoor
namespace Vc
open Go.RowKit
set_option linter.unusedVariables false
set_option linter.unusedSimpArgs false
def RoO (w : World) (O : List Nat) (v : Value) (k : Kd) (l : List k.ty) : Prop :=
  ∃ a cap, (v = .slice a l.length cap ∧ l.length ≤ cap) ∧ (a = none → l = []) ∧ ∀ ad : Addr, a = some ad → (l ≠ [] → ad.spot = none) ∧ ∀ (i : Nat) (x : k.ty), l[i]? = some x → ∀ (j : Nat) (u : At), (k.enc x)[j]? = some u →
    w.cell? ⟨ad.block, ad.off + (i * k.sz + j), none⟩ = some (u.den Vb) ∧ ad.block ∉ O
theorem RoO.nil (w : World) (O : List Nat) (k : Kd) : RoO w O (.slice none 0 0) k [] := ⟨none, 0, ⟨rfl, Nat.le_refl _⟩, fun _ => rfl, fun ad had => by cases had⟩
theorem RoO.holds {w : World} {O : List Nat} {ρ : Env} {n : Nat} {k : Kd} {l : List k.ty} (h : RoO w O (ρ n) k l) : (Res.ro k l).holds ρ O n w := by
  obtain ⟨a, cap, h1, h2, h3⟩ := h
  refine ⟨a, cap, h1, h2, fun ad had => ⟨(h3 ad had).1, fun i x hx j u hu => ?_⟩⟩
  rw [k.enc_at x Vb ρ hu]
  exact (h3 ad had).2 i x hx j u hu
theorem RoO.lns {w : World} {O : List Nat} {v : Value} {l : List Ln} (h : RoO w O v .line l) : ∃ a cap, v = .slice a l.length cap ∧ l.length ≤ cap ∧ Tf w O 0 a l := by
  obtain ⟨a, cap, h1, h2, h3⟩ := h
  exact ⟨a, cap, h1.1, h1.2, h2, fun ad had => ⟨(h3 ad had).1, fun j y hy q u hu => let ⟨g1, g2⟩ := (h3 ad had).2 j y hy q u hu; ⟨g1, g2, Nat.zero_le _⟩⟩⟩
theorem RoO.cast {w : World} {O : List Nat} {v : Value} {k' k : Kd} {l' : List k'.ty} {l : List k.ty} (h : Z5 k' k l' = some l) (hr : RoO w O v k' l') : RoO w O v k l := by
  cases k' <;> cases k <;> simp only [Z5, reduceCtorEq, Option.some.injEq] at h <;> (try (subst h; exact hr))
  rename_i a b
  split at h
  · rename_i e; cases e; cases h; exact hr
  · cases h
theorem RoO.view {w : World} {O : List Nat} {v v' : Value} {k : Kd} {L : List k.ty} {lo hi : Nat} (h : RoO w O v k L) (h1 : lo ≤ hi) (h2 : hi ≤ L.length) {ad ad' : Option Addr} {len cap : Nat} (hv : v = .slice ad len cap) (hv' : v' = .slice ad' (hi - lo) (cap - lo))
    (hsp : lo < hi → ∀ x, ad' = some x → x.spot = none) (ha : lo < cap → ad' = ad.map (·.add (lo * k.sz))) : RoO w O v' k ((L.take hi).drop lo) := by
  obtain ⟨a, cap2, ⟨g1, g2⟩, g3, g4⟩ := h
  rw [hv] at g1; cases g1
  have hlen : ((L.take hi).drop lo).length = hi - lo := by simp; omega
  have hlt : ∀ i x, ((L.take hi).drop lo)[i]? = some x → i < hi - lo := fun i x hx => by have := (List.getElem?_eq_some_iff.1 hx).1; omega
  refine ⟨ad', cap - lo, ⟨by rw [hlen]; exact hv', by omega⟩, fun hn => ?_, fun x hx => ⟨fun hne => hsp (by have := List.length_pos_iff.2 hne; omega) x hx, fun i y hy j u hu => ?_⟩⟩
  · apply List.eq_nil_of_length_eq_zero
    rw [hlen]
    by_cases hc : lo < cap
    · have := ha hc
      rw [hn] at this
      cases ad with
      | none => have := g3 rfl; rw [this] at h2; simp at h2; omega
      | some z => cases this
    · omega
  · have hi1 := hlt i y hy
    have hc : lo < cap := by omega
    have hax := ha hc
    cases ad with
    | none => rw [hx] at hax; cases hax
    | some z =>
      rw [hx] at hax
      obtain ⟨s1, s2⟩ := g4 z rfl
      have s1 := s1 (fun e => by rw [e] at h2; simp at h2; omega)
      obtain ⟨zb, zo, zs⟩ := z
      simp only at s1; subst s1
      simp only [Option.map_some, Option.some.injEq, Addr.add_lit] at hax
      subst hax
      have hL : L[lo + i]? = some y := by
        rw [List.getElem?_drop, List.getElem?_take] at hy
        split at hy
        · exact hy
        · cases hy
      have := s2 (lo + i) y hL j u hu
      simp only at this ⊢
      rw [show zo + lo * k.sz + (i * k.sz + j) = zo + ((lo + i) * k.sz + j) by rw [Nat.add_mul]; omega]
      exact this
section
variable {c : Cx} {S : St} {ρ : Env} {w : World} {ds O : List Nat}
theorem Ta (hm : Mem c ρ S.res S.nx w) (hO : ∀ b ∈ O, ∃ m r, (m, r) ∈ S.res ∧ m ∈ ds ∧ r.block ρ m = some b) {m b : Nat} {r : Res} (h : (m, r) ∈ del S.res ds) (hb : r.block ρ m = some b) : b ∉ O := fun hbO => by
  obtain ⟨m', r', h1, h2, h3⟩ := hO b hbO
  exact W2 hm.keys hm.nodup h1 h2 h3 (List.mem_filterMap.2 ⟨(m, r), h, hb⟩)
theorem Ux (hO : ∀ b ∈ O, ∃ m r, (m, r) ∈ S.res ∧ m ∈ ds ∧ r.block ρ m = some b) {b : Nat} (h : b ∉ Xv ρ S.res) : b ∉ O := fun hbO => by
  obtain ⟨m', r', h1, h2, h3⟩ := hO b hbO
  exact h (List.mem_filterMap.2 ⟨_, h1, h3⟩)
theorem Wv {R : List (Nat × Res)} {p : Nat × Res} (h : p ∈ del R ds) : p ∈ R := (List.mem_filter.1 h).1
theorem H5 (hm : Mem c ρ S.res S.nx w) (hO : ∀ b ∈ O, ∃ m r, (m, r) ∈ S.res ∧ m ∈ ds ∧ r.block ρ m = some b) {m : Nat} {k : Kd} {l : List k.ty} (h : (m, Res.ro k l) ∈ del S.res ds) : RoO w O (ρ m) k l := by
  obtain ⟨a, cap, h1, h2, h3⟩ := hm.res _ _ (Wv h)
  refine ⟨a, cap, h1, h2, fun ad had => ⟨(h3 ad had).1, fun i x hx j u hu => ?_⟩⟩
  obtain ⟨g1, g2⟩ := (h3 ad had).2 i x hx j u hu
  rw [k.enc_at x ρ Vb hu]
  exact ⟨g1, Ux hO g2⟩
theorem Mh (hm : Mem c ρ S.res S.nx w) (hO : ∀ b ∈ O, ∃ m r, (m, r) ∈ S.res ∧ m ∈ ds ∧ r.block ρ m = some b) {m E : Nat} {k : Kd} {l : List k.ty} (h : (m, Res.row E k l) ∈ del S.res ds) : RoO w O (ρ m) k l := by
  have hr := Res.row_own (hm.res _ _ (Wv h))
  have hro := S4 hr
  rcases hr.2 with ⟨hv, hn⟩ | ⟨g, cap, cur, hv, _, hh, hn, _⟩
  · have : l = [] := List.eq_nil_of_length_eq_zero hn
    subst this
    rw [hv]; exact RoO.nil w O k
  · obtain ⟨a, cap2, h1, h2, h3⟩ := hro
    refine ⟨a, cap2, h1, h2, fun ad had => ⟨(h3 ad had).1, fun i x hx j u hu => ⟨(h3 ad had).2 i x hx j u hu, ?_⟩⟩⟩
    rw [hv] at h1
    have : a = some ⟨g, 0, none⟩ := by have := h1.1; injection this with e1 _ _; exact e1.symm
    rw [this] at had; cases had
    exact Ta hm hO h (by simp [Res.block, hv, Value.ownBlock])
theorem roO_lit (hm : Mem c ρ S.res S.nx w) (hO : ∀ b ∈ O, ∃ m r, (m, r) ∈ S.res ∧ m ∈ ds ∧ r.block ρ m = some b) {m E z e : Nat} {k : Kd} {cs : List At} {l : List k.ty} (h : (m, Res.lit E z e cs) ∈ del S.res ds) (hl : l.flatMap k.enc = cs) (he : l.length = e) : RoO w O (ρ m) k l := by
  have hr := hm.res _ _ (Wv h)
  obtain ⟨a, cap2, h1, h2, h3⟩ := Res.lit_ro hr hl he
  obtain ⟨b, hv, _⟩ := hr
  refine ⟨a, cap2, h1, h2, fun ad had => ⟨(h3 ad had).1, fun i x hx j u hu => ⟨(h3 ad had).2 i x hx j u hu, ?_⟩⟩⟩
  rw [hv] at h1
  have : a = some ⟨b, 0, none⟩ := by have := h1.1; injection this with e1 _ _; exact e1.symm
  rw [this] at had; cases had
  exact Ta hm hO h (by simp [Res.block, hv, Value.ownBlock])
theorem roM_O (hm : Mem c ρ S.res S.nx w) (hO : ∀ b ∈ O, ∃ m r, (m, r) ∈ S.res ∧ m ∈ ds ∧ r.block ρ m = some b) {m : Nat} {k : Kd} {l : List k.ty} (h : roM ⟨S.slots, del S.res ds, S.nx⟩ m k l) : RoO w O (ρ m) k l := by
  unfold roM at h
  split at h
  · rename_i hf; exact (H5 hm hO (Wu hf)).cast h
  · rename_i hf; exact (Mh hm hO (Wu hf)).cast h
  · rename_i hf; exact roO_lit hm hO (Wu hf) h.1 h.2
  · rename_i m0 sz lo hi hf
    obtain ⟨rfl, h⟩ := h
    obtain ⟨ad, len, cap, ad', v1, v2, v3, v4, v5⟩ := hm.res _ _ (Wv (Wu hf))
    split at h
    · rename_i hf0
      split at h
      · rename_i L hL
        obtain ⟨g1, g2, rfl⟩ := h
        exact ((H5 hm hO (Wu hf0)).cast hL).view g1 g2 v1 v2 v4 v5
      · exact h.elim
    · rename_i hf0
      split at h
      · rename_i L hL
        obtain ⟨g1, g2, rfl⟩ := h
        exact ((Mh hm hO (Wu hf0)).cast hL).view g1 g2 v1 v2 v4 v5
      · exact h.elim
    · exact h.elim
  · exact h.elim
theorem roA_O (hm : Mem c ρ S.res S.nx w) (hO : ∀ b ∈ O, ∃ m r, (m, r) ∈ S.res ∧ m ∈ ds ∧ r.block ρ m = some b) {k : Kd} {l : List k.ty} {x : At} (h : roA ⟨S.slots, del S.res ds, S.nx⟩ k l x) : RoO w O (x.den ρ) k l := by
  unfold roA at h
  split at h
  · exact roM_O hm hO h
  · subst h; exact RoO.nil w O k
  · exact h.elim
theorem L5 {S : St} : ∀ {cs : List At} {l : List (List UInt8 × List Ln)} {i : Nat} {x : List UInt8 × List Ln}, Wj S cs l → l[i]? = some x → ∃ y, cs[i * 2]? = some (.str x.1) ∧ cs[i * 2 + 1]? = some y ∧ roA S .line x.2 y
  | .str s :: y :: cs, (s', ls) :: l, 0, x, h, hx => by
    simp at hx; subst hx
    exact ⟨y, by rw [h.1]; rfl, rfl, h.2.1⟩
  | .str s :: y :: cs, (s', ls) :: l, i + 1, x, h, hx => by
    obtain ⟨z, h1, h2, h3⟩ := L5 h.2.2 (by simpa using hx)
    refine ⟨z, ?_, ?_, h3⟩
    · rw [show (i + 1) * 2 = i * 2 + 2 by omega]; exact h1
    · rw [show (i + 1) * 2 + 1 = (i * 2 + 1) + 2 by omega]; exact h2
  | [], [], _, _, _, hx => by simp at hx
theorem Hp (hm : Mem c ρ S.res S.nx w) (hO : ∀ b ∈ O, ∃ m r, (m, r) ∈ S.res ∧ m ∈ ds ∧ r.block ρ m = some b) {m : Nat} {l : List (List UInt8 × List Ln)} (h : Wh ⟨S.slots, del S.res ds, S.nx⟩ m l) {ρ' : Env} {n : Nat} (hn : ρ' n = ρ m) : (Res.rou l).holds ρ' O n w := by
  have sub : ∀ {base : Nat} {a1 : Option Addr} {ls : List Ln}, Tf w (Xv ρ S.res) base a1 ls → Tf w O 0 a1 ls := fun h => ⟨h.1, fun ad1 had1 => ⟨(h.2 ad1 had1).1, fun j y hy q u hu => let ⟨h1, h2, h3⟩ := (h.2 ad1 had1).2 j y hy q u hu; ⟨h1, Ux hO h2, Nat.zero_le _⟩⟩⟩
  unfold Wh at h
  split at h
  · rename_i hf
    subst h
    obtain ⟨a, cap, h1, h2, h3⟩ := hm.res _ _ (Wv (Wu hf))
    refine ⟨a, cap, by rw [hn]; exact h1, h2, fun ad had => ⟨(h3 ad had).1, fun i x hx => ?_⟩⟩
    obtain ⟨g1, a1, cap1, g2, g3⟩ := (h3 ad had).2 i x hx
    exact ⟨⟨g1.1, Ux hO g1.2⟩, a1, cap1, ⟨⟨g2.1.1, Ux hO g2.1.2⟩, g2.2⟩, sub g3⟩
  · rename_i base E l' hf
    subst h
    obtain ⟨us, hlen, hown, h3⟩ := hm.res _ _ (Wv (Wu hf))
    have hro := S4 (E := E) (k := .unt) (l := us) hown
    obtain ⟨a, cap, h1, h2, h4⟩ := hro
    refine ⟨a, cap, by rw [hn, ← hlen]; exact h1, fun hn => List.eq_nil_of_length_eq_zero (by rw [← hlen, h2 hn]; rfl), fun ad had => ⟨fun hne => (h4 ad had).1 (fun e => hne (List.eq_nil_of_length_eq_zero (by rw [← hlen, e]; rfl))), fun i x hx => ?_⟩⟩
    have hi : i < us.length := by rw [hlen]; exact (List.getElem?_eq_some_iff.1 hx).1
    obtain ⟨u, hu⟩ : ∃ u, us[i]? = some u := ⟨us[i], by simp [hi]⟩
    obtain ⟨g1, g2, g3⟩ := h3 i u x hu hx
    have hbO : ad.block ∉ O := by
      rcases hown.2 with ⟨hv, _⟩ | ⟨g, cp, cur, hv, _⟩
      · rw [hv] at h1; have := h1.1; injection this with e1 _ _; rw [had] at e1; cases e1
      · rw [hv] at h1
        have : a = some ⟨g, 0, none⟩ := by have := h1.1; injection this with e1 _ _; exact e1.symm
        rw [this] at had; cases had
        exact Ta hm hO (Wu hf) (by simp [Res.block, hv, Value.ownBlock])
    have c0 := (h4 ad had).2 i u hu 0 (.str u.name) rfl
    have c1 := (h4 ad had).2 i u hu 1 (.raw (.slice u.la u.ln u.lc)) rfl
    simp only [Kd.sz, Nat.add_zero, At.den] at c0 c1
    rw [g1] at c0
    rw [g2.1] at c1
    exact ⟨⟨c0, hbO⟩, u.la, u.lc, ⟨⟨c1, hbO⟩, by rw [← g2.1]; exact g2.2⟩, sub g3⟩
  · rename_i E z e cs hf
    obtain ⟨rfl, h1, h2⟩ := h
    obtain ⟨b, hv, hlen, hb⟩ := hm.res _ _ (Wv (Wu hf))
    refine ⟨some ⟨b, 0, none⟩, e, by rw [hn, hv, h2]; exact ⟨rfl, Nat.le_refl _⟩, (fun h => by cases h), fun ad had => ?_⟩
    cases had
    refine ⟨fun _ => rfl, fun i x hx => ?_⟩
    obtain ⟨y, g1, g2, g3⟩ := L5 h1 hx
    have hbO : b ∉ O := Ta hm hO (Wu hf) (by simp [Res.block, hv, Value.ownBlock])
    obtain ⟨a1, cap1, k1, k2, k3⟩ := (roA_O hm hO g3).lns
    refine ⟨⟨?_, hbO⟩, a1, cap1, ⟨⟨?_, hbO⟩, k2⟩, k3⟩
    · rw [cell_of_row w b _ _ E (0, 0) hb]; simp [g1, At.den]
    · rw [cell_of_row w b _ _ E (0, 0) hb]; simp [g2, k1]
  · exact h.elim
theorem roR_mem (hm : Mem c ρ S.res S.nx w) (hO : ∀ b ∈ O, ∃ m r, (m, r) ∈ S.res ∧ m ∈ ds ∧ r.block ρ m = some b) {w' : World} (hk : Sa O w w') (P : Program) (nt : Nat) : Mem ⟨P, w', [], nt, []⟩ ρ (roR (del S.res ds)) S.nx w' := by
  have hnone : ∀ R : List (Nat × Res), Xv ρ (roR R) = [] := by
    intro R
    induction R with
    | nil => rfl
    | cons p R ih =>
      obtain ⟨n, r⟩ := p
      cases r <;> simp only [roR] <;> first | exact ih | (unfold Xv at ih ⊢; rw [List.filterMap_cons]; simpa [Res.block] using ih)
  have hfrom : ∀ (R : List (Nat × Res)) (n : Nat) (r' : Res), (n, r') ∈ roR R → ∃ r, (n, r) ∈ R ∧ (n, r') ∈ roR [(n, r)] := by
    intro R
    induction R with
    | nil => intro n r' h; cases h
    | cons p R ih =>
      intro n r' h
      obtain ⟨m, s⟩ := p
      have tail : (n, r') ∈ roR R → ∃ r, (n, r) ∈ (m, s) :: R ∧ (n, r') ∈ roR [(n, r)] := fun h => by
        obtain ⟨r, h1, h2⟩ := ih n r' h
        exact ⟨r, List.mem_cons_of_mem _ h1, h2⟩
      cases s <;> simp only [roR] at h <;> first | exact tail h | exact (List.mem_cons.1 h).elim (fun e => by cases e; exact ⟨_, List.mem_cons_self .., by simp [roR]⟩) tail
  have hkeys : ∀ R : List (Nat × Res), List.Sublist ((roR R).map Prod.fst) (R.map Prod.fst) := by
    intro R
    induction R with
    | nil => exact List.Sublist.refl _
    | cons p R ih =>
      obtain ⟨m, s⟩ := p
      cases s <;> simp only [roR, List.map_cons] <;> first | exact ih.cons_cons _ | exact ih.cons _
  have hblk : ∀ {b : Nat} {o : Obj}, w.heap[b]? = some o → b ∉ O → w'.heap[b]? = some o := fun h1 h2 => hk _ _ h1 h2
  have hcell : ∀ {a : Addr} {v : Value}, w.cell? a = some v → a.block ∉ O → w'.cell? a = some v := fun h1 h2 => Qg hk h1 h2
  refine ⟨rfl, rfl, rfl, Nat.le_refl _, fun _ _ _ => rfl, hm.one, List.Nodup.sublist (hkeys _) (Qq hm.keys), ?_, ?_, by rw [hnone]; exact List.nodup_nil, fun b hb => by rw [hnone] at hb; cases hb⟩
  · intro n r' hr'
    rw [hnone]
    obtain ⟨r, h1, h2⟩ := hfrom _ n r' hr'
    have hh := hm.res _ _ (Wv h1)
    have same : ∀ {r : Res}, r.holds ρ (Xv ρ S.res) n w → (n, r) ∈ S.res → (∀ E l, r ≠ .cells E l) → (∀ E k l, r ≠ .row E k l) → (∀ E z e l, r ≠ .lit E z e l) → (∀ P K E k f q, r ≠ .smap P K E k f q) → (∀ b E l, r ≠ .urow b E l) → r.holds ρ [] n w' := by
      intro r h hin n1 n2 n3 n4 n5
      refine Res.carry (nx := S.nx) (ρ := ρ) (O := Xv ρ S.res) (D := O) (fun _ _ => rfl) (hm.bdr _ _ hin).1 (hm.bdr _ _ hin).2 hk (fun b hb => ?_) (fun b hb => ?_) (fun b hb => nomatch hb) h
      · obtain ⟨m', r', g1, g2, g3⟩ := hO b hb
        exact List.mem_filterMap.2 ⟨_, g1, g3⟩
      · cases r <;> simp only [Res.block, reduceCtorEq] at hb
        · exact absurd rfl (n1 _ _)
        · exact absurd rfl (n2 _ _ _)
        · exact absurd rfl (n3 _ _ _ _)
        · exact absurd rfl (n4 _ _ _ _ _ _)
        · exact absurd rfl (n5 _ _ _)
    cases r with
    | cells E l =>
      simp only [roR, List.mem_singleton, Prod.mk.injEq, true_and] at h2
      subst h2
      obtain ⟨b, hv, hb⟩ := hh
      have hbO : b ∉ O := Ta hm hO h1 (by simp [Res.block, hv])
      refine ⟨⟨b, 0, none⟩, hv, fun j u hu => ⟨?_, by simp⟩⟩
      rw [cell_of_row w' b _ _ E (0, 0) (hblk hb hbO)]
      simp [hu]
    | row E k l =>
      simp only [roR, List.mem_singleton, Prod.mk.injEq, true_and] at h2
      subst h2
      obtain ⟨a, cap, g1, g2, g3⟩ := Mh hm hO h1
      exact RoO.holds ⟨a, cap, g1, g2, fun ad had => ⟨(g3 ad had).1, fun i x hx j u hu => let ⟨q1, q2⟩ := (g3 ad had).2 i x hx j u hu; ⟨hcell q1 q2, by simp⟩⟩⟩
    | lit E z e l => simp [roR] at h2
    | smap P K E k f q =>
      simp only [roR, List.mem_singleton, Prod.mk.injEq, true_and] at h2
      subst h2
      obtain ⟨b, es, clock, g1, g2, g3⟩ := hh
      exact ⟨b, es, clock, g1, ⟨hblk g2 (Ta hm hO h1 (by simp [Res.block, g1])), by simp⟩, g3⟩
    | urow base E l =>
      simp only [roR, List.mem_singleton, Prod.mk.injEq, true_and] at h2
      subst h2
      have hfind : Zd (del S.res ds) n = some (.urow base E l) := by
        have hkk := Qq (ds := ds) hm.keys
        clear hr' hfrom hnone hkeys
        generalize del S.res ds = R at h1 hkk
        induction R with
        | nil => cases h1
        | cons p R ih =>
          obtain ⟨m, s⟩ := p
          simp only [List.map_cons, List.nodup_cons] at hkk
          rcases List.mem_cons.1 h1 with e | h1
          · cases e; simp [Zd]
          · simp only [Zd]
            rw [if_neg (fun e => hkk.1 (by rw [e]; exact List.mem_map.2 ⟨_, h1, rfl⟩))]
            exact ih h1 hkk.2
      have := Hp hm hO (m := n) (l := l) (by unfold Wh; simp [St.find, hfind]) (ρ' := ρ) (n := n) rfl
      obtain ⟨a, cap, g1, g2, g3⟩ := this
      refine ⟨a, cap, g1, g2, fun ad had => ⟨(g3 ad had).1, fun i x hx => ?_⟩⟩
      obtain ⟨q1, a1, cap1, q2, q3⟩ := (g3 ad had).2 i x hx
      exact ⟨⟨hcell q1.1 q1.2, by simp⟩, a1, cap1, ⟨⟨hcell q2.1.1 q2.1.2, by simp⟩, q2.2⟩, ⟨q3.1, fun ad1 had1 => ⟨(q3.2 ad1 had1).1, fun j y hy q u hu => let ⟨z1, z2, z3⟩ := (q3.2 ad1 had1).2 j y hy q u hu; ⟨hcell z1 z2, by simp, z3⟩⟩⟩⟩
    | _ =>
      simp only [roR, List.mem_singleton, Prod.mk.injEq, true_and] at h2
      subst h2
      exact same hh (Wv h1) (by simp) (by simp) (by simp) (by simp) (by simp)
  · intro n r' hr'
    obtain ⟨r, h1, h2⟩ := hfrom _ n r' hr'
    have hb := hm.bdr _ _ (Wv h1)
    refine ⟨hb.1, ?_⟩
    cases r <;> simp only [roR, List.mem_singleton, List.not_mem_nil, Prod.mk.injEq, true_and] at h2 <;> (try (subst h2; first | exact hb.2 | trivial))
end
end Vc
end Go.Proofs.YtccjjcdjgibilaaDoor
