/- General contracts: a call takes named resources and leaves named resources; a call is matched to its contract by names. Plain definitions and lemmas. -/
import Derived.Test.YtjochhncheheaaaGreatDoorVcLib
namespace Go.Proofs.YtjochhncheheaaaGreatDoor
namespace Vc
open Go.RowKit
set_option linter.unusedVariables false
set_option linter.unusedSimpArgs false
def At.okN (p : Nat → Prop) : At → Prop
  | .ref n => p n
  | .loc n _ => p n
  | .elt n _ _ _ => p n
  | .clo _ ms => ms = []
  | .raw v => v.oneCell' = true
  | _ => True
def S1.okN (p : Nat → Prop) : S1 → Prop
  | .a x => x.okN p
  | .agg l => ∀ x ∈ l, x.okN p
def SV.okN (p : Nat → Prop) : SV → Prop
  | .one x => x.okN p
  | .tup l => ∀ x ∈ l, x.okN p
  | .opt _ x => x.okN p
def Res.okN (p : Nat → Prop) : Res → Prop
  | .cells _ l => ∀ x ∈ l, x.okN p
  | .lit _ _ _ l => ∀ x ∈ l, x.okN p
  | .rocells l => ∀ x ∈ l, x.okN p
  | .view _ _ _ _ => False
  | .fiter _ _ _ => False
  | _ => True
def At.sub (σ : Nat → At) : At → At
  | .ref n => σ n
  | .loc n o => match σ n with
    | .ref m => .loc m o
    | .loc m o' => .loc m (o' + o)
    | .elt m sz i j => .elt m sz i (j + o)
    | .raw v => .raw (X1 v o)
    | _ => .raw Xe
  | .elt n sz i j => match σ n with
    | .ref m => .elt m sz i j
    | .raw v => .raw (W5 v (i * sz + j))
    | _ => .raw Xe
  | x => x
def S1.sub (σ : Nat → At) : S1 → S1
  | .a x => .a (x.sub σ)
  | .agg l => .agg (l.map (At.sub σ))
def SV.sub (σ : Nat → At) : SV → SV
  | .one x => .one (x.sub σ)
  | .tup l => .tup (l.map (S1.sub σ))
  | .opt g x => .opt g (x.sub σ)
def Res.sub (σ : Nat → At) : Res → Res
  | .cells E l => .cells E (l.map (At.sub σ))
  | .lit E sz m l => .lit E sz m (l.map (At.sub σ))
  | .rocells l => .rocells (l.map (At.sub σ))
  | r => r
theorem G9 (v : Value) (a b : Nat) : X1 (X1 v a) b = X1 v (a + b) := by
  unfold X1
  split <;> simp_all [Xe]
  · rename_i h; split at h <;> simp_all [Xe] <;> (try omega)
    subst h; simp; omega
  · rename_i h
    split at h
    · exact absurd rfl (h _)
    · rfl
theorem Gy (v : Value) (a b : Nat) : X1 (W5 v a) b = W5 v (a + b) := by
  cases v with
  | slice a' l c =>
    cases a' with
    | none => rfl
    | some x => simp only [W5, X1, Nat.add_assoc]
  | _ => rfl
theorem Fv (v : Value) (a b : Nat) : W5 (X1 v a) b = Xe := by
  unfold X1
  split <;> rfl
theorem Fx (v : Value) (a b : Nat) : W5 (W5 v a) b = Xe := by
  cases v with
  | slice a' l c => cases a' <;> rfl
  | _ => rfl
theorem At.sub_den {σ : Nat → At} {ρ ρ' : Env} {p : Nat → Prop} (h : ∀ n, p n → (σ n).den ρ = ρ' n) {x : At} (hx : x.okN p) : (x.sub σ).den ρ = x.den ρ' := by
  cases x with
  | ref n => exact h n hx
  | loc n o =>
    have hn := h n hx
    simp only [At.sub, At.den, ← hn]
    cases hσ : σ n with
    | ref m => rfl
    | loc m o' => simp only [At.den, G9]
    | elt m sz i j => simp only [At.den, Gy, Nat.add_assoc]
    | raw v => rfl
    | _ => rfl
  | elt n sz i j =>
    have hn := h n hx
    simp only [At.sub, At.den, ← hn]
    cases hσ : σ n with
    | ref m => rfl
    | loc m o' => simp only [At.den, Fv]
    | elt m sz i j => simp only [At.den, Fx]
    | raw v => rfl
    | _ => rfl
  | clo f ms => have : ms = [] := hx; subst this; rfl
  | _ => rfl
theorem Uj {σ : Nat → At} {ρ ρ' : Env} {p : Nat → Prop} (h : ∀ n, p n → (σ n).den ρ = ρ' n) {l : List At} (hl : ∀ x ∈ l, x.okN p) : (l.map (At.sub σ)).map (At.den ρ) = l.map (At.den ρ') := by
  rw [List.map_map]; exact List.map_congr_left fun x hx => At.sub_den h (hl x hx)
theorem S1.sub_den {σ : Nat → At} {ρ ρ' : Env} {p : Nat → Prop} (h : ∀ n, p n → (σ n).den ρ = ρ' n) {x : S1} (hx : x.okN p) : (x.sub σ).den ρ = x.den ρ' := by
  cases x with
  | a x => exact At.sub_den h hx
  | agg l => simp only [S1.sub, S1.den, Uj h hx]
theorem SV.sub_den {σ : Nat → At} {ρ ρ' : Env} {p : Nat → Prop} (h : ∀ n, p n → (σ n).den ρ = ρ' n) {x : SV} (hx : x.okN p) : (x.sub σ).den ρ = x.den ρ' := by
  cases x with
  | one x => exact S1.sub_den h hx
  | tup l => simp only [SV.sub, SV.den, List.map_map]; congr 2; exact List.map_congr_left fun x hx' => S1.sub_den h (hx x hx')
  | opt g x => simp only [SV.sub, SV.den, S1.sub_den h hx]
theorem Jz (v : Value) (o : Nat) : (X1 v o).oneCell' = true := by unfold X1; split <;> rfl
theorem Ie (v : Value) (o : Nat) : (W5 v o).oneCell' = true := by unfold W5; split <;> rfl
theorem At.sub_bd {σ : Nat → At} {nx : Nat} {p : Nat → Prop} (h : ∀ n, p n → (σ n).bd nx) {x : At} (hx : x.okN p) : (x.sub σ).bd nx := by
  cases x with
  | ref n => exact h n hx
  | loc n o =>
    have hn := h n hx
    simp only [At.sub]
    cases hσ : σ n <;> rw [hσ] at hn <;> first | exact hn | exact Jz _ _ | rfl
  | elt n sz i j =>
    have hn := h n hx
    simp only [At.sub]
    cases hσ : σ n <;> rw [hσ] at hn <;> first | exact hn | exact Ie _ _ | rfl
  | clo f ms => have : ms = [] := hx; subst this; intro m hm; cases hm
  | raw v => exact hx
  | _ => trivial
theorem S1.sub_bd {σ : Nat → At} {nx : Nat} {p : Nat → Prop} (h : ∀ n, p n → (σ n).bd nx) {x : S1} (hx : x.okN p) : (x.sub σ).bd nx := by
  cases x with
  | a x => exact At.sub_bd h hx
  | agg l => intro y hy; obtain ⟨z, hz, rfl⟩ := List.mem_map.1 hy; exact At.sub_bd h (hx z hz)
theorem SV.sub_bd {σ : Nat → At} {nx : Nat} {p : Nat → Prop} (h : ∀ n, p n → (σ n).bd nx) {x : SV} (hx : x.okN p) : (x.sub σ).bd nx := by
  cases x with
  | one x => exact S1.sub_bd h hx
  | tup l => intro y hy; obtain ⟨z, hz, rfl⟩ := List.mem_map.1 hy; exact S1.sub_bd h (hx z hz)
  | opt g x => exact fun _ => S1.sub_bd h hx
theorem Res.sub_bd {σ : Nat → At} {nx : Nat} {p : Nat → Prop} (h : ∀ n, p n → (σ n).bd nx) {x : Res} (hx : x.okN p) : (x.sub σ).bd nx := by
  cases x with
  | cells E l => intro y hy; obtain ⟨z, hz, rfl⟩ := List.mem_map.1 hy; exact At.sub_bd h (hx z hz)
  | lit E sz m l => intro y hy; obtain ⟨z, hz, rfl⟩ := List.mem_map.1 hy; exact At.sub_bd h (hx z hz)
  | rocells l => intro y hy; obtain ⟨z, hz, rfl⟩ := List.mem_map.1 hy; exact At.sub_bd h (hx z hz)
  | view _ _ _ _ => exact hx.elim
  | fiter _ _ _ => exact hx.elim
  | _ => trivial
theorem At.okN_bd {nx : Nat} {x : At} (hx : x.okN (· < nx)) : x.bd nx := by
  cases x with
  | clo f ms => have : ms = [] := hx; subst this; intro m hm; cases hm
  | _ => exact hx
theorem S1.okN_bd {nx : Nat} {x : S1} (hx : x.okN (· < nx)) : x.bd nx := by
  cases x with
  | a x => exact At.okN_bd hx
  | agg l => exact fun y hy => At.okN_bd (hx y hy)
theorem Res.okN_bd {nx : Nat} {x : Res} (hx : x.okN (· < nx)) : x.bd nx := by
  cases x with
  | cells E l => exact fun y hy => At.okN_bd (hx y hy)
  | lit E sz m l => exact fun y hy => At.okN_bd (hx y hy)
  | rocells l => exact fun y hy => At.okN_bd (hx y hy)
  | view _ _ _ _ => exact hx.elim
  | fiter _ _ _ => exact hx.elim
  | _ => trivial
theorem At.okN_mono {p q : Nat → Prop} (h : ∀ n, p n → q n) {x : At} (hx : x.okN p) : x.okN q := by
  cases x <;> first | exact h _ hx | exact hx
theorem S1.okN_mono {p q : Nat → Prop} (h : ∀ n, p n → q n) {x : S1} (hx : x.okN p) : x.okN q := by
  cases x with
  | a x => exact At.okN_mono h hx
  | agg l => exact fun y hy => At.okN_mono h (hx y hy)
def roM (S : St) (m : Nat) (k : Kd) (l : List k.ty) : Prop := match S.find m with
  | some (.ro k' l') => Yu k' k l' = some l
  | some (.row _ k' l') => Yu k' k l' = some l
  | some (.lit _ z e cs) => l.flatMap k.enc = cs ∧ l.length = e
  | some (.view m0 sz lo hi) => sz = k.sz ∧ (match S.find m0 with
    | some (.ro k' l') => (match Yu k' k l' with
      | some L => lo ≤ hi ∧ hi ≤ L.length ∧ l = (L.take hi).drop lo
      | none => False)
    | some (.row _ k' l') => (match Yu k' k l' with
      | some L => lo ≤ hi ∧ hi ≤ L.length ∧ l = (L.take hi).drop lo
      | none => False)
    | _ => False)
  | _ => False
def roA (S : St) (k : Kd) (l : List k.ty) : At → Prop
  | .ref m => roM S m k l
  | .raw (.slice none 0 0) => l = []
  | _ => False
def Ls (S : St) : List At → List (List UInt8 × List Ln) → Prop
  | [], [] => True
  | .str s :: x :: cs, (s', ls) :: l => s = s' ∧ roA S .line ls x ∧ Ls S cs l
  | _, _ => False
def Fp (S : St) (m : Nat) (l : List (List UInt8 × List Ln)) : Prop := match S.find m with
  | some (.rou l') => l' = l
  | some (.urow _ _ l') => l' = l
  | some (.lit _ z e cs) => z = 2 ∧ Ls S cs l ∧ l.length = e
  | _ => False
def Lv (σ : Nat → At) (S : St) (l : List At) : At → Prop
  | .ref m => (match S.find m with
    | some (.cells _ l') => l' = l.map (At.sub σ)
    | some (.rocells l') => l' = l.map (At.sub σ)
    | _ => False)
  | .loc m o => (match S.find m with
    | some (.cells _ l') => o + l.length ≤ l'.length ∧ (l'.drop o).take l.length = l.map (At.sub σ)
    | some (.rocells l') => o + l.length ≤ l'.length ∧ (l'.drop o).take l.length = l.map (At.sub σ)
    | _ => False)
  | _ => False
def Ek (S : St) (m : Nat) (r : Res) : Prop := match S.find m with
  | some (.smap P K E k f q) => Res.rosmap P K E k f q = r
  | some (.rosmap P K E k f q) => Res.rosmap P K E k f q = r
  | _ => False
def roR : List (Nat × Res) → List (Nat × Res)
  | [] => []
  | (n, .cells _ l) :: R => (n, .rocells l) :: roR R
  | (n, .row _ k l) :: R => (n, .ro k l) :: roR R
  | (n, .lit _ _ _ _) :: R => roR R
  | (n, .smap P K E k f q) :: R => (n, .rosmap P K E k f q) :: roR R
  | (n, .urow _ _ l) :: R => (n, .rou l) :: roR R
  | (n, .fmap _) :: R => roR R
  | (n, .fiter _ _ _) :: R => roR R
  | p :: R => p :: roR R
def Hi (P : Program) (R : List (Nat × Res)) (nx f : Nat) (ms : List Nat) (g : List S1 → Option SV) : Prop :=
  Zu P f = true ∧ ∃ nt x rl, Body P f nt x rl ∧ ∀ as r, g as = some r → Zq as ∧ r.bd 0 ∧ as.length + ms.length ≤ nt ∧
    ∀ w, T ⟨P, w, [], nt, []⟩ x (Sz ⟨P, w, [], nt, []⟩ rl (Fe r)) ⟨Xi 0 (as ++ ms.map fun m => .a (.loc m 0)), roR R, nx⟩
def fnM (P' : Program) (S : St) (P : Program) (g : List S1 → Option SV) : At → Prop
  | .ref m => S.find m = some (.fn P g)
  | .clo f ms => P = P' ∧ (∀ m ∈ ms, m < S.nx) ∧ Hi P S.res S.nx f ms g
  | .raw (.func (.func f) a b) => P = P' ∧ (a = #[] ∧ b = #[]) ∧ Hi P S.res S.nx f [] g
  | _ => False
def Ok (S : St) (r : Res) : At → Prop
  | .ref m => S.find m = some r
  | _ => False
def mtR (P' : Program) (S Sd : St) (σ : Nat → At) (n : Nat) : Res → Prop
  | .ro k l => roA Sd k l (σ n)
  | .rocells l => Lv σ Sd l (σ n)
  | .rou l => (match σ n with | .ref m => Fp Sd m l | .raw (.slice none 0 0) => l = [] | _ => False)
  | .rosmap P K E k f q => (match σ n with | .ref m => Ek Sd m (.rosmap P K E k f q) | _ => False)
  | .fn P g => fnM P' Sd P g (σ n)
  | .cells E l => Ok S (.cells E (l.map (At.sub σ))) (σ n)
  | .lit E sz e l => Ok S (.lit E sz e (l.map (At.sub σ))) (σ n)
  | .row E k l => Ok S (.row E k l) (σ n)
  | .smap P K E k f q => Ok S (.smap P K E k f q) (σ n)
  | .urow b E l => Ok S (.urow b E l) (σ n)
  | .fmap l => Ok S (.fmap l) (σ n)
  | _ => False
def Hg (P' : Program) (S Sd : St) (σ : Nat → At) : List (Nat × Res) → Prop
  | [] => True
  | (n, r) :: l => mtR P' S Sd σ n r ∧ Hg P' S Sd σ l
def Ni : At → Nat
  | .ref m => m
  | _ => 0
def Res.own : Res → Bool
  | .cells _ _ => true
  | .lit _ _ _ _ => true
  | .row _ _ _ => true
  | .smap _ _ _ _ _ _ => true
  | .urow _ _ _ => true
  | .fmap _ => true
  | .fiter _ _ _ => true
  | _ => false
def Res.outOk : Res → Bool
  | .cells _ _ => true
  | .lit _ _ _ _ => true
  | .row _ _ _ => true
  | .smap _ _ _ _ _ _ => true
  | .fmap _ => true
  | _ => false
def X7 (σ : Nat → At) : List (Nat × Res) → List Nat
  | [] => []
  | (n, r) :: l => bif r.own then (match σ n with | .ref m => m :: X7 σ l | _ => X7 σ l) else X7 σ l
theorem Jb {P' : Program} {S Sd : St} {σ : Nat → At} : ∀ {R : List (Nat × Res)} {n : Nat} {r : Res}, Hg P' S Sd σ R → (n, r) ∈ R → mtR P' S Sd σ n r
  | (m, s) :: R, n, r, h, hm => by
    rcases List.mem_cons.1 hm with e | hm
    · cases e; exact h.1
    · exact Jb h.2 hm
theorem Ru {σ : Nat → At} : ∀ {R : List (Nat × Res)} {n m : Nat} {r : Res}, (n, r) ∈ R → r.own = true → σ n = .ref m → m ∈ X7 σ R
  | (q, s) :: R, n, m, r, hm, ho, hs => by
    rcases List.mem_cons.1 hm with e | hm
    · cases e; simp [X7, ho, hs]
    · have := Ru (σ := σ) hm ho hs
      simp only [X7]
      cases s.own
      · simpa using this
      · simp only [cond_true]; split <;> simp [this]
theorem Gm {σ : Nat → At} : ∀ {R : List (Nat × Res)} {m : Nat}, m ∈ X7 σ R → ∃ n r, (n, r) ∈ R ∧ r.own = true ∧ σ n = .ref m
  | (n, s) :: R, m, h => by
    have tail : m ∈ X7 σ R → ∃ n' r, (n', r) ∈ (n, s) :: R ∧ r.own = true ∧ σ n' = .ref m := fun h => by
      obtain ⟨n', r, h1, h2⟩ := Gm (R := R) h
      exact ⟨n', r, List.mem_cons_of_mem _ h1, h2⟩
    simp only [X7] at h
    cases hs : s.own
    · rw [hs] at h; exact tail h
    · rw [hs] at h
      simp only [cond_true] at h
      split at h
      · rename_i q hq
        rcases List.mem_cons.1 h with e | h
        · exact ⟨n, s, List.mem_cons_self .., hs, by rw [hq, e]⟩
        · exact tail h
      · exact tail h
theorem Ps {σ : Nat → At} {p q : Nat × Res} {m : Nat} : ∀ {R : List (Nat × Res)}, (X7 σ R).Nodup → p ∈ R → q ∈ R → p.2.own = true → q.2.own = true → σ p.1 = .ref m → σ q.1 = .ref m → p = q := by
  intro R
  induction R with
  | nil => intro _ hp; cases hp
  | cons z R ih =>
    obtain ⟨n, s⟩ := z
    intro hnd hp hq op oq sp sq
    have tl : (X7 σ R).Nodup := by
      simp only [X7] at hnd
      cases hs : s.own
      · rw [hs] at hnd; exact hnd
      · rw [hs] at hnd
        simp only [cond_true] at hnd
        split at hnd
        · exact (List.nodup_cons.1 hnd).2
        · exact hnd
    have hd : ∀ {r : Nat × Res}, r ∈ R → r.2.own = true → σ r.1 = .ref m → s.own = true → σ n = .ref m → False := fun {r} hr o1 s1 o2 s2 => by
      simp only [X7, o2, s2, cond_true] at hnd
      exact (List.nodup_cons.1 hnd).1 (Ru (n := r.1) (r := r.2) hr o1 s1)
    rcases List.mem_cons.1 hp with e1 | hp
    · rcases List.mem_cons.1 hq with e2 | hq
      · rw [e1, e2]
      · subst e1; exact (hd hq oq sq op sp).elim
    · rcases List.mem_cons.1 hq with e2 | hq
      · subst e2; exact (hd hp op sp oq sq).elim
      · exact ih tl hp hq op oq sp sq
end Vc
end Go.Proofs.YtjochhncheheaaaGreatDoor
namespace Go.Proofs.YtjochhncheheaaaGreatDoor
namespace Vc
open Go.RowKit
set_option linter.unusedVariables false
set_option linter.unusedSimpArgs false
def RoO (w : World) (O : List Nat) (v : Value) (k : Kd) (l : List k.ty) : Prop :=
  ∃ a cap, (v = .slice a l.length cap ∧ l.length ≤ cap) ∧ (a = none → l = []) ∧ ∀ ad : Addr, a = some ad → (l ≠ [] → ad.spot = none) ∧ ∀ (i : Nat) (x : k.ty), l[i]? = some x → ∀ (j : Nat) (u : At), (k.enc x)[j]? = some u →
    w.cell? ⟨ad.block, ad.off + (i * k.sz + j), none⟩ = some (u.den Xm) ∧ ad.block ∉ O
theorem RoO.nil (w : World) (O : List Nat) (k : Kd) : RoO w O (.slice none 0 0) k [] := ⟨none, 0, ⟨rfl, Nat.le_refl _⟩, fun _ => rfl, fun ad had => by cases had⟩
theorem RoO.holds {w : World} {O : List Nat} {ρ : Env} {n : Nat} {k : Kd} {l : List k.ty} (h : RoO w O (ρ n) k l) : (Res.ro k l).holds ρ O n w := by
  obtain ⟨a, cap, h1, h2, h3⟩ := h
  refine ⟨a, cap, h1, h2, fun ad had => ⟨(h3 ad had).1, fun i x hx j u hu => ?_⟩⟩
  rw [k.enc_at x Xm ρ hu]
  exact (h3 ad had).2 i x hx j u hu
theorem RoO.lns {w : World} {O : List Nat} {v : Value} {l : List Ln} (h : RoO w O v .line l) : ∃ a cap, v = .slice a l.length cap ∧ l.length ≤ cap ∧ W4 w O 0 a l := by
  obtain ⟨a, cap, h1, h2, h3⟩ := h
  exact ⟨a, cap, h1.1, h1.2, h2, fun ad had => ⟨(h3 ad had).1, fun j y hy q u hu => let ⟨g1, g2⟩ := (h3 ad had).2 j y hy q u hu; ⟨g1, g2, Nat.zero_le _⟩⟩⟩
theorem RoO.cast {w : World} {O : List Nat} {v : Value} {k' k : Kd} {l' : List k'.ty} {l : List k.ty} (h : Yu k' k l' = some l) (hr : RoO w O v k' l') : RoO w O v k l := by
  cases k' <;> cases k <;> simp only [Yu, reduceCtorEq, Option.some.injEq] at h <;> (try (subst h; exact hr))
  rename_i a b
  split at h
  · rename_i e; cases e; cases h; exact hr
  · cases h
theorem RoO.view {w : World} {O : List Nat} {v v' : Value} {k : Kd} {L : List k.ty} {lo hi : Nat} (h : RoO w O v k L) (h1 : lo ≤ hi) (h2 : hi ≤ L.length) {ad ad' : Option Addr} {len cap : Nat} (hv : v = .slice ad len cap) (hv' : v' = .slice ad' (hi - lo) (cap - lo))
    (hsp : lo < hi → ∀ x, ad' = some x → x.spot = none) (ha : lo < cap → ad' = ad.map (·.add (lo * k.sz))) : RoO w O v' k ((L.take hi).drop lo) := by
  obtain ⟨a, cap2, ⟨g1, g2⟩, g3, g4⟩ := h
  rw [hv] at g1; cases g1
  have hlen : ((L.take hi).drop lo).length = hi - lo := by simp; omega
  have hlt : ∀ i x, ((L.take hi).drop lo)[i]? = some x → i < hi - lo := fun i x hx => by have := (List.getElem?_eq_some_iff.1 hx).1; omega
  refine ⟨ad', cap - lo, ⟨by rw [hlen]; exact hv', by omega⟩, fun hn => ?_, fun x hx => ⟨fun hne => hsp (by have := List.length_pos_iff.2 hne; omega) x hx, fun i y hy j u hu => ?_⟩⟩
  · apply List.eq_nil_of_length_eq_zero
    rw [hlen]
    by_cases hc : lo < cap
    · have := ha hc
      rw [hn] at this
      cases ad with
      | none => have := g3 rfl; rw [this] at h2; simp at h2; omega
      | some z => cases this
    · omega
  · have hi1 := hlt i y hy
    have hc : lo < cap := by omega
    have hax := ha hc
    cases ad with
    | none => rw [hx] at hax; cases hax
    | some z =>
      rw [hx] at hax
      obtain ⟨s1, s2⟩ := g4 z rfl
      have s1 := s1 (fun e => by rw [e] at h2; simp at h2; omega)
      obtain ⟨zb, zo, zs⟩ := z
      simp only at s1; subst s1
      simp only [Option.map_some, Option.some.injEq, Addr.add_lit] at hax
      subst hax
      have hL : L[lo + i]? = some y := by
        rw [List.getElem?_drop, List.getElem?_take] at hy
        split at hy
        · exact hy
        · cases hy
      have := s2 (lo + i) y hL j u hu
      simp only at this ⊢
      rw [show zo + lo * k.sz + (i * k.sz + j) = zo + ((lo + i) * k.sz + j) by rw [Nat.add_mul]; omega]
      exact this
section
variable {c : Cx} {S : St} {ρ : Env} {w : World} {ds O : List Nat}
theorem Vp (hm : Mem c ρ S.res S.nx w) (hO : ∀ b ∈ O, ∃ m r, (m, r) ∈ S.res ∧ m ∈ ds ∧ r.block ρ m = some b) {m b : Nat} {r : Res} (h : (m, r) ∈ del S.res ds) (hb : r.block ρ m = some b) : b ∉ O := fun hbO => by
  obtain ⟨m', r', h1, h2, h3⟩ := hO b hbO
  exact Yb hm.keys hm.nodup h1 h2 h3 (List.mem_filterMap.2 ⟨(m, r), h, hb⟩)
theorem W7 (hO : ∀ b ∈ O, ∃ m r, (m, r) ∈ S.res ∧ m ∈ ds ∧ r.block ρ m = some b) {b : Nat} (h : b ∉ Zn ρ S.res) : b ∉ O := fun hbO => by
  obtain ⟨m', r', h1, h2, h3⟩ := hO b hbO
  exact h (List.mem_filterMap.2 ⟨_, h1, h3⟩)
theorem Yy {R : List (Nat × Res)} {p : Nat × Res} (h : p ∈ del R ds) : p ∈ R := (List.mem_filter.1 h).1
theorem F1 (hm : Mem c ρ S.res S.nx w) (hO : ∀ b ∈ O, ∃ m r, (m, r) ∈ S.res ∧ m ∈ ds ∧ r.block ρ m = some b) {m : Nat} {k : Kd} {l : List k.ty} (h : (m, Res.ro k l) ∈ del S.res ds) : RoO w O (ρ m) k l := by
  obtain ⟨a, cap, h1, h2, h3⟩ := hm.res _ _ (Yy h)
  refine ⟨a, cap, h1, h2, fun ad had => ⟨(h3 ad had).1, fun i x hx j u hu => ?_⟩⟩
  obtain ⟨g1, g2⟩ := (h3 ad had).2 i x hx j u hu
  rw [k.enc_at x ρ Xm hu]
  exact ⟨g1, W7 hO g2⟩
theorem Lp (hm : Mem c ρ S.res S.nx w) (hO : ∀ b ∈ O, ∃ m r, (m, r) ∈ S.res ∧ m ∈ ds ∧ r.block ρ m = some b) {m E : Nat} {k : Kd} {l : List k.ty} (h : (m, Res.row E k l) ∈ del S.res ds) : RoO w O (ρ m) k l := by
  have hr := Res.row_own (hm.res _ _ (Yy h))
  have hro := V8 hr
  rcases hr.2 with ⟨hv, hn⟩ | ⟨g, cap, cur, hv, _, hh, hn, _⟩
  · have : l = [] := List.eq_nil_of_length_eq_zero hn
    subst this
    rw [hv]; exact RoO.nil w O k
  · obtain ⟨a, cap2, h1, h2, h3⟩ := hro
    refine ⟨a, cap2, h1, h2, fun ad had => ⟨(h3 ad had).1, fun i x hx j u hu => ⟨(h3 ad had).2 i x hx j u hu, ?_⟩⟩⟩
    rw [hv] at h1
    have : a = some ⟨g, 0, none⟩ := by have := h1.1; injection this with e1 _ _; exact e1.symm
    rw [this] at had; cases had
    exact Vp hm hO h (by simp [Res.block, hv, Value.ownBlock])
theorem roO_lit (hm : Mem c ρ S.res S.nx w) (hO : ∀ b ∈ O, ∃ m r, (m, r) ∈ S.res ∧ m ∈ ds ∧ r.block ρ m = some b) {m E z e : Nat} {k : Kd} {cs : List At} {l : List k.ty} (h : (m, Res.lit E z e cs) ∈ del S.res ds) (hl : l.flatMap k.enc = cs) (he : l.length = e) : RoO w O (ρ m) k l := by
  have hr := hm.res _ _ (Yy h)
  obtain ⟨a, cap2, h1, h2, h3⟩ := Res.lit_ro hr hl he
  obtain ⟨b, hv, _⟩ := hr
  refine ⟨a, cap2, h1, h2, fun ad had => ⟨(h3 ad had).1, fun i x hx j u hu => ⟨(h3 ad had).2 i x hx j u hu, ?_⟩⟩⟩
  rw [hv] at h1
  have : a = some ⟨b, 0, none⟩ := by have := h1.1; injection this with e1 _ _; exact e1.symm
  rw [this] at had; cases had
  exact Vp hm hO h (by simp [Res.block, hv, Value.ownBlock])
theorem roM_O (hm : Mem c ρ S.res S.nx w) (hO : ∀ b ∈ O, ∃ m r, (m, r) ∈ S.res ∧ m ∈ ds ∧ r.block ρ m = some b) {m : Nat} {k : Kd} {l : List k.ty} (h : roM ⟨S.slots, del S.res ds, S.nx⟩ m k l) : RoO w O (ρ m) k l := by
  unfold roM at h
  split at h
  · rename_i hf; exact (F1 hm hO (Y1 hf)).cast h
  · rename_i hf; exact (Lp hm hO (Y1 hf)).cast h
  · rename_i hf; exact roO_lit hm hO (Y1 hf) h.1 h.2
  · rename_i m0 sz lo hi hf
    obtain ⟨rfl, h⟩ := h
    obtain ⟨ad, len, cap, ad', v1, v2, v3, v4, v5⟩ := hm.res _ _ (Yy (Y1 hf))
    split at h
    · rename_i hf0
      split at h
      · rename_i L hL
        obtain ⟨g1, g2, rfl⟩ := h
        exact ((F1 hm hO (Y1 hf0)).cast hL).view g1 g2 v1 v2 v4 v5
      · exact h.elim
    · rename_i hf0
      split at h
      · rename_i L hL
        obtain ⟨g1, g2, rfl⟩ := h
        exact ((Lp hm hO (Y1 hf0)).cast hL).view g1 g2 v1 v2 v4 v5
      · exact h.elim
    · exact h.elim
  · exact h.elim
theorem roA_O (hm : Mem c ρ S.res S.nx w) (hO : ∀ b ∈ O, ∃ m r, (m, r) ∈ S.res ∧ m ∈ ds ∧ r.block ρ m = some b) {k : Kd} {l : List k.ty} {x : At} (h : roA ⟨S.slots, del S.res ds, S.nx⟩ k l x) : RoO w O (x.den ρ) k l := by
  unfold roA at h
  split at h
  · exact roM_O hm hO h
  · subst h; exact RoO.nil w O k
  · exact h.elim
theorem Js {S : St} : ∀ {cs : List At} {l : List (List UInt8 × List Ln)} {i : Nat} {x : List UInt8 × List Ln}, Ls S cs l → l[i]? = some x → ∃ y, cs[i * 2]? = some (.str x.1) ∧ cs[i * 2 + 1]? = some y ∧ roA S .line x.2 y
  | .str s :: y :: cs, (s', ls) :: l, 0, x, h, hx => by
    simp at hx; subst hx
    exact ⟨y, by rw [h.1]; rfl, rfl, h.2.1⟩
  | .str s :: y :: cs, (s', ls) :: l, i + 1, x, h, hx => by
    obtain ⟨z, h1, h2, h3⟩ := Js h.2.2 (by simpa using hx)
    refine ⟨z, ?_, ?_, h3⟩
    · rw [show (i + 1) * 2 = i * 2 + 2 by omega]; exact h1
    · rw [show (i + 1) * 2 + 1 = (i * 2 + 1) + 2 by omega]; exact h2
  | [], [], _, _, _, hx => by simp at hx
theorem Dl (hm : Mem c ρ S.res S.nx w) (hO : ∀ b ∈ O, ∃ m r, (m, r) ∈ S.res ∧ m ∈ ds ∧ r.block ρ m = some b) {m : Nat} {l : List (List UInt8 × List Ln)} (h : Fp ⟨S.slots, del S.res ds, S.nx⟩ m l) {ρ' : Env} {n : Nat} (hn : ρ' n = ρ m) : (Res.rou l).holds ρ' O n w := by
  have sub : ∀ {base : Nat} {a1 : Option Addr} {ls : List Ln}, W4 w (Zn ρ S.res) base a1 ls → W4 w O 0 a1 ls := fun h => ⟨h.1, fun ad1 had1 => ⟨(h.2 ad1 had1).1, fun j y hy q u hu => let ⟨h1, h2, h3⟩ := (h.2 ad1 had1).2 j y hy q u hu; ⟨h1, W7 hO h2, Nat.zero_le _⟩⟩⟩
  unfold Fp at h
  split at h
  · rename_i hf
    subst h
    obtain ⟨a, cap, h1, h2, h3⟩ := hm.res _ _ (Yy (Y1 hf))
    refine ⟨a, cap, by rw [hn]; exact h1, h2, fun ad had => ⟨(h3 ad had).1, fun i x hx => ?_⟩⟩
    obtain ⟨g1, a1, cap1, g2, g3⟩ := (h3 ad had).2 i x hx
    exact ⟨⟨g1.1, W7 hO g1.2⟩, a1, cap1, ⟨⟨g2.1.1, W7 hO g2.1.2⟩, g2.2⟩, sub g3⟩
  · rename_i base E l' hf
    subst h
    obtain ⟨us, hlen, hown, h3⟩ := hm.res _ _ (Yy (Y1 hf))
    have hro := V8 (E := E) (k := .unt) (l := us) hown
    obtain ⟨a, cap, h1, h2, h4⟩ := hro
    refine ⟨a, cap, by rw [hn, ← hlen]; exact h1, fun hn => List.eq_nil_of_length_eq_zero (by rw [← hlen, h2 hn]; rfl), fun ad had => ⟨fun hne => (h4 ad had).1 (fun e => hne (List.eq_nil_of_length_eq_zero (by rw [← hlen, e]; rfl))), fun i x hx => ?_⟩⟩
    have hi : i < us.length := by rw [hlen]; exact (List.getElem?_eq_some_iff.1 hx).1
    obtain ⟨u, hu⟩ : ∃ u, us[i]? = some u := ⟨us[i], by simp [hi]⟩
    obtain ⟨g1, g2, g3⟩ := h3 i u x hu hx
    have hbO : ad.block ∉ O := by
      rcases hown.2 with ⟨hv, _⟩ | ⟨g, cp, cur, hv, _⟩
      · rw [hv] at h1; have := h1.1; injection this with e1 _ _; rw [had] at e1; cases e1
      · rw [hv] at h1
        have : a = some ⟨g, 0, none⟩ := by have := h1.1; injection this with e1 _ _; exact e1.symm
        rw [this] at had; cases had
        exact Vp hm hO (Y1 hf) (by simp [Res.block, hv, Value.ownBlock])
    have c0 := (h4 ad had).2 i u hu 0 (.str u.name) rfl
    have c1 := (h4 ad had).2 i u hu 1 (.raw (.slice u.la u.ln u.lc)) rfl
    simp only [Kd.sz, Nat.add_zero, At.den] at c0 c1
    rw [g1] at c0
    rw [g2.1] at c1
    exact ⟨⟨c0, hbO⟩, u.la, u.lc, ⟨⟨c1, hbO⟩, by rw [← g2.1]; exact g2.2⟩, sub g3⟩
  · rename_i E z e cs hf
    obtain ⟨rfl, h1, h2⟩ := h
    obtain ⟨b, hv, hlen, hb⟩ := hm.res _ _ (Yy (Y1 hf))
    refine ⟨some ⟨b, 0, none⟩, e, by rw [hn, hv, h2]; exact ⟨rfl, Nat.le_refl _⟩, (fun h => by cases h), fun ad had => ?_⟩
    cases had
    refine ⟨fun _ => rfl, fun i x hx => ?_⟩
    obtain ⟨y, g1, g2, g3⟩ := Js h1 hx
    have hbO : b ∉ O := Vp hm hO (Y1 hf) (by simp [Res.block, hv, Value.ownBlock])
    obtain ⟨a1, cap1, k1, k2, k3⟩ := (roA_O hm hO g3).lns
    refine ⟨⟨?_, hbO⟩, a1, cap1, ⟨⟨?_, hbO⟩, k2⟩, k3⟩
    · rw [cell_of_row w b _ _ E (0, 0) hb]; simp [g1, At.den]
    · rw [cell_of_row w b _ _ E (0, 0) hb]; simp [g2, k1]
  · exact h.elim
theorem roR_mem (hm : Mem c ρ S.res S.nx w) (hO : ∀ b ∈ O, ∃ m r, (m, r) ∈ S.res ∧ m ∈ ds ∧ r.block ρ m = some b) {w' : World} (hk : U3 O w w') (P : Program) (nt : Nat) : Mem ⟨P, w', [], nt, []⟩ ρ (roR (del S.res ds)) S.nx w' := by
  have hnone : ∀ R : List (Nat × Res), Zn ρ (roR R) = [] := by
    intro R
    induction R with
    | nil => rfl
    | cons p R ih =>
      obtain ⟨n, r⟩ := p
      cases r <;> simp only [roR] <;> first | exact ih | (unfold Zn at ih ⊢; rw [List.filterMap_cons]; simpa [Res.block] using ih)
  have hfrom : ∀ (R : List (Nat × Res)) (n : Nat) (r' : Res), (n, r') ∈ roR R → ∃ r, (n, r) ∈ R ∧ (n, r') ∈ roR [(n, r)] := by
    intro R
    induction R with
    | nil => intro n r' h; cases h
    | cons p R ih =>
      intro n r' h
      obtain ⟨m, s⟩ := p
      have tail : (n, r') ∈ roR R → ∃ r, (n, r) ∈ (m, s) :: R ∧ (n, r') ∈ roR [(n, r)] := fun h => by
        obtain ⟨r, h1, h2⟩ := ih n r' h
        exact ⟨r, List.mem_cons_of_mem _ h1, h2⟩
      cases s <;> simp only [roR] at h <;> first | exact tail h | exact (List.mem_cons.1 h).elim (fun e => by cases e; exact ⟨_, List.mem_cons_self .., by simp [roR]⟩) tail
  have hkeys : ∀ R : List (Nat × Res), List.Sublist ((roR R).map Prod.fst) (R.map Prod.fst) := by
    intro R
    induction R with
    | nil => exact List.Sublist.refl _
    | cons p R ih =>
      obtain ⟨m, s⟩ := p
      cases s <;> simp only [roR, List.map_cons] <;> first | exact ih.cons_cons _ | exact ih.cons _
  have hblk : ∀ {b : Nat} {o : Obj}, w.heap[b]? = some o → b ∉ O → w'.heap[b]? = some o := fun h1 h2 => hk _ _ h1 h2
  have hcell : ∀ {a : Addr} {v : Value}, w.cell? a = some v → a.block ∉ O → w'.cell? a = some v := fun h1 h2 => Sp hk h1 h2
  refine ⟨rfl, rfl, rfl, Nat.le_refl _, fun _ _ _ => rfl, hm.one, List.Nodup.sublist (hkeys _) (Qz hm.keys), ?_, ?_, by rw [hnone]; exact List.nodup_nil, fun b hb => by rw [hnone] at hb; cases hb⟩
  · intro n r' hr'
    rw [hnone]
    obtain ⟨r, h1, h2⟩ := hfrom _ n r' hr'
    have hh := hm.res _ _ (Yy h1)
    have same : ∀ {r : Res}, r.holds ρ (Zn ρ S.res) n w → (n, r) ∈ S.res → (∀ E l, r ≠ .cells E l) → (∀ E k l, r ≠ .row E k l) → (∀ E z e l, r ≠ .lit E z e l) → (∀ P K E k f q, r ≠ .smap P K E k f q) → (∀ b E l, r ≠ .urow b E l) → (∀ l, r ≠ .fmap l) → (∀ m q s, r ≠ .fiter m q s) → r.holds ρ [] n w' := by
      intro r h hin n1 n2 n3 n4 n5 n6 n7
      refine Res.carry (nx := S.nx) (ρ := ρ) (O := Zn ρ S.res) (D := O) (fun _ _ => rfl) (hm.bdr _ _ hin).1 (hm.bdr _ _ hin).2 hk (fun b hb => ?_) (fun b hb => ?_) (fun b hb => nomatch hb) h
      · obtain ⟨m', r', g1, g2, g3⟩ := hO b hb
        exact List.mem_filterMap.2 ⟨_, g1, g3⟩
      · cases r <;> simp only [Res.block, reduceCtorEq] at hb
        · exact absurd rfl (n1 _ _)
        · exact absurd rfl (n2 _ _ _)
        · exact absurd rfl (n3 _ _ _ _)
        · exact absurd rfl (n4 _ _ _ _ _ _)
        · exact absurd rfl (n5 _ _ _)
        · exact absurd rfl (n6 _)
        · exact absurd rfl (n7 _ _ _)
    cases r with
    | cells E l =>
      simp only [roR, List.mem_singleton, Prod.mk.injEq, true_and] at h2
      subst h2
      obtain ⟨b, hv, hb⟩ := hh
      have hbO : b ∉ O := Vp hm hO h1 (by simp [Res.block, hv])
      refine ⟨⟨b, 0, none⟩, hv, fun j u hu => ⟨?_, by simp⟩⟩
      rw [cell_of_row w' b _ _ E (0, 0) (hblk hb hbO)]
      simp [hu]
    | row E k l =>
      simp only [roR, List.mem_singleton, Prod.mk.injEq, true_and] at h2
      subst h2
      obtain ⟨a, cap, g1, g2, g3⟩ := Lp hm hO h1
      exact RoO.holds ⟨a, cap, g1, g2, fun ad had => ⟨(g3 ad had).1, fun i x hx j u hu => let ⟨q1, q2⟩ := (g3 ad had).2 i x hx j u hu; ⟨hcell q1 q2, by simp⟩⟩⟩
    | lit E z e l => simp [roR] at h2
    | fmap l => simp [roR] at h2
    | fiter m q seen => simp [roR] at h2
    | smap P K E k f q =>
      simp only [roR, List.mem_singleton, Prod.mk.injEq, true_and] at h2
      subst h2
      obtain ⟨b, es, clock, g1, g2, g3⟩ := hh
      exact ⟨b, es, clock, g1, ⟨hblk g2 (Vp hm hO h1 (by simp [Res.block, g1])), by simp⟩, g3⟩
    | urow base E l =>
      simp only [roR, List.mem_singleton, Prod.mk.injEq, true_and] at h2
      subst h2
      have hfind : Z1 (del S.res ds) n = some (.urow base E l) := by
        have hkk := Qz (ds := ds) hm.keys
        clear hr' hfrom hnone hkeys
        generalize del S.res ds = R at h1 hkk
        induction R with
        | nil => cases h1
        | cons p R ih =>
          obtain ⟨m, s⟩ := p
          simp only [List.map_cons, List.nodup_cons] at hkk
          rcases List.mem_cons.1 h1 with e | h1
          · cases e; simp [Z1]
          · simp only [Z1]
            rw [if_neg (fun e => hkk.1 (by rw [e]; exact List.mem_map.2 ⟨_, h1, rfl⟩))]
            exact ih h1 hkk.2
      have := Dl hm hO (m := n) (l := l) (by unfold Fp; simp [St.find, hfind]) (ρ' := ρ) (n := n) rfl
      obtain ⟨a, cap, g1, g2, g3⟩ := this
      refine ⟨a, cap, g1, g2, fun ad had => ⟨(g3 ad had).1, fun i x hx => ?_⟩⟩
      obtain ⟨q1, a1, cap1, q2, q3⟩ := (g3 ad had).2 i x hx
      exact ⟨⟨hcell q1.1 q1.2, by simp⟩, a1, cap1, ⟨⟨hcell q2.1.1 q2.1.2, by simp⟩, q2.2⟩, ⟨q3.1, fun ad1 had1 => ⟨(q3.2 ad1 had1).1, fun j y hy q u hu => let ⟨z1, z2, z3⟩ := (q3.2 ad1 had1).2 j y hy q u hu; ⟨hcell z1 z2, by simp, z3⟩⟩⟩⟩
    | _ =>
      simp only [roR, List.mem_singleton, Prod.mk.injEq, true_and] at h2
      subst h2
      exact same hh (Yy h1) (by simp) (by simp) (by simp) (by simp) (by simp) (by simp) (by simp)
  · intro n r' hr'
    obtain ⟨r, h1, h2⟩ := hfrom _ n r' hr'
    have hb := hm.bdr _ _ (Yy h1)
    refine ⟨hb.1, ?_⟩
    cases r <;> simp only [roR, List.mem_singleton, List.not_mem_nil, Prod.mk.injEq, true_and] at h2 <;> (try (subst h2; first | exact hb.2 | trivial))
end
end Vc
end Go.Proofs.YtjochhncheheaaaGreatDoor
namespace Go.Proofs.YtjochhncheheaaaGreatDoor
namespace Vc
open Go.RowKit
set_option linter.unusedVariables false
set_option linter.unusedSimpArgs false
@[reducible] def Bnd := List (Nat × At)
def V3 : At → At → Bnd → Bnd
  | .ref n, x, b => (n, x) :: b
  | .loc n 0, .loc m 0, b => (n, .ref m) :: b
  | .loc n 0, x, b => (n, x) :: b
  | _, _, b => b
def Uq : List At → List At → Bnd → Bnd
  | x :: l, y :: m, b => Uq l m (V3 x y b)
  | _, _, b => b
def Te : S1 → S1 → Bnd → Bnd
  | .a x, .a y, b => V3 x y b
  | .agg l, .agg m, b => Uq l m b
  | _, _, b => b
def Wx : List S1 → List S1 → Bnd → Bnd
  | x :: l, y :: m, b => Wx l m (Te x y b)
  | _, _, b => b
def Tt : SV → SV → Bnd → Bnd
  | .one x, .one y, b => Te x y b
  | .tup l, .tup m, b => Wx l m b
  | .opt _ x, .opt _ y, b => Te x y b
  | _, _, b => b
def X2 (S : St) (r : Res) (x : Option At) (b : Bnd) : Bnd :=
  match r, x with
  | .cells _ cs, some (.ref m) => (match S.find m with
    | some (.cells _ cs') => Uq cs cs' b
    | _ => b)
  | .lit _ _ _ cs, some (.ref m) => (match S.find m with
    | some (.lit _ _ _ cs') => Uq cs cs' b
    | _ => b)
  | .rocells cs, some (.ref m) => (match S.find m with
    | some (.cells _ cs') => Uq cs cs' b
    | some (.rocells cs') => Uq cs cs' b
    | _ => b)
  | .rocells cs, some (.loc m o) => (match S.find m with
    | some (.cells _ cs') => Uq cs (cs'.drop o) b
    | some (.rocells cs') => Uq cs (cs'.drop o) b
    | _ => b)
  | _, _ => b
def Uf (S : St) : List (Nat × Res) → Bnd → Bnd
  | [], b => b
  | (n, r) :: l, b => Uf S l (X2 S r (Z1 b n) b)
def Ng (S : St) : Nat → List Nat → Bnd → Bnd
  | _, [], b => b
  | i, k :: l, b => Ng S (i + 1) l (match S.get i with
    | some (.one (.a x)) => (k, x) :: b
    | _ => b)
def sg (b : Bnd) (n : Nat) : At := match Z1 b n with
  | some (.raw v) => if v.oneCell' = true then .raw v else .raw Xe
  | some x => x
  | none => .raw Xe
theorem Ec (b : Bnd) (n : Nat) {ρ : Env} (h : ∀ n, (ρ n).oneCell' = true) : ((sg b n).den ρ).oneCell' = true := by
  unfold sg
  split
  · split
    · assumption
    · rfl
  · rename_i x hx hl
    cases x with
    | raw v => exact absurd rfl (hx v)
    | ref m => exact h m
    | loc m o => exact Jz _ _
    | elt m sz i j => exact Ie _ _
    | _ => rfl
  · rfl
def Yr (p : Nat → Prop) : List S1 → Prop
  | [] => True
  | x :: l => x.okN p ∧ Yr p l
def Yp (p : Nat → Prop) : List (Nat × Res) → Prop
  | [] => True
  | (n, r) :: l => (p n ∧ r.okN p) ∧ Yp p l
def Zw : List (Nat × Res) → Bool
  | [] => true
  | (_, r) :: l => r.outOk && Zw l
def Zp (R : List (Nat × Res)) : List Nat → Prop
  | [] => True
  | k :: l => (match Z1 R k with | some r => r.own = true | none => False) ∧ Zp R l
theorem Ny {p : Nat → Prop} : ∀ {l : List S1}, Yr p l → ∀ x ∈ l, x.okN p
  | y :: l, h, x, hx => by
    rcases List.mem_cons.1 hx with rfl | hx
    · exact h.1
    · exact Ny h.2 x hx
theorem Xt {p : Nat → Prop} : ∀ {l : List (Nat × Res)}, Yp p l → ∀ n r, (n, r) ∈ l → p n ∧ r.okN p
  | (m, s) :: l, h, n, r, hx => by
    rcases List.mem_cons.1 hx with e | hx
    · cases e; exact h.1
    · exact Xt h.2 n r hx
theorem U9 : ∀ {l : List (Nat × Res)}, Zw l = true → ∀ n r, (n, r) ∈ l → r.outOk = true
  | (m, s) :: l, h, n, r, hx => by
    simp only [Zw, Bool.and_eq_true] at h
    rcases List.mem_cons.1 hx with e | hx
    · cases e; exact h.1
    · exact U9 h.2 n r hx
theorem Ug {R : List (Nat × Res)} : ∀ {l : List Nat}, Zp R l → ∀ n ∈ l, ∃ r, (n, r) ∈ R ∧ r.own = true
  | k :: l, h, n, hn => by
    rcases List.mem_cons.1 hn with rfl | hn
    · have := h.1
      split at this
      · rename_i r hr; exact ⟨r, Y1 hr, this⟩
      · exact this.elim
    · exact Ug h.2 n hn
theorem Gn {r : Res} (h : r.outOk = true) : r.own = true := by cases r <;> simp_all [Res.outOk, Res.own]
def Yo (args : List S1) (R : List (Nat × Res)) (nx : Nat) (keep : List Nat) (v : SV) (R' : List (Nat × Res)) (nx' : Nat) : Prop :=
  Yr (fun n => n < nx) args ∧ Yp (fun n => n < nx) R ∧ (R.map Prod.fst).Nodup ∧ Zp R keep ∧ v.okN (fun n => (n ∈ keep ∨ nx ≤ n) ∧ n < nx') ∧ Yp (fun n => (n ∈ keep ∨ nx ≤ n) ∧ n < nx') R' ∧ (R'.map Prod.fst).Nodup ∧ Zw R' = true ∧ nx ≤ nx'
structure GC (P : Program) (f : Nat) (args : List S1) (R : List (Nat × Res)) (nx : Nat) (keep : List Nat) (v : SV) (R' : List (Nat × Res)) (nx' : Nat) : Prop where
  wf : Yo args R nx keep v R' nx'
  run : ∀ ρ w, Mem ⟨P, w, Zn ρ R, 0, []⟩ ρ R nx w → Calls P f (args.map (S1.den ρ)).toArray w fun e w' => ∃ ρ', (∀ n ∈ keep, ρ' n = ρ n) ∧ e = .returned (v.den ρ') ∧ Mem ⟨P, w, Zn ρ R, 0, []⟩ ρ' R' nx' w'
def X3 (G : Nat) (H : Nat → Option Obj) (w : World) (X : List Nat) : Prop := G ≤ w.heap.size ∧ (∀ b, b < G → w.heap[b]? = H b) ∧ ∀ b ∈ X, G ≤ b
theorem X3.zero (H : Nat → Option Obj) (w : World) (X : List Nat) : X3 0 H w X := ⟨Nat.zero_le _, fun b hb => by omega, fun b _ => Nat.zero_le _⟩
structure GCp (G : Nat) (H : Nat → Option Obj) (P : Program) (f : Nat) (args : List S1) (R : List (Nat × Res)) (nx : Nat) (keep : List Nat) (v : SV) (R' : List (Nat × Res)) (nx' : Nat) : Prop where
  wf : Yo args R nx keep v R' nx'
  run : ∀ ρ w, Mem ⟨P, w, Zn ρ R, 0, []⟩ ρ R nx w → X3 G H w (Zn ρ R) → Calls P f (args.map (S1.den ρ)).toArray w fun e w' => ∃ ρ', (∀ n ∈ keep, ρ' n = ρ n) ∧ e = .returned (v.den ρ') ∧ Mem ⟨P, w, Zn ρ R, 0, []⟩ ρ' R' nx' w'
theorem GC.gcp {G : Nat} {H : Nat → Option Obj} {P : Program} {f : Nat} {args : List S1} {R : List (Nat × Res)} {nx : Nat} {keep : List Nat} {v : SV} {R' : List (Nat × Res)} {nx' : Nat} (h : GC P f args R nx keep v R' nx') : GCp G H P f args R nx keep v R' nx' :=
  ⟨h.wf, fun ρ w hm _ => h.run ρ w hm⟩
theorem GCp.gc {H : Nat → Option Obj} {P : Program} {f : Nat} {args : List S1} {R : List (Nat × Res)} {nx : Nat} {keep : List Nat} {v : SV} {R' : List (Nat × Res)} {nx' : Nat} (h : GCp 0 H P f args R nx keep v R' nx') : GC P f args R nx keep v R' nx' :=
  ⟨h.wf, fun ρ w hm => h.run ρ w hm (X3.zero H w _)⟩
theorem Mem.cx {P : Program} {w0 w : World} {X : List Nat} {nt nt' : Nat} {fr fr' : List Value} {ρ : Env} {R : List (Nat × Res)} {nx : Nat} (h : Mem ⟨P, w0, X, nt, fr⟩ ρ R nx w) : Mem ⟨P, w0, X, nt', fr'⟩ ρ R nx w :=
  ⟨h.os, h.tape, h.output, h.size, h.block, h.one, h.keys, h.res, h.bdr, h.nodup, h.lt⟩
theorem Gb {σ : Nat → At} {ρ ρ' : Env} {O O' : List Nat} {n m : Nat} {w : World} {r : Res} {p : Nat → Prop} (hσ : ∀ n, p n → (σ n).den ρ = ρ' n) (hn : ρ' n = ρ m) (hok : r.okN p) (ho : r.own = true) (hO : ∀ b ∈ O', b ∈ O)
    (h : (r.sub σ).holds ρ O m w) : r.holds ρ' O' n w := by
  cases r <;> simp only [Res.own, Bool.false_eq_true] at ho
  case cells E l =>
    obtain ⟨b, h1, h2⟩ := h
    exact ⟨b, by rw [hn]; exact h1, by rw [← Uj hσ hok]; exact h2⟩
  case lit E sz e l =>
    obtain ⟨b, h1, h2, h3⟩ := h
    exact ⟨b, by rw [hn]; exact h1, by simpa using h2, by rw [← Uj hσ hok]; exact h3⟩
  case row E k l =>
    simp only [Res.sub, Res.holds] at h ⊢
    rw [hn, k.encs_den l ρ ρ']; exact h
  case smap P K E k f q =>
    simp only [Res.sub, Res.holds] at h ⊢
    rw [hn]; exact h
  case urow base E l =>
    obtain ⟨us, h1, h2, h3⟩ := h
    exact ⟨us, h1, by rw [hn]; exact h2, fun i u x hu hx => ⟨(h3 i u x hu hx).1, (h3 i u x hu hx).2.1, (h3 i u x hu hx).2.2.sub hO⟩⟩
  case fmap l =>
    obtain ⟨b, h1, h2⟩ := h
    exact ⟨b, by rw [hn]; exact h1, h2⟩
  case fiter m q seen => exact hok.elim
theorem Pe {σ : Nat → At} {ρ ρ' : Env} {n m : Nat} {r : Res} (hn : ρ' n = ρ m) : (r.sub σ).block ρ m = r.block ρ' n := by
  cases r <;> simp only [Res.sub, Res.block, hn]
theorem Tz {ρ : Env} {n b : Nat} {r : Res} (h : r.block ρ n = some b) : r.own = true := by
  cases r <;> simp_all [Res.block, Res.own]
def frS : Nat → List Nat → List (Nat × SV)
  | _, [] => []
  | i, k :: l => (i, .one (.a (.ref k))) :: frS (i + 1) l
def O2 (S : St) (τ : Nat → At) : Nat → List Nat → Prop
  | _, [] => True
  | i, k :: l => (match τ k with | .ref m => S.get i = some (.one (.a (.ref m))) | _ => False) ∧ O2 S τ (i + 1) l
def Sx (S : St) (τ : Nat → At) (r : Res) : At → Prop
  | .ref m => S.find m = some (r.sub τ)
  | .raw (.slice none 0 0) => (match r with | .row _ _ l => l = [] | _ => False)
  | _ => False
def Nb (S : St) (τ : Nat → At) : List (Nat × Res) → Prop
  | [] => True
  | (n, r) :: l => Sx S τ r (τ n) ∧ Nb S τ l
theorem Pm {S : St} {τ : Nat → At} : ∀ {l : List (Nat × Res)}, Nb S τ l → ∀ n r, (n, r) ∈ l → Sx S τ r (τ n)
  | (m, s) :: l, h, n, r, hx => by
    rcases List.mem_cons.1 hx with e | hx
    · cases e; exact h.1
    · exact Pm h.2 n r hx
def endP (keep : List Nat) (v : SV) (R' : List (Nat × Res)) (u : SV) (S : St) (τ : Nat → At) : Prop :=
  u = v.sub τ ∧ O2 S τ 1000000 keep ∧ Nb S τ R' ∧ (X7 τ R').Nodup
def F7 (keep : List Nat) (v : SV) (R' : List (Nat × Res)) (u : SV) (S : St) : Prop :=
  endP keep v R' u S (sg (Uf S R' (Tt v u (Ng S 1000000 keep []))))
theorem Gd : ∀ {l : List Nat} {i t : Nat} {v : SV}, Z1 (frS i l) t = some v → ∃ j k, t = i + j ∧ l[j]? = some k ∧ v = .one (.a (.ref k))
  | k :: l, i, t, v, h => by
    rcases look_cons h with ⟨rfl, rfl⟩ | ⟨_, h⟩
    · exact ⟨0, k, rfl, rfl, rfl⟩
    · obtain ⟨j, q, h1, h2, h3⟩ := Gd h
      exact ⟨j + 1, q, by omega, h2, h3⟩
theorem Mu {S : St} {τ : Nat → At} : ∀ {l : List Nat} {i j k : Nat}, O2 S τ i l → l[j]? = some k → ∃ m, τ k = .ref m ∧ S.get (i + j) = some (.one (.a (.ref m)))
  | q :: l, i, 0, k, h, hj => by
    simp at hj; subst hj
    have := h.1
    split at this
    · rename_i m hm; exact ⟨m, hm, this⟩
    · exact this.elim
  | q :: l, i, j + 1, k, h, hj => by
    obtain ⟨m, h1, h2⟩ := Mu h.2 (by simpa using hj)
    exact ⟨m, h1, by rw [← h2]; congr 1; omega⟩
theorem look_append {α : Type} {l m : List (Nat × α)} {t : Nat} {v : α} (h : Z1 (l ++ m) t = some v) : Z1 l t = some v ∨ Z1 m t = some v := by
  induction l with
  | nil => exact .inr h
  | cons p l ih =>
    rcases look_cons h with ⟨rfl, rfl⟩ | ⟨hne, h⟩
    · left; simp [Z1]
    · rcases ih h with h1 | h1
      · left; simp only [Z1]; rw [if_neg hne]; exact h1
      · exact .inr h1
theorem Body.callsF {P : Program} {f nt : Nat} {x : IC} {rl : List RV} (hF : Body P f nt x rl) {w : World} {X : List Nat} {fr : List Value} {args : Array Value} {S : St} {ρ : Env} {R : SV → St → Prop} {Post : Ending → World → Prop}
    (hlen : args.size ≤ nt) (hs : ∀ t v, S.get t = some v → (if t < BIG then args[t]? else fr[t - BIG]?) = some (v.den ρ) ∧ v.bd S.nx) (hm : Mem ⟨P, w, X, nt, fr⟩ ρ S.res S.nx w) (hT : T ⟨P, w, X, nt, fr⟩ x (Sz ⟨P, w, X, nt, fr⟩ rl R) S)
    (hpost : ∀ v S' ρ' w', R v S' → v.bd S'.nx → Mem ⟨P, w, X, nt, fr⟩ ρ' S'.res S'.nx w' → (∀ t u, S'.get t = some u → BIG ≤ t → fr[t - BIG]? = some (u.den ρ')) → Post (.returned (v.den ρ')) w') : Calls P f args w Post := by
  obtain ⟨fn, code, h1, h2, h3, h4, h5⟩ := hF.ok
  refine calls_of_wp h1 h2 ?_
  have hh : S.holds ⟨P, w, X, nt, fr⟩ ρ { tmps := args ++ Array.replicate (fn.ntmps - args.size) undef, defers := [] } w := by
    refine ⟨rfl, by simp [h3]; omega, hF.lown, fun t v hv => ?_, fun t v hv => (hs t v hv).2, hm⟩
    have := (hs t v hv).1
    unfold R4
    split
    rotate_left
    · rename_i hb; rwa [if_neg hb] at this
    rename_i hb
    rw [if_pos hb] at this
    have hlt : t < args.size := (Array.getElem?_eq_some_iff.1 this).1
    rw [Array.getElem?_append_left hlt]; exact this
  refine wp_mono (hT ρ _ w hh code h4) fun e a' w' hl => ?_
  obtain ⟨S', ρ', g1, g2⟩ := hl
  have fin : (match rvs S' rl with | some vs => R (N5 vs) S' | none => False) → a'.defers = [] ∧ ∃ v, (results fn a'.tmps).run P w' = .ok v w' ∧ Post (.returned v) w' := by
    intro h
    split at h
    · rename_i vs hvs
      obtain ⟨r1, r2⟩ := R5 g1 h5 hvs
      refine ⟨g1.nodef, _, r1, hpost _ _ _ _ h r2 g1.mem fun t u hu hb => ?_⟩
      have := g1.slot t u hu
      unfold R4 at this
      rwa [if_neg (by omega)] at this
    · exact h.elim
  cases e with
  | normal => exact fin g2
  | ret => exact fin g2
  | _ => exact g2.elim
theorem Body.gcp {G : Nat} {H : Nat → Option Obj} {P : Program} {f nt : Nat} {x : IC} {rl : List RV} (hF : Body P f nt x rl) {args : List S1} {R : List (Nat × Res)} {nx : Nat} {keep : List Nat} {v : SV} {R' : List (Nat × Res)} {nx' : Nat}
    (hlen : args.length ≤ nt) (hwf : Yo args R nx keep v R' nx')
    (hT : ∀ w X fr, X3 G H w X → T ⟨P, w, X, nt, fr⟩ x (Sz ⟨P, w, X, nt, fr⟩ rl (F7 keep v R')) ⟨Xi 0 args ++ frS 1000000 keep, R, nx⟩) : GCp G H P f args R nx keep v R' nx' := by
  refine ⟨hwf, fun ρ w hm hglob => ?_⟩
  obtain ⟨w1, w2, w3, w4, w5, w6, w7, w8, w9⟩ := hwf
  refine hF.callsF (S := ⟨Xi 0 args ++ frS 1000000 keep, R, nx⟩) (ρ := ρ) (X := Zn ρ R) (fr := keep.map ρ) (R := F7 keep v R') (by simpa using hlen) (fun t u hu => ?_) hm.cx (hT _ _ _ hglob) fun u S' ρ' w' hend hub hm' hfr => ?_
  · rcases look_append hu with hu | hu
    · obtain ⟨j, h1, h2, h3⟩ := Us (ρ := ρ) (nx := nx) (fun v hv => S1.okN_bd (Ny w1 v hv)) hu
      simp only [Nat.zero_add] at h1
      subst h1
      have hjl : t < BIG := by
        have := (List.getElem?_eq_some_iff.1 h2).1
        have h4 := hF.lown
        simp only [List.length_map] at this
        omega
      exact ⟨by rw [if_pos hjl]; simpa using h2, h3⟩
    · obtain ⟨j, k, h1, h2, rfl⟩ := Gd hu
      obtain ⟨r, h3, _⟩ := Ug w4 k (List.mem_of_getElem? h2)
      refine ⟨?_, (Xt w2 k r h3).1⟩
      have hb : ¬ t < BIG := by show ¬ t < 1000000; omega
      rw [if_neg hb]
      have : t - BIG = j := by show t - 1000000 = j; omega
      rw [this, List.getElem?_map, h2]; rfl
  · obtain ⟨e1, e2, e3, e4⟩ := hend
    generalize hτ : sg (Uf S' R' (Tt v u (Ng S' 1000000 keep []))) = τ at e1 e2 e3 e4
    have hone : ∀ n, ((τ n).den ρ').oneCell' = true := fun n => by rw [← hτ]; exact Ec _ n hm'.one
    have hT : ∀ n, True → (τ n).den ρ' = (fun n => (τ n).den ρ') n := fun n _ => rfl
    have hok : ∀ n r, (n, r) ∈ R' → r.okN fun _ => True := fun n r hr => by
      have := (Xt w6 n r hr).2
      have hout := U9 w8 n r hr
      cases r <;> simp only [Res.outOk, Bool.false_eq_true] at hout <;> first | trivial | exact fun y hy => At.okN_mono (fun _ _ => trivial) (this y hy)
    have hown : ∀ n r b, (n, r) ∈ R' → r.block (fun n => (τ n).den ρ') n = some b → ∃ m, τ n = .ref m ∧ (m, r.sub τ) ∈ S'.res ∧ (r.sub τ).block ρ' m = some b := fun n r b hr hb => by
      have h1 := Pm e3 n r hr
      unfold Sx at h1
      split at h1
      · rename_i m hm2
        refine ⟨m, hm2, Zd h1, ?_⟩
        rw [Pe (ρ' := fun n => (τ n).den ρ') (n := n) (by simp only [hm2, At.den])]
        exact hb
      · rename_i hm2
        split at h1
        · simp only [Res.block, hm2, At.den, Value.ownBlock] at hb; cases hb
        · exact h1.elim
      · exact h1.elim
    have hsub : ∀ b ∈ Zn (fun n => (τ n).den ρ') R', b ∈ Zn ρ' S'.res := fun b hb => by
      obtain ⟨p, hp, hpb⟩ := List.mem_filterMap.1 hb
      obtain ⟨m, h1, h2, h3⟩ := hown p.1 p.2 b hp hpb
      exact List.mem_filterMap.2 ⟨_, h2, h3⟩
    refine ⟨fun n => (τ n).den ρ', fun n hn => ?_, ?_, hm'.os, hm'.tape, hm'.output, hm'.size, hm'.block, hone, w7, fun n r hr => ?_, fun n r hr => ?_, ?_, fun b hb => hm'.lt b (hsub b hb)⟩
    · obtain ⟨j, hj⟩ := List.getElem?_of_mem hn
      obtain ⟨m, h1, h2⟩ := Mu e2 hj
      have := hfr _ _ h2 (by show 1000000 ≤ 1000000 + j; omega)
      have h4 : 1000000 + j - BIG = j := by show 1000000 + j - 1000000 = j; omega
      rw [h4, List.getElem?_map, hj] at this
      simp only [Option.map_some, Option.some.injEq, SV.den, S1.den, At.den] at this
      simp only [h1, At.den]
      exact this.symm
    · rw [e1]
      congr 1
      refine SV.sub_den (p := fun n => (n ∈ keep ∨ nx ≤ n) ∧ n < nx') (fun n _ => rfl) w5
    · have h1 := Pm e3 n r hr
      unfold Sx at h1
      split at h1
      · rename_i m hm2
        exact Gb (p := fun _ => True) hT (by simp only [hm2, At.den]) (hok n r hr) (Gn (U9 w8 n r hr)) hsub (hm'.res _ _ (Zd h1))
      · rename_i hm2
        split at h1
        · rename_i E k l
          subst h1
          simp only [Res.holds, hm2, At.den]
          exact World.ownsRow_nil w' 0 E k.sz
        · exact h1.elim
      · exact h1.elim
    · obtain ⟨h1, h2⟩ := Xt w6 n r hr
      refine ⟨h1.2, ?_⟩
      have hout := U9 w8 n r hr
      cases r <;> simp only [Res.outOk, Bool.false_eq_true] at hout <;> first | trivial | exact fun y hy => At.okN_bd (At.okN_mono (fun _ h => h.2) (h2 y hy))
    · have key : ∀ (l : List (Nat × Res)), (∀ p ∈ l, p ∈ R') → (l.map Prod.fst).Nodup → (Zn (fun n => (τ n).den ρ') l).Nodup := by
        intro l
        induction l with
        | nil => intro _ _; exact List.nodup_nil
        | cons p l ih =>
          intro hin hnd
          simp only [List.map_cons, List.nodup_cons] at hnd
          have ih' := ih (fun q hq => hin q (by simp [hq])) hnd.2
          unfold Zn
          rw [List.filterMap_cons]
          split
          · exact ih'
          · rename_i b hb
            refine List.nodup_cons.2 ⟨fun hmem2 => ?_, ih'⟩
            obtain ⟨q, hq, hqb⟩ := List.mem_filterMap.1 hmem2
            obtain ⟨m1, a1, a2, a3⟩ := hown p.1 p.2 b (hin p (by simp)) hb
            obtain ⟨m2, b1, b2, b3⟩ := hown q.1 q.2 b (hin q (by simp [hq])) hqb
            have hne : m2 ≠ m1 := fun e => by
              have := Ps e4 (hin p (by simp)) (hin q (by simp [hq])) (Tz hb) (Tz hqb) a1 (e ▸ b1)
              exact hnd.1 (by rw [this]; exact List.mem_map.2 ⟨q, hq, rfl⟩)
            have h5 := Yb (ds := [m1]) hm'.keys hm'.nodup a2 (by simp) a3
            exact h5 (List.mem_filterMap.2 ⟨_, List.mem_filter.2 ⟨b2, by simp [hne]⟩, b3⟩)
      exact key R' (fun _ h => h) w7
theorem Body.gc {P : Program} {f nt : Nat} {x : IC} {rl : List RV} (hF : Body P f nt x rl) {args : List S1} {R : List (Nat × Res)} {nx : Nat} {keep : List Nat} {v : SV} {R' : List (Nat × Res)} {nx' : Nat}
    (hlen : args.length ≤ nt) (hwf : Yo args R nx keep v R' nx')
    (hT : ∀ w X fr, T ⟨P, w, X, nt, fr⟩ x (Sz ⟨P, w, X, nt, fr⟩ rl (F7 keep v R')) ⟨Xi 0 args ++ frS 1000000 keep, R, nx⟩) : GC P f args R nx keep v R' nx' :=
  GCp.gc (H := fun _ => none) (hF.gcp hlen hwf fun w X fr _ => hT w X fr)
theorem GCp.plain {G : Nat} {H : Nat → Option Obj} {P : Program} {f : Nat} {args : List S1} {v : SV} (hb : ∀ x ∈ args, x.bd 0) (hv : v.bd 0) (hwf : Yo args [] 0 [] v [] 0)
    (h : ∀ w, X3 G H w [] → Calls P f (args.map (S1.den Xm)).toArray w fun e w' => e = .returned (v.den Xm) ∧ Below w.heap.size w w') : GCp G H P f args [] 0 [] v [] 0 :=
  ⟨hwf, fun ρ w hm hg => by
    rw [S0 (ρ := ρ) hb]
    exact (h w hg).mono fun e w' ⟨he, hbl⟩ => ⟨ρ, (fun n hn => nomatch hn), by rw [he, SV.den_same (nx := 0) (ρ := Xm) (ρ' := ρ) (fun n hn => by omega) hv], hm.below hbl⟩⟩
end Vc
end Go.Proofs.YtjochhncheheaaaGreatDoor
namespace Go.Proofs.YtjochhncheheaaaGreatDoor
namespace Vc
open Go.RowKit
set_option linter.unusedVariables false
set_option linter.unusedSimpArgs false
def Lg (P' : Program) (S : St) (σ : Nat → At) (args args' : List S1) (R : List (Nat × Res)) : Prop :=
  args' = args.map (S1.sub σ) ∧ Hg P' S ⟨S.slots, del S.res (X7 σ R), S.nx⟩ σ R ∧ (X7 σ R).Nodup
def Tk (σ : Nat → At) (nx snx : Nat) (n : Nat) : At := if n < nx then σ n else .ref (snx + (n - nx))
def Q3 (σ : Nat → At) : List (Nat × Res) → List (Nat × Res)
  | [] => []
  | (n, r) :: l => (Ni (σ n), r.sub σ) :: Q3 σ l
def Ki (S : St) (σ : Nat → At) (R R' : List (Nat × Res)) (nx nx' : Nat) : St := ⟨S.slots, Q3 (Tk σ nx S.nx) R' ++ del S.res (X7 σ R), S.nx + (nx' - nx)⟩
theorem Hi.at {c : Cx} {S : St} {ρ : Env} {w : World} {ds O : List Nat} (hm : Mem c ρ S.res S.nx w) (hO : ∀ b ∈ O, ∃ m r, (m, r) ∈ S.res ∧ m ∈ ds ∧ r.block ρ m = some b) {P : Program} {f : Nat} {ms : List Nat} {g : List S1 → Option SV}
    (h : Hi P (del S.res ds) S.nx f ms g) (hms : ∀ m ∈ ms, m < S.nx) {w' : World} (hk : U3 O w w') : FnAt P w' (.func (.func f) #[] (ms.map fun m => X1 (ρ m) 0).toArray) g := by
  obtain ⟨h1, nt, x, rl, hF, h2⟩ := h
  refine ⟨f, _, ⟨rfl, h1⟩, fun as r hr => ?_⟩
  obtain ⟨g1, g2, g3, g4⟩ := h2 as r hr
  have hb := Rv g1
  have e1 : (as.map (S1.den fun _ => Xe)).toArray ++ (ms.map fun m => X1 (ρ m) 0).toArray = ((as ++ ms.map fun m => S1.a (.loc m 0)).map (S1.den ρ)).toArray := by
    rw [← M8 (ρ := ρ) hb]
    simp only [List.map_append, List.map_map, List.append_toArray]; rfl
  rw [e1]
  refine hF.calls (S := ⟨Xi 0 (as ++ ms.map fun m => S1.a (.loc m 0)), roR (del S.res ds), S.nx⟩) (ρ := ρ) (X := []) (fr := []) (R := Fe r) (by simpa using g3) (fun t v hv => ?_) (roR_mem hm hO hk P nt).cx (g4 w') fun v S' ρ' w'' hv _ hm' => ⟨?_, hm'.toBelow⟩
  · obtain ⟨j, k1, k2, k3⟩ := Us (ρ := ρ) (nx := S.nx) (fun v hv => by
      rcases List.mem_append.1 hv with hv | hv
      · exact S1.bd_mono (Nat.zero_le _) (hb v hv)
      · obtain ⟨m, hm, rfl⟩ := List.mem_map.1 hv; exact hms m hm) hv
    simp only [Nat.zero_add] at k1
    subst k1
    have hjl : t < BIG := by
      have := (List.getElem?_eq_some_iff.1 k2).1
      have h4 := hF.lown
      simp only [List.length_map, List.length_append] at this
      omega
    exact ⟨by rw [if_pos hjl]; simpa using k2, k3⟩
  · rw [show v = r from hv, SV.den_same (nx := 0) (ρ := fun _ => Xe) (fun n hn => by omega) g2]
theorem romM_O {c : Cx} {S : St} {ρ : Env} {w : World} {ds O : List Nat} (hm : Mem c ρ S.res S.nx w) (hO : ∀ b ∈ O, ∃ m r, (m, r) ∈ S.res ∧ m ∈ ds ∧ r.block ρ m = some b) {m n : Nat} {P : Program} {K E : TypeId} {k : Kd} {f : List UInt8 → Option k.ty} {q : Nat}
    (h : Ek ⟨S.slots, del S.res ds, S.nx⟩ m (.rosmap P K E k f q)) {ρ' : Env} (hn : ρ' n = ρ m) : (Res.rosmap P K E k f q).holds ρ' O n w := by
  unfold Ek at h
  split at h
  · rename_i hf
    cases h
    obtain ⟨b, es, clock, h1, h2, h3⟩ := hm.res _ _ (Yy (Y1 hf))
    exact ⟨b, es, clock, by rw [hn]; exact h1, ⟨h2, Vp hm hO (Y1 hf) (by simp [Res.block, h1])⟩, h3⟩
  · rename_i hf
    cases h
    obtain ⟨b, es, clock, h1, h2, h3⟩ := hm.res _ _ (Yy (Y1 hf))
    exact ⟨b, es, clock, by rw [hn]; exact h1, ⟨h2.1, W7 hO h2.2⟩, h3⟩
  · exact h.elim
theorem rocM_O {c : Cx} {S : St} {ρ : Env} {w : World} {ds O : List Nat} (hm : Mem c ρ S.res S.nx w) (hO : ∀ b ∈ O, ∃ m r, (m, r) ∈ S.res ∧ m ∈ ds ∧ r.block ρ m = some b) {σ : Nat → At} {n : Nat} {l : List At}
    (h : Lv σ ⟨S.slots, del S.res ds, S.nx⟩ l (σ n)) (hok : ∀ x ∈ l, x.okN fun _ => True) : (Res.rocells l).holds (fun n => (σ n).den ρ) O n w := by
  have hsub : ∀ {u : At}, u ∈ l → (u.sub σ).den ρ = u.den fun n => (σ n).den ρ := fun hu => At.sub_den (p := fun _ => True) (fun n _ => rfl) (hok _ hu)
  unfold Lv at h
  split at h
  · rename_i m hσ
    split at h
    · rename_i E l' hf
      subst h
      obtain ⟨b, hv, hb⟩ := hm.res _ _ (Yy (Y1 hf))
      refine ⟨⟨b, 0, none⟩, by simp only [hσ, At.den, hv], fun j u hu => ⟨?_, Vp hm hO (Y1 hf) (by simp [Res.block, hv])⟩⟩
      rw [cell_of_row w b _ _ E (0, 0) hb, ← hsub (List.mem_of_getElem? hu)]
      simp [hu]
    · rename_i l' hf
      subst h
      obtain ⟨a, hv, hc⟩ := hm.res _ _ (Yy (Y1 hf))
      refine ⟨a, by simp only [hσ, At.den, hv], fun j u hu => ?_⟩
      obtain ⟨g1, g2⟩ := hc j (u.sub σ) (by simp [hu])
      exact ⟨by rw [g1, hsub (List.mem_of_getElem? hu)], W7 hO g2⟩
    · exact h.elim
  · rename_i m o hσ
    have hget : ∀ {l' : List At}, (l'.drop o).take l.length = l.map (At.sub σ) → ∀ {j : Nat} {u : At}, l[j]? = some u → l'[o + j]? = some (u.sub σ) := by
      intro l' h2 j u hu
      have := congrArg (fun z : List At => z[j]?) h2
      simp only [List.getElem?_take, List.getElem?_drop, List.getElem?_map, hu, Option.map_some] at this
      rwa [if_pos (List.getElem?_eq_some_iff.1 hu).1] at this
    split at h
    · rename_i E l' hf
      obtain ⟨b, hv, hb⟩ := hm.res _ _ (Yy (Y1 hf))
      refine ⟨⟨b, o, none⟩, by simp only [hσ, At.den, hv, X1, Nat.zero_add], fun j u hu => ⟨?_, Vp hm hO (Y1 hf) (by simp [Res.block, hv])⟩⟩
      rw [cell_of_row w b _ _ E (0, 0) hb, ← hsub (List.mem_of_getElem? hu)]
      simp [hget h.2 hu]
    · rename_i l' hf
      obtain ⟨a, hv, hc⟩ := hm.res _ _ (Yy (Y1 hf))
      refine ⟨⟨a.block, a.off + o, none⟩, by simp only [hσ, At.den, hv, X1], fun j u hu => ?_⟩
      obtain ⟨g1, g2⟩ := hc (o + j) _ (hget h.2 hu)
      exact ⟨by simp only [Nat.add_assoc]; rw [g1, hsub (List.mem_of_getElem? hu)], W7 hO g2⟩
    · exact h.elim
  · exact h.elim
theorem Gu {c : Cx} {S : St} {ρ : Env} {w : World} {ds O : List Nat} (hm : Mem c ρ S.res S.nx w) (hO : ∀ b ∈ O, ∃ m r, (m, r) ∈ S.res ∧ m ∈ ds ∧ r.block ρ m = some b) {σ : Nat → At} {n : Nat} {r : Res}
    (h : mtR c.P S ⟨S.slots, del S.res ds, S.nx⟩ σ n r) (hok : r.okN fun _ => True) : r.holds (fun n => (σ n).den ρ) O n w ∧ (r.own = true → ∃ m, σ n = .ref m ∧ (m, r.sub σ) ∈ S.res) := by
  have hOs : ∀ b ∈ O, b ∈ Zn ρ S.res := fun b hb => by
    obtain ⟨m', r', h1, h2, h3⟩ := hO b hb
    exact List.mem_filterMap.2 ⟨_, h1, h3⟩
  have own : ∀ {r' : Res}, r' = r.sub σ → r.own = true → Ok S r' (σ n) → r.holds (fun n => (σ n).den ρ) O n w ∧ (r.own = true → ∃ m, σ n = .ref m ∧ (m, r.sub σ) ∈ S.res) := by
    intro r' e ho h
    subst e
    unfold Ok at h
    split at h
    · rename_i m hσ
      exact ⟨Gb (p := fun _ => True) (fun n _ => rfl) (by simp only [hσ, At.den]) hok ho hOs (hm.res _ _ (Zd h)), fun _ => ⟨m, hσ, Zd h⟩⟩
    · exact h.elim
  cases r with
  | cells E l => exact own rfl rfl h
  | lit E sz e l => exact own rfl rfl h
  | row E k l => exact own rfl rfl h
  | smap P K E k f q => exact own rfl rfl h
  | urow b E l => exact own rfl rfl h
  | fmap l => exact own rfl rfl h
  | ro k l => exact ⟨RoO.holds (ρ := fun n => (σ n).den ρ) (roA_O hm hO h), fun h => by cases h⟩
  | rocells l => exact ⟨rocM_O hm hO h hok, fun h => by cases h⟩
  | rou l =>
    refine ⟨?_, fun h => by cases h⟩
    simp only [mtR] at h
    split at h
    · rename_i m hσ; exact Dl hm hO h (by simp only [hσ, At.den])
    · rename_i hσ
      subst h
      exact ⟨none, 0, by simp only [hσ, At.den]; exact ⟨rfl, Nat.le_refl _⟩, fun _ => rfl, fun ad had => by cases had⟩
    · exact h.elim
  | rosmap P K E k f q =>
    refine ⟨?_, fun h => by cases h⟩
    simp only [mtR] at h
    split at h
    · rename_i m hσ; exact romM_O hm hO h (by simp only [hσ, At.den])
    · exact h.elim
  | fn P g =>
    refine ⟨?_, fun h => by cases h⟩
    simp only [mtR] at h
    unfold fnM at h
    split at h
    · rename_i m hσ
      have hr := hm.res _ _ (Yy (Y1 h))
      intro w' hk
      simp only [hσ, At.den]
      exact hr w' fun b o hbo hb => hk b o hbo (W7 hO hb)
    · rename_i f ms hσ
      obtain ⟨rfl, h1, h2⟩ := h
      intro w' hk
      simp only [hσ, At.den]
      exact h2.at hm hO h1 hk
    · rename_i f _ _ hσ
      obtain ⟨rfl, ⟨rfl, rfl⟩, h2⟩ := h
      intro w' hk
      simp only [hσ, At.den]
      exact h2.at hm hO (fun m hm => nomatch hm) hk
    · exact h.elim
  | fact _ => exact h.elim
  | view _ _ _ _ => exact h.elim
  | fiter _ _ _ => exact h.elim
theorem E4 {p : Nat → Prop} {r : Res} (h : r.okN p) : r.okN fun _ => True := by
  cases r <;> first | trivial | exact h.elim | exact fun y hy => At.okN_mono (fun _ _ => trivial) (h y hy)
theorem Rc {σ : Nat → At} : ∀ {l : List (Nat × Res)} {p : Nat × Res}, p ∈ Q3 σ l → ∃ n r, (n, r) ∈ l ∧ p = (Ni (σ n), r.sub σ)
  | (m, s) :: l, p, h => by
    rcases List.mem_cons.1 h with e | h
    · exact ⟨m, s, List.mem_cons_self .., e⟩
    · obtain ⟨n, r, h1, h2⟩ := Rc h
      exact ⟨n, r, List.mem_cons_of_mem _ h1, h2⟩
theorem Za.gcpσ {G : Nat} {H : Nat → Option Obj} {c : Cx} (hglob : X3 G H c.w0 c.X) {f : Nat} {args args' : List S1} {S : St} {K : SV → St → Prop} {R : List (Nat × Res)} {nx : Nat} {keep : List Nat} {v : SV} {R' : List (Nat × Res)} {nx' : Nat} (h : GCp G H c.P f args R nx keep v R' nx') (b0 : Bnd)
    (hv : Lg c.P S (sg b0) args args' R) (hK : K (v.sub (Tk (sg b0) nx S.nx)) (Ki S (sg b0) R R' nx nx')) : Za c f args' S K := by
  intro ρ a w hh
  obtain ⟨⟨w1, w2, w3, w4, w5, w6, w7, w8, w9⟩, hrun⟩ := h
  obtain ⟨rfl, hmt, hnd⟩ := hv
  have hone : ∀ n, ((sg b0 n).den ρ).oneCell' = true := fun n => Ec b0 n hh.mem.one
  generalize hσ : sg b0 = σ at hmt hnd hK hone
  generalize hds : X7 σ R = ds at hmt hnd
  have hm := hh.mem
  have hR : ∀ n r O, (∀ b ∈ O, ∃ m r, (m, r) ∈ S.res ∧ m ∈ ds ∧ r.block ρ m = some b) → (n, r) ∈ R → r.holds (fun n => (σ n).den ρ) O n w ∧ (r.own = true → ∃ m, σ n = .ref m ∧ (m, r.sub σ) ∈ S.res) := fun n r O hO hr =>
    Gu hm hO (Jb hmt hr) (E4 (Xt w2 n r hr).2)
  have hownR : ∀ n r b, (n, r) ∈ R → r.block (fun n => (σ n).den ρ) n = some b → ∃ m, σ n = .ref m ∧ m ∈ ds ∧ (m, r.sub σ) ∈ S.res ∧ (r.sub σ).block ρ m = some b := fun n r b hr hb => by
    have ho := Tz hb
    obtain ⟨m, h1, h2⟩ := (hR n r [] (fun b hb => nomatch hb) hr).2 ho
    exact ⟨m, h1, by rw [← hds]; exact Ru hr ho h1, h2, by rw [Pe (ρ' := fun n => (σ n).den ρ) (n := n) (by simp only [h1, At.den])]; exact hb⟩
  have hOc : ∀ b ∈ Zn (fun n => (σ n).den ρ) R, ∃ m r, (m, r) ∈ S.res ∧ m ∈ ds ∧ r.block ρ m = some b := fun b hb => by
    obtain ⟨p, hp, hpb⟩ := List.mem_filterMap.1 hb
    obtain ⟨m, h1, h2, h3, h4⟩ := hownR p.1 p.2 b hp hpb
    exact ⟨m, _, h3, h2, h4⟩
  have hOcS : ∀ b ∈ Zn (fun n => (σ n).den ρ) R, b ∈ Zn ρ S.res := fun b hb => by
    obtain ⟨m, r, h1, _, h3⟩ := hOc b hb
    exact List.mem_filterMap.2 ⟨_, h1, h3⟩
  have hndo : ∀ (l : List (Nat × Res)), (∀ p ∈ l, p ∈ R) → (l.map Prod.fst).Nodup → (Zn (fun n => (σ n).den ρ) l).Nodup := by
    intro l
    induction l with
    | nil => intro _ _; exact List.nodup_nil
    | cons p l ih =>
      intro hin hkk
      simp only [List.map_cons, List.nodup_cons] at hkk
      have ih' := ih (fun q hq => hin q (by simp [hq])) hkk.2
      unfold Zn
      rw [List.filterMap_cons]
      split
      · exact ih'
      · rename_i b hb
        refine List.nodup_cons.2 ⟨fun hmem2 => ?_, ih'⟩
        obtain ⟨q, hq, hqb⟩ := List.mem_filterMap.1 hmem2
        obtain ⟨m1, a1, a2, a3, a4⟩ := hownR p.1 p.2 b (hin p (by simp)) hb
        obtain ⟨m2, b1, b2, b3, b4⟩ := hownR q.1 q.2 b (hin q (by simp [hq])) hqb
        have hne : m2 ≠ m1 := fun e => by
          have := Ps (R := R) (by rw [hds]; exact hnd) (hin p (by simp)) (hin q (by simp [hq])) (Tz hb) (Tz hqb) a1 (e ▸ b1)
          exact hkk.1 (by rw [this]; exact List.mem_map.2 ⟨q, hq, rfl⟩)
        have h5 := Yb (ds := [m1]) hm.keys hm.nodup a3 (by simp) a4
        exact h5 (List.mem_filterMap.2 ⟨_, List.mem_filter.2 ⟨b3, by simp [hne]⟩, b4⟩)
  have hmc : Mem ⟨c.P, w, Zn (fun n => (σ n).den ρ) R, 0, []⟩ (fun n => (σ n).den ρ) R nx w :=
    ⟨rfl, rfl, rfl, Nat.le_refl _, fun _ _ _ => rfl, hone, w3, fun n r hr => (hR n r _ hOc hr).1, fun n r hr => ⟨(Xt w2 n r hr).1, Res.okN_bd (Xt w2 n r hr).2⟩, hndo R (fun _ h => h) w3,
      fun b hb => ⟨(hm.lt b (hOcS b hb)).1, .inr hb⟩⟩
  have hargs : (args.map (S1.sub σ)).map (S1.den ρ) = args.map (S1.den fun n => (σ n).den ρ) := by
    rw [List.map_map]
    refine List.map_congr_left fun x hx => S1.sub_den (p := fun _ => True) (fun n _ => rfl) (S1.okN_mono (fun _ _ => trivial) (Ny w1 x hx))
  have hK' := hK
  rw [hargs]
  have hglob' : X3 G H w (Zn (fun n => (σ n).den ρ) R) := by
    obtain ⟨k1, k2, k3⟩ := hglob
    refine ⟨Nat.le_trans k1 hm.size, fun b hb => ?_, fun b hb => ?_⟩
    · rw [hm.block b (by omega) (fun hX => by have := k3 b hX; omega)]; exact k2 b hb
    · rcases (hm.lt b (hOcS b hb)).2 with h1 | h1
      · omega
      · exact k3 b h1
  refine (hrun _ w hmc hglob').mono ?_
  rintro e w' ⟨ρ', hkeep, rfl, hm'⟩
  let ρ2 : Env := fun m => if m < S.nx then ρ m else ρ' (nx + (m - S.nx))
  have hs2 : Tx S.nx ρ ρ2 := fun m hlt => if_pos hlt
  have hσk : ∀ n ∈ keep, ∃ m, σ n = .ref m ∧ m ∈ ds ∧ m < S.nx := fun n hn => by
    obtain ⟨r, h1, h2⟩ := Ug w4 n hn
    obtain ⟨m, h3, h4⟩ := (hR n r [] (fun b hb => nomatch hb) h1).2 h2
    exact ⟨m, h3, by rw [← hds]; exact Ru h1 h2 h3, (hm.bdr _ _ h4).1⟩
  have hσ' : ∀ n, ((n ∈ keep ∨ nx ≤ n) ∧ n < nx') → ∃ m, Tk σ nx S.nx n = .ref m ∧ ρ2 m = ρ' n ∧ m < S.nx + (nx' - nx) ∧ ((m ∈ ds ∧ m < S.nx ∧ n ∈ keep) ∨ (m = S.nx + (n - nx) ∧ nx ≤ n)) := fun n hn => by
    by_cases hlt : n < nx
    · have hk : n ∈ keep := hn.1.resolve_right (by omega)
      obtain ⟨m, h1, h2, h3⟩ := hσk n hk
      refine ⟨m, by unfold Tk; rw [if_pos hlt, h1], ?_, by omega, .inl ⟨h2, h3, hk⟩⟩
      rw [hs2 m h3, hkeep n hk, h1]; rfl
    · refine ⟨S.nx + (n - nx), by unfold Tk; rw [if_neg hlt], ?_, by omega, .inr ⟨rfl, by omega⟩⟩
      show (if S.nx + (n - nx) < S.nx then _ else _) = _
      rw [if_neg (by omega)]
      congr 1; omega
  have hden : ∀ n, ((n ∈ keep ∨ nx ≤ n) ∧ n < nx') → (Tk σ nx S.nx n).den ρ2 = ρ' n := fun n hn => by
    obtain ⟨m, h1, h2, _⟩ := hσ' n hn
    rw [h1]; exact h2
  have hbd : ∀ n, ((n ∈ keep ∨ nx ≤ n) ∧ n < nx') → (Tk σ nx S.nx n).bd (S.nx + (nx' - nx)) := fun n hn => by
    obtain ⟨m, h1, _, h3, _⟩ := hσ' n hn
    rw [h1]; exact h3
  have hD : ∀ b ∈ Zn (fun n => (σ n).den ρ) R, b ∈ Zn ρ S.res := hOcS
  have hkeeps : U3 (Zn (fun n => (σ n).den ρ) R) w w' := fun b o hb hbn => by
    have := hm'.block b (Array.getElem?_eq_some_iff.1 hb).1 hbn
    rw [this]; exact hb
  have hdelmem : ∀ n r, (n, r) ∈ del S.res ds → (n, r) ∈ S.res ∧ n ∉ ds := fun n r h => by
    have := List.mem_filter.1 h
    exact ⟨this.1, by simpa using this.2⟩
  have hown1 : ∀ l : List (Nat × Res), (∀ p ∈ l, p ∈ R') → Zn ρ2 (Q3 (Tk σ nx S.nx) l) = Zn ρ' l := by
    intro l
    induction l with
    | nil => intro _; rfl
    | cons p l ih =>
      intro hin
      obtain ⟨n, r⟩ := p
      obtain ⟨m, h1, h2, _⟩ := hσ' n (Xt w6 n r (hin _ (by simp))).1
      have e1 : (r.sub (Tk σ nx S.nx)).block ρ2 (Ni (Tk σ nx S.nx n)) = r.block ρ' n := by
        rw [h1]; exact Pe (by rw [← h2]; rfl)
      have e2 := ih fun q hq => hin q (by simp [hq])
      unfold Zn at e2 ⊢
      simp only [Q3, List.filterMap_cons, e1, e2]
  have hown2 : Zn ρ2 (del S.res ds) = Zn ρ (del S.res ds) := Tg hs2 fun n r hr => (hm.bdr n r (hdelmem n r hr).1).1
  have hownT : Zn ρ2 (Q3 (Tk σ nx S.nx) R' ++ del S.res ds) = Zn ρ' R' ++ Zn ρ (del S.res ds) := by
    have : ∀ A B : List (Nat × Res), Zn ρ2 (A ++ B) = Zn ρ2 A ++ Zn ρ2 B := fun A B => by unfold Zn; exact List.filterMap_append
    rw [this, hown1 R' (fun _ h => h), hown2]
  have hlt' : ∀ b ∈ Zn ρ' R', b < w'.heap.size ∧ (w.heap.size ≤ b ∨ b ∈ Zn (fun n => (σ n).den ρ) R) := fun b hb => hm'.lt b hb
  have hdel : ∀ b ∈ Zn ρ (del S.res ds), b < w.heap.size ∧ b ∉ Zn (fun n => (σ n).den ρ) R := fun b hb => by
    refine ⟨(hm.lt b (Xr b hb)).1, fun hbR => ?_⟩
    obtain ⟨m, r, h1, h2, h3⟩ := hOc b hbR
    exact Yb hm.keys hm.nodup h1 h2 h3 hb
  have hO2 : ∀ b ∈ Zn ρ2 (Q3 (Tk σ nx S.nx) R' ++ del S.res ds), b ∈ Zn ρ S.res ∨ w.heap.size ≤ b := fun b hb => by
    rw [hownT] at hb
    rcases List.mem_append.1 hb with hb | hb
    · rcases (hlt' b hb).2 with h1 | h1
      · exact .inr h1
      · exact .inl (hOcS b h1)
    · exact .inl (Xr b hb)
  have hvd : (v.sub (Tk σ nx S.nx)).den ρ2 = v.den ρ' := SV.sub_den hden w5
  have hout : Mem c ρ2 (Q3 (Tk σ nx S.nx) R' ++ del S.res ds) (S.nx + (nx' - nx)) w' := by
    refine ⟨hm'.os.trans hm.os, hm'.tape.trans hm.tape, hm'.output.trans hm.output, Nat.le_trans hm.size hm'.size, ?_, fun n => ?_, ?_, ?_, ?_, ?_, ?_⟩
    · intro b hb hbX
      have h0 := hm.block b hb hbX
      have hbs : b < w.heap.size := Nat.lt_of_lt_of_le hb hm.size
      rw [← h0]
      refine hm'.block b hbs fun hbR => ?_
      rcases (hm.lt b (hOcS b hbR)).2 with h1 | h1
      · omega
      · exact hbX h1
    · show (if n < S.nx then ρ n else _).oneCell' = true
      split
      · exact hm.one n
      · exact hm'.one _
    · rw [List.map_append]
      refine List.nodup_append.2 ⟨?_, Qz hm.keys, ?_⟩
      · have key : ∀ l : List (Nat × Res), (∀ p ∈ l, p ∈ R') → (l.map Prod.fst).Nodup → ((Q3 (Tk σ nx S.nx) l).map Prod.fst).Nodup := by
          intro l
          induction l with
          | nil => intro _ _; exact List.nodup_nil
          | cons p l ih =>
            intro hin hkk
            obtain ⟨n, r⟩ := p
            simp only [List.map_cons, List.nodup_cons] at hkk
            simp only [Q3, List.map_cons, List.nodup_cons]
            refine ⟨fun hmem => ?_, ih (fun q hq => hin q (by simp [hq])) hkk.2⟩
            obtain ⟨q, hq, hqe⟩ := List.mem_map.1 hmem
            obtain ⟨n2, r2, g1, rfl⟩ := Rc hq
            obtain ⟨m1, a1, _, _, a4⟩ := hσ' n (Xt w6 n r (hin _ (by simp))).1
            obtain ⟨m2, b1, _, _, b4⟩ := hσ' n2 (Xt w6 n2 r2 (hin _ (by simp [g1]))).1
            simp only [a1, b1, Ni] at hqe
            subst hqe
            have hnn : n2 = n := by
              rcases a4 with ⟨a5, a6, a7⟩ | ⟨a5, a6⟩ <;> rcases b4 with ⟨b5, b6, b7⟩ | ⟨b5, b6⟩
              · obtain ⟨s1, t1, t2⟩ := Ug w4 n a7
                obtain ⟨s2, u1, u2⟩ := Ug w4 n2 b7
                obtain ⟨q1, q2, _⟩ := hσk n a7
                obtain ⟨q3, q4, _⟩ := hσk n2 b7
                have o1 : n < nx := (Xt w2 n s1 t1).1
                have o2 : n2 < nx := (Xt w2 n2 s2 u1).1
                unfold Tk at a1 b1
                rw [if_pos o1] at a1
                rw [if_pos o2] at b1
                have := Ps (R := R) (p := (n2, s2)) (q := (n, s1)) (by rw [hds]; exact hnd) u1 t1 u2 t2 b1 a1
                exact congrArg Prod.fst this
              · omega
              · omega
              · omega
            subst hnn
            exact hkk.1 (List.mem_map.2 ⟨_, g1, rfl⟩)
        exact key R' (fun _ h => h) w7
      · intro x hx y hy hxy
        subst hxy
        obtain ⟨p, hp, rfl⟩ := List.mem_map.1 hx
        obtain ⟨n, r, g1, rfl⟩ := Rc hp
        obtain ⟨q, hq, hqe⟩ := List.mem_map.1 hy
        obtain ⟨m1, a1, _, _, a4⟩ := hσ' n (Xt w6 n r g1).1
        simp only [a1, Ni] at hqe
        have hq2 := hdelmem q.1 q.2 hq
        rcases a4 with ⟨a5, _⟩ | ⟨a5, _⟩
        · rw [hqe] at hq2; exact hq2.2 a5
        · have := (hm.bdr _ _ hq2.1).1; omega
    · intro n r hr
      rcases List.mem_append.1 hr with hr | hr
      · obtain ⟨n0, r0, g1, e⟩ := Rc hr
        cases e
        obtain ⟨hq1, hq2⟩ := Xt w6 n0 r0 g1
        obtain ⟨m1, a1, a2, _, _⟩ := hσ' n0 hq1
        have hh0 := hm'.res n0 r0 g1
        have hok := U9 w8 n0 r0 g1
        simp only [a1, Ni]
        cases r0 <;> simp only [Res.outOk, Bool.false_eq_true] at hok
        case cells E l =>
          obtain ⟨b, k1, k2⟩ := hh0
          exact ⟨b, by rw [a2]; exact k1, by rw [Uj hden hq2]; exact k2⟩
        case lit E sz e l =>
          obtain ⟨b, k1, k2, k3⟩ := hh0
          exact ⟨b, by rw [a2]; exact k1, by simpa using k2, by rw [Uj hden hq2]; exact k3⟩
        case row E k l =>
          simp only [Res.sub, Res.holds] at hh0 ⊢
          rw [a2, Kd.encs_den _ _ ρ' ρ2]; exact hh0
        case smap P K E k f q =>
          simp only [Res.sub, Res.holds] at hh0 ⊢
          rw [a2]; exact hh0
        case fmap l =>
          simp only [Res.sub, Res.holds] at hh0 ⊢
          rw [a2]; exact hh0
      · obtain ⟨h1, h2⟩ := hdelmem n r hr
        refine Res.carry hs2 (hm.bdr n r h1).1 (hm.bdr n r h1).2 hkeeps hD (fun b hb hbD => ?_) hO2 (hm.res n r h1)
        exact (hdel b (List.mem_filterMap.2 ⟨(n, r), hr, hb⟩)).2 hbD
    · intro n r hr
      rcases List.mem_append.1 hr with hr | hr
      · obtain ⟨n0, r0, g1, e⟩ := Rc hr
        cases e
        obtain ⟨hq1, hq2⟩ := Xt w6 n0 r0 g1
        obtain ⟨m1, a1, a2, a3, _⟩ := hσ' n0 hq1
        exact ⟨by simp only [a1, Ni]; exact a3, Res.sub_bd hbd hq2⟩
      · have := hm.bdr n r (hdelmem n r hr).1
        exact ⟨by omega, Res.bd_mono (by omega) this.2⟩
    · rw [hownT]
      refine List.nodup_append.2 ⟨hm'.nodup, M5 hm.nodup, fun x hx y hy hxy => ?_⟩
      subst hxy
      have h1 := hdel x hy
      rcases (hlt' x hx).2 with h2 | h2
      · omega
      · exact h1.2 h2
    · intro b hb
      rw [hownT] at hb
      rcases List.mem_append.1 hb with hb | hb
      · refine ⟨(hlt' b hb).1, ?_⟩
        rcases (hlt' b hb).2 with h2 | h2
        · exact .inl (Nat.le_trans hm.size h2)
        · exact (hm.lt b (hOcS b h2)).2
      · have := hm.lt b (Xr b hb)
        exact ⟨Nat.lt_of_lt_of_le this.1 hm'.size, this.2⟩
  refine ⟨v.sub (Tk σ nx S.nx), ρ2, Ki S σ R R' nx nx', ⟨hs2, by unfold Ki; simp⟩, by rw [hvd], SV.sub_bd hbd w5, ?_, hK⟩
  unfold Ki
  rw [hds]
  exact hh.res hs2 (by omega) hout
theorem Za.gcσ {c : Cx} {f : Nat} {args args' : List S1} {S : St} {K : SV → St → Prop} {R : List (Nat × Res)} {nx : Nat} {keep : List Nat} {v : SV} {R' : List (Nat × Res)} {nx' : Nat} (h : GC c.P f args R nx keep v R' nx') (b0 : Bnd)
    (hv : Lg c.P S (sg b0) args args' R) (hK : K (v.sub (Tk (sg b0) nx S.nx)) (Ki S (sg b0) R R' nx nx')) : Za c f args' S K :=
  Za.gcpσ (X3.zero (fun _ => none) _ _) h.gcp b0 hv hK
theorem Za.gcp {G : Nat} {H : Nat → Option Obj} {c : Cx} (hglob : X3 G H c.w0 c.X) {f : Nat} {args args' : List S1} {S : St} {K : SV → St → Prop} {R : List (Nat × Res)} {nx : Nat} {keep : List Nat} {v : SV} {R' : List (Nat × Res)} {nx' : Nat} (h : GCp G H c.P f args R nx keep v R' nx')
    (hv : Lg c.P S (sg (Uf S R (Wx args args' []))) args args' R) (hK : K (v.sub (Tk (sg (Uf S R (Wx args args' []))) nx S.nx)) (Ki S (sg (Uf S R (Wx args args' []))) R R' nx nx')) : Za c f args' S K :=
  Za.gcpσ hglob h _ hv hK
theorem Za.gc {c : Cx} {f : Nat} {args args' : List S1} {S : St} {K : SV → St → Prop} {R : List (Nat × Res)} {nx : Nat} {keep : List Nat} {v : SV} {R' : List (Nat × Res)} {nx' : Nat} (h : GC c.P f args R nx keep v R' nx')
    (hv : Lg c.P S (sg (Uf S R (Wx args args' []))) args args' R) (hK : K (v.sub (Tk (sg (Uf S R (Wx args args' []))) nx S.nx)) (Ki S (sg (Uf S R (Wx args args' []))) R R' nx nx')) : Za c f args' S K :=
  Za.gcσ h _ hv hK
theorem tf {a : Bool} (h : a = true) (h' : a = false) : False := by rw [h] at h'; cases h'
theorem Zi : type_of% (And.intro @List.set_cons_zero.{0} <| And.intro @List.set_cons_succ.{0} <| And.intro @List.set_nil.{0} <| And.intro @forall_eq_or_imp.{1} <| And.intro @forall_eq.{1} <| And.intro @List.mem_singleton.{0} <| And.intro @List.map_cons.{0,0} <| And.intro @List.map_nil.{0,0} <| And.intro @Nat.sub_self <| And.intro @Option.getD_some.{0} <| And.intro @Option.getD_none.{0} <| And.intro @Option.isSome_some.{0} <| And.intro @Option.isSome_none.{0} <| And.intro @List.nodup_nil.{0} <| And.intro @List.nodup_cons.{0} <| And.intro @List.mem_cons.{0} <| And.intro @List.not_mem_nil.{0} <| And.intro @Nat.zero_add <| And.intro @Nat.add_zero <| And.intro @Nat.zero_mul <| And.intro @Nat.le_refl <| And.intro @List.length_cons.{0} <| And.intro @List.length_nil.{0} <| And.intro @List.getElem?_cons_zero.{0} <| And.intro @List.getElem?_cons_succ.{0} <| And.intro @List.getElem?_nil.{0} <| And.intro @List.drop_zero.{0} <| And.intro @List.drop_succ_cons.{0} <| And.intro @List.drop_nil.{0} <| And.intro @List.take_zero.{0} <| And.intro @List.take_succ_cons.{0} <| And.intro @List.take_nil.{0} <| And.intro @List.nil_append.{0} <| And.intro @List.cons_append.{0} <| And.intro @List.append_nil.{0} <| And.intro @List.filter_cons.{0} <| And.intro @List.filter_nil.{0} <| And.intro @List.contains_cons.{0} <| And.intro @List.contains_nil.{0} <| And.intro @List.elem_cons.{0} <| And.intro @List.elem_nil.{0} <| And.intro @Bool.not_true <| And.intro @Bool.not_false <| And.intro @Bool.or_false <| And.intro @Bool.false_or <| And.intro @Bool.true_or <| And.intro @Bool.or_true <| And.intro @Bool.and_true <| And.intro @Bool.true_and <| And.intro @Bool.and_false <| And.intro @Bool.false_and <| And.intro @Bool.false_eq_true <| And.intro @Bool.true_eq_false <| And.intro @beq_self_eq_true.{0} <| And.intro @cond_true.{1} <| And.intro @cond_false.{1} <| And.intro @true_and <| And.intro @and_true <| And.intro @false_and <| And.intro @and_false <| And.intro @true_implies <| And.intro @false_implies <| And.intro @and_self <| And.intro @decide_true <| And.intro @decide_false <| And.intro @not_false_eq_true <| And.intro @not_true_eq_false <| And.intro @ne_eq.{1} <| And.intro @imp_self <| And.intro @Bool.cond_true_left <| And.intro @Bool.cond_false_right <| And.intro @Bool.cond_true_right <| And.intro @Bool.cond_false_left <| And.intro @Bool.not_eq_true' <| And.intro @Bool.not_eq_false' <| And.intro @Bool.or_eq_true <| And.intro @Bool.and_eq_true <| And.intro @Bool.or_eq_false_iff <| And.intro @Bool.and_eq_false_imp <| And.intro @decide_eq_true_eq <| And.intro @decide_eq_false_iff_not <| And.intro @Bool.not_not <| And.intro @bne_self_eq_false.{0} <| And.intro @false_or <| And.intro @or_false <| And.intro @true_or <| And.intro @or_true <| And.intro @not_or <| And.intro @exists_eq_left.{1} <| @exists_eq_left'.{1}) :=
  And.intro @List.set_cons_zero.{0} <| And.intro @List.set_cons_succ.{0} <| And.intro @List.set_nil.{0} <| And.intro @forall_eq_or_imp.{1} <| And.intro @forall_eq.{1} <| And.intro @List.mem_singleton.{0} <| And.intro @List.map_cons.{0,0} <| And.intro @List.map_nil.{0,0} <| And.intro @Nat.sub_self <| And.intro @Option.getD_some.{0} <| And.intro @Option.getD_none.{0} <| And.intro @Option.isSome_some.{0} <| And.intro @Option.isSome_none.{0} <| And.intro @List.nodup_nil.{0} <| And.intro @List.nodup_cons.{0} <| And.intro @List.mem_cons.{0} <| And.intro @List.not_mem_nil.{0} <| And.intro @Nat.zero_add <| And.intro @Nat.add_zero <| And.intro @Nat.zero_mul <| And.intro @Nat.le_refl <| And.intro @List.length_cons.{0} <| And.intro @List.length_nil.{0} <| And.intro @List.getElem?_cons_zero.{0} <| And.intro @List.getElem?_cons_succ.{0} <| And.intro @List.getElem?_nil.{0} <| And.intro @List.drop_zero.{0} <| And.intro @List.drop_succ_cons.{0} <| And.intro @List.drop_nil.{0} <| And.intro @List.take_zero.{0} <| And.intro @List.take_succ_cons.{0} <| And.intro @List.take_nil.{0} <| And.intro @List.nil_append.{0} <| And.intro @List.cons_append.{0} <| And.intro @List.append_nil.{0} <| And.intro @List.filter_cons.{0} <| And.intro @List.filter_nil.{0} <| And.intro @List.contains_cons.{0} <| And.intro @List.contains_nil.{0} <| And.intro @List.elem_cons.{0} <| And.intro @List.elem_nil.{0} <| And.intro @Bool.not_true <| And.intro @Bool.not_false <| And.intro @Bool.or_false <| And.intro @Bool.false_or <| And.intro @Bool.true_or <| And.intro @Bool.or_true <| And.intro @Bool.and_true <| And.intro @Bool.true_and <| And.intro @Bool.and_false <| And.intro @Bool.false_and <| And.intro @Bool.false_eq_true <| And.intro @Bool.true_eq_false <| And.intro @beq_self_eq_true.{0} <| And.intro @cond_true.{1} <| And.intro @cond_false.{1} <| And.intro @true_and <| And.intro @and_true <| And.intro @false_and <| And.intro @and_false <| And.intro @true_implies <| And.intro @false_implies <| And.intro @and_self <| And.intro @decide_true <| And.intro @decide_false <| And.intro @not_false_eq_true <| And.intro @not_true_eq_false <| And.intro @ne_eq.{1} <| And.intro @imp_self <| And.intro @Bool.cond_true_left <| And.intro @Bool.cond_false_right <| And.intro @Bool.cond_true_right <| And.intro @Bool.cond_false_left <| And.intro @Bool.not_eq_true' <| And.intro @Bool.not_eq_false' <| And.intro @Bool.or_eq_true <| And.intro @Bool.and_eq_true <| And.intro @Bool.or_eq_false_iff <| And.intro @Bool.and_eq_false_imp <| And.intro @decide_eq_true_eq <| And.intro @decide_eq_false_iff_not <| And.intro @Bool.not_not <| And.intro @bne_self_eq_false.{0} <| And.intro @false_or <| And.intro @or_false <| And.intro @true_or <| And.intro @or_true <| And.intro @not_or <| And.intro @exists_eq_left.{1} <| @exists_eq_left'.{1}
set_option maxRecDepth 100000 in
theorem Zh : type_of% (And.intro @E9 <| And.intro @H6 <| And.intro @Gj <| And.intro @Vc.exK.eq_1 <| And.intro @Kx <| And.intro @J3 <| And.intro @Nd <| And.intro @Nz <| And.intro @Kg <| And.intro @Vc.exDK.eq_1 <| And.intro @Qq.eq_1 <| And.intro @Qq.eq_2 <| And.intro @Ge <| And.intro @Ja <| And.intro @J6 <| And.intro @Gg <| And.intro @Ju <| And.intro @Ij <| And.intro @Vc.exqK.eq_1 <| And.intro @O9.eq_1 <| And.intro @Vc.putK.eq_1 <| And.intro @Vc.ev.eq_1 <| And.intro @Vc.ev.eq_2 <| And.intro @Vc.ev.eq_3 <| And.intro @Vc.ev.eq_4 <| And.intro @Vc.ev.eq_5 <| And.intro @Vc.ev.eq_6 <| And.intro @Vc.ev.eq_7 <| And.intro @Vc.ev.eq_8 <| And.intro @Vc.ev.eq_9 <| And.intro @Vc.ev.eq_10 <| And.intro @Vc.ev.eq_11 <| And.intro @Vc.ev.eq_12 <| And.intro @Vc.ev.eq_13 <| And.intro @Vc.ev.eq_14 <| And.intro @Vc.ev.eq_15 <| And.intro @Vc.ev.eq_16 <| And.intro @Vc.ev.eq_17 <| And.intro @Vc.ev.eq_18 <| And.intro @Vc.ev.eq_19 <| And.intro @Vc.ev.eq_20 <| And.intro @Vc.ev.eq_21 <| And.intro @Vc.ev.eq_22 <| And.intro @Vc.ev.eq_23 <| And.intro @Vc.ev.eq_24 <| And.intro @Vc.ev.eq_25 <| And.intro @Vc.ev.eq_26 <| And.intro @Vc.ev.eq_27 <| And.intro @Vc.st.eq_1 <| And.intro @Vc.st.eq_2 <| And.intro @Vc.st.eq_3 <| And.intro @Vc.st.eq_4 <| And.intro @Vc.st.eq_5 <| And.intro @Vc.st.eq_6 <| And.intro @Vc.st.eq_7 <| And.intro @Vc.st.eq_8 <| And.intro @Vc.st.eq_9 <| And.intro @Vc.st.eq_10 <| And.intro @Vc.st.eq_11 <| And.intro @Vc.st.eq_12 <| And.intro @Vc.st.eq_13 <| And.intro @Vc.st.eq_14 <| And.intro @Vc.st.eq_15 <| And.intro @Vc.st.eq_16 <| And.intro @Vc.st.eq_17 <| And.intro @Vc.st.eq_18 <| And.intro @Vc.st.eq_19 <| And.intro @Vc.st.eq_20 <| And.intro @Vc.st.eq_21 <| And.intro @Vc.st.eq_22 <| And.intro @Vc.st.eq_23 <| And.intro @Vc.st.eq_24 <| And.intro @Vc.st.eq_25 <| And.intro @Vc.stq.eq_1 <| And.intro @Vc.stq.eq_2 <| And.intro @Vc.stq.eq_3 <| And.intro @Vc.stq.eq_4 <| And.intro @Vc.gst.eq_1 <| And.intro @Vc.gst.eq_2 <| And.intro @Hx.eq_1 <| And.intro @Hx.eq_2 <| And.intro @St.rd.eq_1 <| And.intro @St.rd.eq_2 <| And.intro @St.rd.eq_3 <| And.intro @St.get.eq_1 <| And.intro @St.put.eq_1 <| And.intro @St.put.eq_2 <| And.intro @St.find.eq_1 <| And.intro @Z1.eq_1 <| And.intro @Z1.eq_2 <| And.intro @St.new.eq_1 <| And.intro @Vc.gdc.eq_1 <| And.intro @Ws.eq_1 <| And.intro @T6.eq_1 <| And.intro @T6.eq_2 <| And.intro @T6.eq_3 <| And.intro @T6.eq_4 <| And.intro @T6.eq_5 <| And.intro @Xj.eq_1 <| And.intro @Xj.eq_2 <| And.intro @Xj.eq_3 <| And.intro @Xj.eq_4 <| And.intro @Xj.eq_5 <| And.intro @Xj.eq_6 <| And.intro @Xj.eq_7 <| And.intro @Xj.eq_8 <| And.intro @Xj.eq_9 <| And.intro @Xj.eq_10 <| And.intro @Xj.eq_11 <| And.intro @Xj.eq_12 <| And.intro @Xj.eq_13 <| And.intro @Xj.eq_14 <| And.intro @Xj.eq_15 <| And.intro @Xj.eq_16 <| And.intro @Tu.eq_1 <| And.intro @Tu.eq_2 <| And.intro @Tu.eq_3 <| And.intro @Tu.eq_4 <| And.intro @Tu.eq_5 <| And.intro @O4.eq_1 <| And.intro @O4.eq_2 <| And.intro @O4.eq_3 <| And.intro @O4.eq_4 <| And.intro @Vu.eq_1 <| And.intro @Vu.eq_2 <| And.intro @Vu.eq_3 <| And.intro @Vu.eq_4 <| And.intro @Wr.eq_1 <| And.intro @Wr.eq_2 <| And.intro @Td.eq_1 <| And.intro @Td.eq_2 <| And.intro @X6.eq_1 <| And.intro @Vc.S1.cells.eq_1 <| And.intro @Vc.S1.cells.eq_2 <| And.intro @Vc.upd.eq_1 <| And.intro @Vc.del.eq_1 <| And.intro @Xn.eq_1 <| And.intro @Xn.eq_2 <| And.intro @Vc.noV.eq_1 <| And.intro @Kd.enc.eq_1 <| And.intro @Kd.enc.eq_2 <| And.intro @Kd.enc.eq_3 <| And.intro @Kd.enc.eq_4 <| And.intro @Kd.enc.eq_5 <| And.intro @Kd.enc.eq_6 <| And.intro @Kd.enc.eq_7 <| And.intro @Kd.dec.eq_1 <| And.intro @Kd.dec.eq_2 <| And.intro @Kd.dec.eq_3 <| And.intro @Kd.dec.eq_4 <| And.intro @Kd.dec.eq_5 <| And.intro @Kd.dec.eq_6 <| And.intro @Kd.dec.eq_7 <| And.intro @Kd.dec.eq_8 <| And.intro @Ins.cells.eq_1 <| And.intro @Ln.cells.eq_1 <| And.intro @Yu.eq_1 <| And.intro @Yu.eq_2 <| And.intro @Yu.eq_3 <| And.intro @Yu.eq_4 <| And.intro @Yu.eq_5 <| And.intro @Yu.eq_6 <| And.intro @Yu.eq_7 <| And.intro @Yu.eq_8 <| And.intro @Lz.eq_1 <| And.intro @Pz.eq_1 <| And.intro @Pz.eq_2 <| And.intro @Pv.eq_1 <| And.intro @Pv.eq_2 <| And.intro @Sz.eq_1 <| And.intro @Sz.eq_2 <| And.intro @Sz.eq_3 <| And.intro @Vc.rvs.eq_1 <| And.intro @Vc.rvs.eq_2 <| And.intro @Vc.rvs.eq_3 <| And.intro @N5.eq_1 <| And.intro @N5.eq_2 <| And.intro @Xi.eq_1 <| And.intro @Xi.eq_2 <| And.intro @Qy.eq_1 <| And.intro @Qy.eq_2 <| And.intro @Qy.eq_3 <| And.intro @Tj.eq_1 <| And.intro @Tj.eq_2 <| And.intro @Tj.eq_3 <| And.intro @Rz.eq_1 <| And.intro @Rz.eq_2 <| And.intro @Rz.eq_3 <| And.intro @Pd.eq_1 <| And.intro @Pd.eq_2 <| And.intro @Pd.eq_3 <| And.intro @Pq.eq_1 <| And.intro @Pq.eq_2 <| And.intro @Pq.eq_3 <| And.intro @Pg.eq_1 <| And.intro @Pg.eq_2 <| And.intro @Pg.eq_3 <| And.intro @T5.eq_1 <| And.intro @T5.eq_2 <| And.intro @T5.eq_3 <| And.intro @Fe.eq_1 <| And.intro @Qd.eq_1 <| And.intro @Qd.eq_2 <| And.intro @Sc.eq_1 <| And.intro @Sc.eq_2 <| And.intro @U1.eq_1 <| And.intro @U1.eq_2 <| And.intro @Ux.eq_1 <| And.intro @Ux.eq_2 <| And.intro @P5.eq_1 <| And.intro @P5.eq_2 <| And.intro @Vc.kdL.eq_1 <| And.intro @Vc.kdL.eq_2 <| And.intro @Vc.kdL.eq_3 <| And.intro @Vc.kdL.eq_4 <| And.intro @Vc.kdL.eq_5 <| And.intro @Vc.kdL.eq_6 <| And.intro @Vc.kdL.eq_7 <| And.intro @Dg.eq_1 <| And.intro @Dg.eq_2 <| And.intro @Tq.eq_1 <| And.intro @Tq.eq_2 <| And.intro @Tq.eq_3 <| And.intro @Om.eq_1 <| And.intro @Om.eq_2 <| And.intro @Om.eq_3 <| And.intro @Om.eq_4 <| And.intro @Zq.eq_1 <| And.intro @Zq.eq_2 <| And.intro @SV.bd.eq_1 <| And.intro @SV.bd.eq_2 <| And.intro @SV.bd.eq_3 <| And.intro @Vc.S1.bd.eq_1 <| And.intro @Vc.S1.bd.eq_2 <| And.intro @At.bd.eq_1 <| And.intro @At.bd.eq_2 <| And.intro @At.bd.eq_3 <| And.intro @At.bd.eq_4 <| And.intro @At.bd.eq_5 <| And.intro @At.bd.eq_6 <| And.intro @Value.oneCell'.eq_1 <| And.intro @Value.oneCell'.eq_2 <| And.intro @Value.oneCell'.eq_3 <| And.intro @Vc.lenOf.eq_1 <| And.intro @N9.eq_1 <| And.intro @Kf.eq_1 <| And.intro @Kf.eq_2 <| And.intro @Vy.eq_1 <| And.intro @Vy.eq_2 <| And.intro @Vy.eq_3 <| And.intro @Vc.atK.eq_1 <| And.intro @Vc.atK.eq_2 <| And.intro @Vc.atK.eq_3 <| And.intro @Qh.eq_1 <| And.intro @Vc.unK.eq_1 <| And.intro @Vc.unK.eq_2 <| And.intro @Vc.unK.eq_3 <| And.intro @Vc.wfK.eq_1 <| And.intro @Vc.wfK.eq_2 <| And.intro @Vc.wfK.eq_3 <| And.intro @V3.eq_1 <| And.intro @V3.eq_2 <| And.intro @V3.eq_3 <| And.intro @V3.eq_4 <| And.intro @Uq.eq_1 <| And.intro @Uq.eq_2 <| And.intro @Te.eq_1 <| And.intro @Te.eq_2 <| And.intro @Te.eq_3 <| And.intro @Wx.eq_1 <| And.intro @Wx.eq_2 <| And.intro @Tt.eq_1 <| And.intro @Tt.eq_2 <| And.intro @Tt.eq_3 <| And.intro @Tt.eq_4 <| And.intro @Uf.eq_1 <| And.intro @Uf.eq_2 <| And.intro @X2.eq_1 <| And.intro @X2.eq_2 <| And.intro @X2.eq_3 <| And.intro @X2.eq_4 <| And.intro @X2.eq_5 <| And.intro @Ng.eq_1 <| And.intro @Ng.eq_2 <| And.intro @Vc.sg.eq_1 <| And.intro @Tk.eq_1 <| And.intro @Q3.eq_1 <| And.intro @Q3.eq_2 <| And.intro @Ki.eq_1 <| And.intro @Ni.eq_1 <| And.intro @Ni.eq_2 <| And.intro @X7.eq_1 <| And.intro @X7.eq_2 <| And.intro @Res.own.eq_1 <| And.intro @Res.own.eq_2 <| And.intro @Res.own.eq_3 <| And.intro @Res.own.eq_4 <| And.intro @Res.own.eq_5 <| And.intro @Res.own.eq_6 <| And.intro @Res.own.eq_7 <| And.intro @Res.own.eq_8 <| And.intro @At.sub.eq_1 <| And.intro @At.sub.eq_2 <| And.intro @At.sub.eq_3 <| And.intro @At.sub.eq_4 <| And.intro @Vc.S1.sub.eq_1 <| And.intro @Vc.S1.sub.eq_2 <| And.intro @SV.sub.eq_1 <| And.intro @SV.sub.eq_2 <| And.intro @SV.sub.eq_3 <| And.intro @Res.sub.eq_1 <| And.intro @Res.sub.eq_2 <| And.intro @Res.sub.eq_3 <| And.intro @Res.sub.eq_4 <| And.intro @F7.eq_1 <| And.intro @Vc.endP.eq_1 <| And.intro @O2.eq_1 <| And.intro @O2.eq_2 <| And.intro @Nb.eq_1 <| And.intro @Nb.eq_2 <| And.intro @Sx.eq_1 <| And.intro @Sx.eq_2 <| And.intro @Sx.eq_3 <| And.intro @Sx.eq_4 <| And.intro @Vc.frS.eq_1 <| And.intro @Vc.frS.eq_2 <| And.intro @Kd.sz.eq_1 <| And.intro @Kd.sz.eq_2 <| And.intro @Kd.sz.eq_3 <| And.intro @Kd.sz.eq_4 <| And.intro @Kd.sz.eq_5 <| And.intro @Vc.flk.eq_1 <| And.intro @Vc.flk.eq_2 <| And.intro @Lr.eq_1 <| And.intro @Lr.eq_2 <| @Lr.eq_3) :=
  ⟨@E9, @H6, @Gj, @Vc.exK.eq_1, @Kx, @J3, @Nd, @Nz, @Kg, @Vc.exDK.eq_1, @Qq.eq_1, @Qq.eq_2, @Ge, @Ja, @J6, @Gg, @Ju, @Ij, @Vc.exqK.eq_1, @O9.eq_1, @Vc.putK.eq_1, @Vc.ev.eq_1, @Vc.ev.eq_2, @Vc.ev.eq_3, @Vc.ev.eq_4, @Vc.ev.eq_5, @Vc.ev.eq_6, @Vc.ev.eq_7, @Vc.ev.eq_8, @Vc.ev.eq_9, @Vc.ev.eq_10, @Vc.ev.eq_11, @Vc.ev.eq_12, @Vc.ev.eq_13, @Vc.ev.eq_14, @Vc.ev.eq_15, @Vc.ev.eq_16, @Vc.ev.eq_17, @Vc.ev.eq_18, @Vc.ev.eq_19, @Vc.ev.eq_20, @Vc.ev.eq_21, @Vc.ev.eq_22, @Vc.ev.eq_23, @Vc.ev.eq_24, @Vc.ev.eq_25, @Vc.ev.eq_26, @Vc.ev.eq_27, @Vc.st.eq_1, @Vc.st.eq_2, @Vc.st.eq_3, @Vc.st.eq_4, @Vc.st.eq_5, @Vc.st.eq_6, @Vc.st.eq_7, @Vc.st.eq_8, @Vc.st.eq_9, @Vc.st.eq_10, @Vc.st.eq_11, @Vc.st.eq_12, @Vc.st.eq_13, @Vc.st.eq_14, @Vc.st.eq_15, @Vc.st.eq_16, @Vc.st.eq_17, @Vc.st.eq_18, @Vc.st.eq_19, @Vc.st.eq_20, @Vc.st.eq_21, @Vc.st.eq_22, @Vc.st.eq_23, @Vc.st.eq_24, @Vc.st.eq_25, @Vc.stq.eq_1, @Vc.stq.eq_2, @Vc.stq.eq_3, @Vc.stq.eq_4, @Vc.gst.eq_1, @Vc.gst.eq_2, @Hx.eq_1, @Hx.eq_2, @St.rd.eq_1, @St.rd.eq_2, @St.rd.eq_3, @St.get.eq_1, @St.put.eq_1, @St.put.eq_2, @St.find.eq_1, @Z1.eq_1, @Z1.eq_2, @St.new.eq_1, @Vc.gdc.eq_1, @Ws.eq_1, @T6.eq_1, @T6.eq_2, @T6.eq_3, @T6.eq_4, @T6.eq_5, @Xj.eq_1, @Xj.eq_2, @Xj.eq_3, @Xj.eq_4, @Xj.eq_5, @Xj.eq_6, @Xj.eq_7, @Xj.eq_8, @Xj.eq_9, @Xj.eq_10, @Xj.eq_11, @Xj.eq_12, @Xj.eq_13, @Xj.eq_14, @Xj.eq_15, @Xj.eq_16, @Tu.eq_1, @Tu.eq_2, @Tu.eq_3, @Tu.eq_4, @Tu.eq_5, @O4.eq_1, @O4.eq_2, @O4.eq_3, @O4.eq_4, @Vu.eq_1, @Vu.eq_2, @Vu.eq_3, @Vu.eq_4, @Wr.eq_1, @Wr.eq_2, @Td.eq_1, @Td.eq_2, @X6.eq_1, @Vc.S1.cells.eq_1, @Vc.S1.cells.eq_2, @Vc.upd.eq_1, @Vc.del.eq_1, @Xn.eq_1, @Xn.eq_2, @Vc.noV.eq_1, @Kd.enc.eq_1, @Kd.enc.eq_2, @Kd.enc.eq_3, @Kd.enc.eq_4, @Kd.enc.eq_5, @Kd.enc.eq_6, @Kd.enc.eq_7, @Kd.dec.eq_1, @Kd.dec.eq_2, @Kd.dec.eq_3, @Kd.dec.eq_4, @Kd.dec.eq_5, @Kd.dec.eq_6, @Kd.dec.eq_7, @Kd.dec.eq_8, @Ins.cells.eq_1, @Ln.cells.eq_1, @Yu.eq_1, @Yu.eq_2, @Yu.eq_3, @Yu.eq_4, @Yu.eq_5, @Yu.eq_6, @Yu.eq_7, @Yu.eq_8, @Lz.eq_1, @Pz.eq_1, @Pz.eq_2, @Pv.eq_1, @Pv.eq_2, @Sz.eq_1, @Sz.eq_2, @Sz.eq_3, @Vc.rvs.eq_1, @Vc.rvs.eq_2, @Vc.rvs.eq_3, @N5.eq_1, @N5.eq_2, @Xi.eq_1, @Xi.eq_2, @Qy.eq_1, @Qy.eq_2, @Qy.eq_3, @Tj.eq_1, @Tj.eq_2, @Tj.eq_3, @Rz.eq_1, @Rz.eq_2, @Rz.eq_3, @Pd.eq_1, @Pd.eq_2, @Pd.eq_3, @Pq.eq_1, @Pq.eq_2, @Pq.eq_3, @Pg.eq_1, @Pg.eq_2, @Pg.eq_3, @T5.eq_1, @T5.eq_2, @T5.eq_3, @Fe.eq_1, @Qd.eq_1, @Qd.eq_2, @Sc.eq_1, @Sc.eq_2, @U1.eq_1, @U1.eq_2, @Ux.eq_1, @Ux.eq_2, @P5.eq_1, @P5.eq_2, @Vc.kdL.eq_1, @Vc.kdL.eq_2, @Vc.kdL.eq_3, @Vc.kdL.eq_4, @Vc.kdL.eq_5, @Vc.kdL.eq_6, @Vc.kdL.eq_7, @Dg.eq_1, @Dg.eq_2, @Tq.eq_1, @Tq.eq_2, @Tq.eq_3, @Om.eq_1, @Om.eq_2, @Om.eq_3, @Om.eq_4, @Zq.eq_1, @Zq.eq_2, @SV.bd.eq_1, @SV.bd.eq_2, @SV.bd.eq_3, @Vc.S1.bd.eq_1, @Vc.S1.bd.eq_2, @At.bd.eq_1, @At.bd.eq_2, @At.bd.eq_3, @At.bd.eq_4, @At.bd.eq_5, @At.bd.eq_6, @Value.oneCell'.eq_1, @Value.oneCell'.eq_2, @Value.oneCell'.eq_3, @Vc.lenOf.eq_1, @N9.eq_1, @Kf.eq_1, @Kf.eq_2, @Vy.eq_1, @Vy.eq_2, @Vy.eq_3, @Vc.atK.eq_1, @Vc.atK.eq_2, @Vc.atK.eq_3, @Qh.eq_1, @Vc.unK.eq_1, @Vc.unK.eq_2, @Vc.unK.eq_3, @Vc.wfK.eq_1, @Vc.wfK.eq_2, @Vc.wfK.eq_3, @V3.eq_1, @V3.eq_2, @V3.eq_3, @V3.eq_4, @Uq.eq_1, @Uq.eq_2, @Te.eq_1, @Te.eq_2, @Te.eq_3, @Wx.eq_1, @Wx.eq_2, @Tt.eq_1, @Tt.eq_2, @Tt.eq_3, @Tt.eq_4, @Uf.eq_1, @Uf.eq_2, @X2.eq_1, @X2.eq_2, @X2.eq_3, @X2.eq_4, @X2.eq_5, @Ng.eq_1, @Ng.eq_2, @Vc.sg.eq_1, @Tk.eq_1, @Q3.eq_1, @Q3.eq_2, @Ki.eq_1, @Ni.eq_1, @Ni.eq_2, @X7.eq_1, @X7.eq_2, @Res.own.eq_1, @Res.own.eq_2, @Res.own.eq_3, @Res.own.eq_4, @Res.own.eq_5, @Res.own.eq_6, @Res.own.eq_7, @Res.own.eq_8, @At.sub.eq_1, @At.sub.eq_2, @At.sub.eq_3, @At.sub.eq_4, @Vc.S1.sub.eq_1, @Vc.S1.sub.eq_2, @SV.sub.eq_1, @SV.sub.eq_2, @SV.sub.eq_3, @Res.sub.eq_1, @Res.sub.eq_2, @Res.sub.eq_3, @Res.sub.eq_4, @F7.eq_1, @Vc.endP.eq_1, @O2.eq_1, @O2.eq_2, @Nb.eq_1, @Nb.eq_2, @Sx.eq_1, @Sx.eq_2, @Sx.eq_3, @Sx.eq_4, @Vc.frS.eq_1, @Vc.frS.eq_2, @Kd.sz.eq_1, @Kd.sz.eq_2, @Kd.sz.eq_3, @Kd.sz.eq_4, @Kd.sz.eq_5, @Vc.flk.eq_1, @Vc.flk.eq_2, @Lr.eq_1, @Lr.eq_2, @Lr.eq_3⟩
theorem Zm : type_of% (And.intro @Lg.eq_1 <| And.intro @Hg.eq_1 <| And.intro @Hg.eq_2 <| And.intro @Vc.mtR.eq_1 <| And.intro @Vc.mtR.eq_2 <| And.intro @Vc.mtR.eq_3 <| And.intro @Vc.mtR.eq_4 <| And.intro @Vc.mtR.eq_5 <| And.intro @Vc.mtR.eq_6 <| And.intro @Vc.mtR.eq_7 <| And.intro @Vc.mtR.eq_8 <| And.intro @Vc.mtR.eq_9 <| And.intro @Vc.mtR.eq_10 <| And.intro @Vc.mtR.eq_11 <| And.intro @Vc.mtR.eq_12 <| And.intro @Vc.roA.eq_1 <| And.intro @Vc.roA.eq_2 <| And.intro @Vc.roA.eq_3 <| And.intro @Vc.roM.eq_1 <| And.intro @Lv.eq_1 <| And.intro @Lv.eq_2 <| And.intro @Lv.eq_3 <| And.intro @Ek.eq_1 <| And.intro @Fp.eq_1 <| And.intro @Ls.eq_1 <| And.intro @Ls.eq_2 <| And.intro @Ls.eq_3 <| And.intro @Ok.eq_1 <| And.intro @Ok.eq_2 <| And.intro @Vc.fnM.eq_1 <| And.intro @Vc.fnM.eq_2 <| And.intro @Vc.fnM.eq_3 <| And.intro @Vc.fnM.eq_4 <| And.intro @Yu.eq_1 <| And.intro @Yu.eq_2 <| And.intro @Yu.eq_3 <| And.intro @Yu.eq_4 <| And.intro @Yu.eq_5 <| And.intro @Yu.eq_6 <| And.intro @Yu.eq_7 <| And.intro @Yu.eq_8 <| And.intro @St.find.eq_1 <| And.intro @Z1.eq_1 <| And.intro @Z1.eq_2 <| And.intro @Vc.del.eq_1 <| And.intro @X7.eq_1 <| And.intro @X7.eq_2 <| And.intro @Res.own.eq_1 <| And.intro @Res.own.eq_2 <| And.intro @Res.own.eq_3 <| And.intro @Res.own.eq_4 <| And.intro @Res.own.eq_5 <| And.intro @Res.own.eq_6 <| And.intro @Res.own.eq_7 <| And.intro @Res.own.eq_8 <| And.intro @Vc.sg.eq_1 <| And.intro @V3.eq_1 <| And.intro @V3.eq_2 <| And.intro @V3.eq_3 <| And.intro @V3.eq_4 <| And.intro @Uq.eq_1 <| And.intro @Uq.eq_2 <| And.intro @Te.eq_1 <| And.intro @Te.eq_2 <| And.intro @Te.eq_3 <| And.intro @Wx.eq_1 <| And.intro @Wx.eq_2 <| And.intro @Uf.eq_1 <| And.intro @Uf.eq_2 <| And.intro @X2.eq_1 <| And.intro @X2.eq_2 <| And.intro @X2.eq_3 <| And.intro @X2.eq_4 <| And.intro @X2.eq_5 <| And.intro @At.sub.eq_1 <| And.intro @At.sub.eq_2 <| And.intro @At.sub.eq_3 <| And.intro @At.sub.eq_4 <| And.intro @Vc.S1.sub.eq_1 <| And.intro @Vc.S1.sub.eq_2 <| And.intro @Res.sub.eq_1 <| And.intro @Res.sub.eq_2 <| And.intro @Res.sub.eq_3 <| And.intro @Res.sub.eq_4 <| And.intro @Kd.enc.eq_1 <| And.intro @Kd.enc.eq_2 <| And.intro @Kd.enc.eq_3 <| And.intro @Kd.enc.eq_4 <| And.intro @Kd.enc.eq_5 <| And.intro @Kd.enc.eq_6 <| And.intro @Kd.enc.eq_7 <| And.intro @Ins.cells.eq_1 <| And.intro @Ln.cells.eq_1 <| And.intro @Value.oneCell'.eq_1 <| And.intro @Value.oneCell'.eq_2 <| And.intro @Value.oneCell'.eq_3 <| @Xe.eq_1) :=
  ⟨@Lg.eq_1, @Hg.eq_1, @Hg.eq_2, @Vc.mtR.eq_1, @Vc.mtR.eq_2, @Vc.mtR.eq_3, @Vc.mtR.eq_4, @Vc.mtR.eq_5, @Vc.mtR.eq_6, @Vc.mtR.eq_7, @Vc.mtR.eq_8, @Vc.mtR.eq_9, @Vc.mtR.eq_10, @Vc.mtR.eq_11, @Vc.mtR.eq_12, @Vc.roA.eq_1, @Vc.roA.eq_2, @Vc.roA.eq_3, @Vc.roM.eq_1, @Lv.eq_1, @Lv.eq_2, @Lv.eq_3, @Ek.eq_1, @Fp.eq_1, @Ls.eq_1, @Ls.eq_2, @Ls.eq_3, @Ok.eq_1, @Ok.eq_2, @Vc.fnM.eq_1, @Vc.fnM.eq_2, @Vc.fnM.eq_3, @Vc.fnM.eq_4, @Yu.eq_1, @Yu.eq_2, @Yu.eq_3, @Yu.eq_4, @Yu.eq_5, @Yu.eq_6, @Yu.eq_7, @Yu.eq_8, @St.find.eq_1, @Z1.eq_1, @Z1.eq_2, @Vc.del.eq_1, @X7.eq_1, @X7.eq_2, @Res.own.eq_1, @Res.own.eq_2, @Res.own.eq_3, @Res.own.eq_4, @Res.own.eq_5, @Res.own.eq_6, @Res.own.eq_7, @Res.own.eq_8, @Vc.sg.eq_1, @V3.eq_1, @V3.eq_2, @V3.eq_3, @V3.eq_4, @Uq.eq_1, @Uq.eq_2, @Te.eq_1, @Te.eq_2, @Te.eq_3, @Wx.eq_1, @Wx.eq_2, @Uf.eq_1, @Uf.eq_2, @X2.eq_1, @X2.eq_2, @X2.eq_3, @X2.eq_4, @X2.eq_5, @At.sub.eq_1, @At.sub.eq_2, @At.sub.eq_3, @At.sub.eq_4, @Vc.S1.sub.eq_1, @Vc.S1.sub.eq_2, @Res.sub.eq_1, @Res.sub.eq_2, @Res.sub.eq_3, @Res.sub.eq_4, @Kd.enc.eq_1, @Kd.enc.eq_2, @Kd.enc.eq_3, @Kd.enc.eq_4, @Kd.enc.eq_5, @Kd.enc.eq_6, @Kd.enc.eq_7, @Ins.cells.eq_1, @Ln.cells.eq_1, @Value.oneCell'.eq_1, @Value.oneCell'.eq_2, @Value.oneCell'.eq_3, @Xe.eq_1⟩
theorem Z7 : type_of% (And.intro @Ul.eq_1 <| And.intro @Ul.eq_2 <| And.intro @Rb.eq_1 <| And.intro @Rb.eq_2 <| And.intro @Vc.bnd.eq_1 <| And.intro @Vc.bnd.eq_2 <| And.intro @St.get.eq_1 <| And.intro @St.find.eq_1 <| And.intro @Z1.eq_1 <| And.intro @Z1.eq_2 <| And.intro @SV.ren.eq_1 <| And.intro @SV.ren.eq_2 <| And.intro @SV.ren.eq_3 <| And.intro @Vc.S1.ren.eq_1 <| And.intro @Vc.S1.ren.eq_2 <| And.intro @At.ren.eq_1 <| And.intro @At.ren.eq_2 <| And.intro @At.ren.eq_3 <| And.intro @At.ren.eq_4 <| And.intro @At.ren.eq_5 <| And.intro @Res.ren.eq_1 <| And.intro @Res.ren.eq_2 <| And.intro @Res.ren.eq_3 <| And.intro @Res.ren.eq_4 <| And.intro @Res.ren.eq_5 <| And.intro @Res.ren.eq_6 <| And.intro @SV.bd.eq_1 <| And.intro @SV.bd.eq_2 <| And.intro @SV.bd.eq_3 <| And.intro @Vc.S1.bd.eq_1 <| And.intro @Vc.S1.bd.eq_2 <| And.intro @At.bd.eq_1 <| And.intro @At.bd.eq_2 <| And.intro @At.bd.eq_3 <| And.intro @At.bd.eq_4 <| And.intro @At.bd.eq_5 <| And.intro @At.bd.eq_6 <| And.intro @Res.bd.eq_1 <| And.intro @Res.bd.eq_2 <| And.intro @Res.bd.eq_3 <| And.intro @Res.bd.eq_4 <| And.intro @Res.bd.eq_5 <| And.intro @Res.bd.eq_6 <| And.intro @Vc.upd.eq_1 <| And.intro @Vc.del.eq_1 <| And.intro @Kd.enc.eq_1 <| And.intro @Kd.enc.eq_2 <| And.intro @Kd.enc.eq_3 <| And.intro @Kd.enc.eq_4 <| And.intro @Kd.enc.eq_5 <| And.intro @Kd.enc.eq_6 <| And.intro @Kd.enc.eq_7 <| And.intro @Value.oneCell'.eq_1 <| And.intro @Value.oneCell'.eq_2 <| @Value.oneCell'.eq_3) :=
  ⟨@Ul.eq_1, @Ul.eq_2, @Rb.eq_1, @Rb.eq_2, @Vc.bnd.eq_1, @Vc.bnd.eq_2, @St.get.eq_1, @St.find.eq_1, @Z1.eq_1, @Z1.eq_2, @SV.ren.eq_1, @SV.ren.eq_2, @SV.ren.eq_3, @Vc.S1.ren.eq_1, @Vc.S1.ren.eq_2, @At.ren.eq_1, @At.ren.eq_2, @At.ren.eq_3, @At.ren.eq_4, @At.ren.eq_5, @Res.ren.eq_1, @Res.ren.eq_2, @Res.ren.eq_3, @Res.ren.eq_4, @Res.ren.eq_5, @Res.ren.eq_6, @SV.bd.eq_1, @SV.bd.eq_2, @SV.bd.eq_3, @Vc.S1.bd.eq_1, @Vc.S1.bd.eq_2, @At.bd.eq_1, @At.bd.eq_2, @At.bd.eq_3, @At.bd.eq_4, @At.bd.eq_5, @At.bd.eq_6, @Res.bd.eq_1, @Res.bd.eq_2, @Res.bd.eq_3, @Res.bd.eq_4, @Res.bd.eq_5, @Res.bd.eq_6, @Vc.upd.eq_1, @Vc.del.eq_1, @Kd.enc.eq_1, @Kd.enc.eq_2, @Kd.enc.eq_3, @Kd.enc.eq_4, @Kd.enc.eq_5, @Kd.enc.eq_6, @Kd.enc.eq_7, @Value.oneCell'.eq_1, @Value.oneCell'.eq_2, @Value.oneCell'.eq_3⟩
theorem Ent.mk1 {c : Cx} {S S2 : St} (σ : Nat → Nat) (h : Ul σ S S2.slots ∧ Rb σ S S2.nx S2.res ∧ bnd S2.nx S2.slots ∧ (S2.res.map fun p => σ p.1).Nodup) : Ent c S S2 := Ent.mk σ h.1 h.2.1 h.2.2.1 h.2.2.2
end Vc
end Go.Proofs.YtjochhncheheaaaGreatDoor
