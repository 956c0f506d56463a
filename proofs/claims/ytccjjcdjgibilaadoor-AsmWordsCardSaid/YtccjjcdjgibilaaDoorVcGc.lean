/- General contracts: a call takes named resources and leaves named resources; a call is matched to its contract by names. Plain definitions and lemmas. -/
import Derived.Test.YtccjjcdjgibilaaDoorVcLib
namespace Go.Proofs.YtccjjcdjgibilaaDoor
namespace Vc
open Go.RowKit
set_option linter.unusedVariables false
set_option linter.unusedSimpArgs false
def At.okN (p : Nat → Prop) : At → Prop
  | .ref n => p n
  | .loc n _ => p n
  | .elt n _ _ _ => p n
  | .clo _ ms => ms = []
  | .raw v => v.oneCell' = true
  | _ => True
def S1.okN (p : Nat → Prop) : S1 → Prop
  | .a x => x.okN p
  | .agg l => ∀ x ∈ l, x.okN p
def SV.okN (p : Nat → Prop) : SV → Prop
  | .one x => x.okN p
  | .tup l => ∀ x ∈ l, x.okN p
  | .opt _ x => x.okN p
def Res.okN (p : Nat → Prop) : Res → Prop
  | .cells _ l => ∀ x ∈ l, x.okN p
  | .lit _ _ _ l => ∀ x ∈ l, x.okN p
  | .rocells l => ∀ x ∈ l, x.okN p
  | .view _ _ _ _ => False
  | _ => True
def At.sub (σ : Nat → At) : At → At
  | .ref n => σ n
  | .loc n o => match σ n with
    | .ref m => .loc m o
    | .loc m o' => .loc m (o' + o)
    | .elt m sz i j => .elt m sz i (j + o)
    | .raw v => .raw (Ub v o)
    | _ => .raw X2
  | .elt n sz i j => match σ n with
    | .ref m => .elt m sz i j
    | .raw v => .raw (Us v (i * sz + j))
    | _ => .raw X2
  | x => x
def S1.sub (σ : Nat → At) : S1 → S1
  | .a x => .a (x.sub σ)
  | .agg l => .agg (l.map (At.sub σ))
def SV.sub (σ : Nat → At) : SV → SV
  | .one x => .one (x.sub σ)
  | .tup l => .tup (l.map (S1.sub σ))
  | .opt g x => .opt g (x.sub σ)
def Res.sub (σ : Nat → At) : Res → Res
  | .cells E l => .cells E (l.map (At.sub σ))
  | .lit E sz m l => .lit E sz m (l.map (At.sub σ))
  | .rocells l => .rocells (l.map (At.sub σ))
  | r => r
theorem Is (v : Value) (a b : Nat) : Ub (Ub v a) b = Ub v (a + b) := by
  unfold Ub
  split <;> simp_all [X2]
  · rename_i h; split at h <;> simp_all [X2] <;> (try omega)
    subst h; simp; omega
  · rename_i h
    split at h
    · exact absurd rfl (h _)
    · rfl
theorem J9 (v : Value) (a b : Nat) : Ub (Us v a) b = Us v (a + b) := by
  cases v with
  | slice a' l c =>
    cases a' with
    | none => rfl
    | some x => simp only [Us, Ub, Nat.add_assoc]
  | _ => rfl
theorem J3 (v : Value) (a b : Nat) : Us (Ub v a) b = X2 := by
  unfold Ub
  split <;> rfl
theorem Io (v : Value) (a b : Nat) : Us (Us v a) b = X2 := by
  cases v with
  | slice a' l c => cases a' <;> rfl
  | _ => rfl
theorem At.sub_den {σ : Nat → At} {ρ ρ' : Env} {p : Nat → Prop} (h : ∀ n, p n → (σ n).den ρ = ρ' n) {x : At} (hx : x.okN p) : (x.sub σ).den ρ = x.den ρ' := by
  cases x with
  | ref n => exact h n hx
  | loc n o =>
    have hn := h n hx
    simp only [At.sub, At.den, ← hn]
    cases hσ : σ n with
    | ref m => rfl
    | loc m o' => simp only [At.den, Is]
    | elt m sz i j => simp only [At.den, J9, Nat.add_assoc]
    | raw v => rfl
    | _ => rfl
  | elt n sz i j =>
    have hn := h n hx
    simp only [At.sub, At.den, ← hn]
    cases hσ : σ n with
    | ref m => rfl
    | loc m o' => simp only [At.den, J3]
    | elt m sz i j => simp only [At.den, Io]
    | raw v => rfl
    | _ => rfl
  | clo f ms => have : ms = [] := hx; subst this; rfl
  | _ => rfl
theorem Tp {σ : Nat → At} {ρ ρ' : Env} {p : Nat → Prop} (h : ∀ n, p n → (σ n).den ρ = ρ' n) {l : List At} (hl : ∀ x ∈ l, x.okN p) : (l.map (At.sub σ)).map (At.den ρ) = l.map (At.den ρ') := by
  rw [List.map_map]; exact List.map_congr_left fun x hx => At.sub_den h (hl x hx)
theorem S1.sub_den {σ : Nat → At} {ρ ρ' : Env} {p : Nat → Prop} (h : ∀ n, p n → (σ n).den ρ = ρ' n) {x : S1} (hx : x.okN p) : (x.sub σ).den ρ = x.den ρ' := by
  cases x with
  | a x => exact At.sub_den h hx
  | agg l => simp only [S1.sub, S1.den, Tp h hx]
theorem SV.sub_den {σ : Nat → At} {ρ ρ' : Env} {p : Nat → Prop} (h : ∀ n, p n → (σ n).den ρ = ρ' n) {x : SV} (hx : x.okN p) : (x.sub σ).den ρ = x.den ρ' := by
  cases x with
  | one x => exact S1.sub_den h hx
  | tup l => simp only [SV.sub, SV.den, List.map_map]; congr 2; exact List.map_congr_left fun x hx' => S1.sub_den h (hx x hx')
  | opt g x => simp only [SV.sub, SV.den, S1.sub_den h hx]
theorem Ki (v : Value) (o : Nat) : (Ub v o).oneCell' = true := by unfold Ub; split <;> rfl
theorem L4 (v : Value) (o : Nat) : (Us v o).oneCell' = true := by unfold Us; split <;> rfl
theorem At.sub_bd {σ : Nat → At} {nx : Nat} {p : Nat → Prop} (h : ∀ n, p n → (σ n).bd nx) {x : At} (hx : x.okN p) : (x.sub σ).bd nx := by
  cases x with
  | ref n => exact h n hx
  | loc n o =>
    have hn := h n hx
    simp only [At.sub]
    cases hσ : σ n <;> rw [hσ] at hn <;> first | exact hn | exact Ki _ _ | rfl
  | elt n sz i j =>
    have hn := h n hx
    simp only [At.sub]
    cases hσ : σ n <;> rw [hσ] at hn <;> first | exact hn | exact L4 _ _ | rfl
  | clo f ms => have : ms = [] := hx; subst this; intro m hm; cases hm
  | raw v => exact hx
  | _ => trivial
theorem S1.sub_bd {σ : Nat → At} {nx : Nat} {p : Nat → Prop} (h : ∀ n, p n → (σ n).bd nx) {x : S1} (hx : x.okN p) : (x.sub σ).bd nx := by
  cases x with
  | a x => exact At.sub_bd h hx
  | agg l => intro y hy; obtain ⟨z, hz, rfl⟩ := List.mem_map.1 hy; exact At.sub_bd h (hx z hz)
theorem SV.sub_bd {σ : Nat → At} {nx : Nat} {p : Nat → Prop} (h : ∀ n, p n → (σ n).bd nx) {x : SV} (hx : x.okN p) : (x.sub σ).bd nx := by
  cases x with
  | one x => exact S1.sub_bd h hx
  | tup l => intro y hy; obtain ⟨z, hz, rfl⟩ := List.mem_map.1 hy; exact S1.sub_bd h (hx z hz)
  | opt g x => exact fun _ => S1.sub_bd h hx
theorem Res.sub_bd {σ : Nat → At} {nx : Nat} {p : Nat → Prop} (h : ∀ n, p n → (σ n).bd nx) {x : Res} (hx : x.okN p) : (x.sub σ).bd nx := by
  cases x with
  | cells E l => intro y hy; obtain ⟨z, hz, rfl⟩ := List.mem_map.1 hy; exact At.sub_bd h (hx z hz)
  | lit E sz m l => intro y hy; obtain ⟨z, hz, rfl⟩ := List.mem_map.1 hy; exact At.sub_bd h (hx z hz)
  | rocells l => intro y hy; obtain ⟨z, hz, rfl⟩ := List.mem_map.1 hy; exact At.sub_bd h (hx z hz)
  | view _ _ _ _ => exact hx.elim
  | _ => trivial
theorem At.okN_bd {nx : Nat} {x : At} (hx : x.okN (· < nx)) : x.bd nx := by
  cases x with
  | clo f ms => have : ms = [] := hx; subst this; intro m hm; cases hm
  | _ => exact hx
theorem S1.okN_bd {nx : Nat} {x : S1} (hx : x.okN (· < nx)) : x.bd nx := by
  cases x with
  | a x => exact At.okN_bd hx
  | agg l => exact fun y hy => At.okN_bd (hx y hy)
theorem Res.okN_bd {nx : Nat} {x : Res} (hx : x.okN (· < nx)) : x.bd nx := by
  cases x with
  | cells E l => exact fun y hy => At.okN_bd (hx y hy)
  | lit E sz m l => exact fun y hy => At.okN_bd (hx y hy)
  | rocells l => exact fun y hy => At.okN_bd (hx y hy)
  | view _ _ _ _ => exact hx.elim
  | _ => trivial
theorem At.okN_mono {p q : Nat → Prop} (h : ∀ n, p n → q n) {x : At} (hx : x.okN p) : x.okN q := by
  cases x <;> first | exact h _ hx | exact hx
theorem S1.okN_mono {p q : Nat → Prop} (h : ∀ n, p n → q n) {x : S1} (hx : x.okN p) : x.okN q := by
  cases x with
  | a x => exact At.okN_mono h hx
  | agg l => exact fun y hy => At.okN_mono h (hx y hy)
def roM (S : St) (m : Nat) (k : Kd) (l : List k.ty) : Prop := match S.find m with
  | some (.ro k' l') => Z5 k' k l' = some l
  | some (.row _ k' l') => Z5 k' k l' = some l
  | some (.lit _ z e cs) => l.flatMap k.enc = cs ∧ l.length = e
  | some (.view m0 sz lo hi) => sz = k.sz ∧ (match S.find m0 with
    | some (.ro k' l') => (match Z5 k' k l' with
      | some L => lo ≤ hi ∧ hi ≤ L.length ∧ l = (L.take hi).drop lo
      | none => False)
    | some (.row _ k' l') => (match Z5 k' k l' with
      | some L => lo ≤ hi ∧ hi ≤ L.length ∧ l = (L.take hi).drop lo
      | none => False)
    | _ => False)
  | _ => False
def roA (S : St) (k : Kd) (l : List k.ty) : At → Prop
  | .ref m => roM S m k l
  | .raw (.slice none 0 0) => l = []
  | _ => False
def Wj (S : St) : List At → List (List UInt8 × List Ln) → Prop
  | [], [] => True
  | .str s :: x :: cs, (s', ls) :: l => s = s' ∧ roA S .line ls x ∧ Wj S cs l
  | _, _ => False
def Wh (S : St) (m : Nat) (l : List (List UInt8 × List Ln)) : Prop := match S.find m with
  | some (.rou l') => l' = l
  | some (.urow _ _ l') => l' = l
  | some (.lit _ z e cs) => z = 2 ∧ Wj S cs l ∧ l.length = e
  | _ => False
def Wk (σ : Nat → At) (S : St) (l : List At) : At → Prop
  | .ref m => (match S.find m with
    | some (.cells _ l') => l' = l.map (At.sub σ)
    | some (.rocells l') => l' = l.map (At.sub σ)
    | _ => False)
  | .loc m o => (match S.find m with
    | some (.cells _ l') => o + l.length ≤ l'.length ∧ (l'.drop o).take l.length = l.map (At.sub σ)
    | some (.rocells l') => o + l.length ≤ l'.length ∧ (l'.drop o).take l.length = l.map (At.sub σ)
    | _ => False)
  | _ => False
def Wm (S : St) (m : Nat) (r : Res) : Prop := match S.find m with
  | some (.smap P K E k f q) => Res.rosmap P K E k f q = r
  | some (.rosmap P K E k f q) => Res.rosmap P K E k f q = r
  | _ => False
def roR : List (Nat × Res) → List (Nat × Res)
  | [] => []
  | (n, .cells _ l) :: R => (n, .rocells l) :: roR R
  | (n, .row _ k l) :: R => (n, .ro k l) :: roR R
  | (n, .lit _ _ _ _) :: R => roR R
  | (n, .smap P K E k f q) :: R => (n, .rosmap P K E k f q) :: roR R
  | (n, .urow _ _ l) :: R => (n, .rou l) :: roR R
  | p :: R => p :: roR R
def Hq (P : Program) (R : List (Nat × Res)) (nx f : Nat) (ms : List Nat) (g : List S1 → Option SV) : Prop :=
  X0 P f = true ∧ ∃ nt x rl, Body P f nt x rl ∧ ∀ as r, g as = some r → Zq as ∧ r.bd 0 ∧ as.length + ms.length ≤ nt ∧
    ∀ w, T ⟨P, w, [], nt, []⟩ x (Y0 ⟨P, w, [], nt, []⟩ rl (Xe r)) ⟨Zc 0 (as ++ ms.map fun m => .a (.loc m 0)), roR R, nx⟩
def fnM (P' : Program) (S : St) (P : Program) (g : List S1 → Option SV) : At → Prop
  | .ref m => S.find m = some (.fn P g)
  | .clo f ms => P = P' ∧ (∀ m ∈ ms, m < S.nx) ∧ Hq P S.res S.nx f ms g
  | .raw (.func (.func f) a b) => P = P' ∧ (a = #[] ∧ b = #[]) ∧ Hq P S.res S.nx f [] g
  | _ => False
def Wf (S : St) (r : Res) : At → Prop
  | .ref m => S.find m = some r
  | _ => False
def mtR (P' : Program) (S Sd : St) (σ : Nat → At) (n : Nat) : Res → Prop
  | .ro k l => roA Sd k l (σ n)
  | .rocells l => Wk σ Sd l (σ n)
  | .rou l => (match σ n with | .ref m => Wh Sd m l | .raw (.slice none 0 0) => l = [] | _ => False)
  | .rosmap P K E k f q => (match σ n with | .ref m => Wm Sd m (.rosmap P K E k f q) | _ => False)
  | .fn P g => fnM P' Sd P g (σ n)
  | .cells E l => Wf S (.cells E (l.map (At.sub σ))) (σ n)
  | .lit E sz e l => Wf S (.lit E sz e (l.map (At.sub σ))) (σ n)
  | .row E k l => Wf S (.row E k l) (σ n)
  | .smap P K E k f q => Wf S (.smap P K E k f q) (σ n)
  | .urow b E l => Wf S (.urow b E l) (σ n)
  | _ => False
def Wl (P' : Program) (S Sd : St) (σ : Nat → At) : List (Nat × Res) → Prop
  | [] => True
  | (n, r) :: l => mtR P' S Sd σ n r ∧ Wl P' S Sd σ l
def Y8 : At → Nat
  | .ref m => m
  | _ => 0
def Res.own : Res → Bool
  | .cells _ _ => true
  | .lit _ _ _ _ => true
  | .row _ _ _ => true
  | .smap _ _ _ _ _ _ => true
  | .urow _ _ _ => true
  | _ => false
def Res.outOk : Res → Bool
  | .cells _ _ => true
  | .lit _ _ _ _ => true
  | .row _ _ _ => true
  | .smap _ _ _ _ _ _ => true
  | _ => false
def Z3 (σ : Nat → At) : List (Nat × Res) → List Nat
  | [] => []
  | (n, r) :: l => bif r.own then (match σ n with | .ref m => m :: Z3 σ l | _ => Z3 σ l) else Z3 σ l
theorem Kg {P' : Program} {S Sd : St} {σ : Nat → At} : ∀ {R : List (Nat × Res)} {n : Nat} {r : Res}, Wl P' S Sd σ R → (n, r) ∈ R → mtR P' S Sd σ n r
  | (m, s) :: R, n, r, h, hm => by
    rcases List.mem_cons.1 hm with e | hm
    · cases e; exact h.1
    · exact Kg h.2 hm
theorem Rv {σ : Nat → At} : ∀ {R : List (Nat × Res)} {n m : Nat} {r : Res}, (n, r) ∈ R → r.own = true → σ n = .ref m → m ∈ Z3 σ R
  | (q, s) :: R, n, m, r, hm, ho, hs => by
    rcases List.mem_cons.1 hm with e | hm
    · cases e; simp [Z3, ho, hs]
    · have := Rv (σ := σ) hm ho hs
      simp only [Z3]
      cases s.own
      · simpa using this
      · simp only [cond_true]; split <;> simp [this]
theorem Ii {σ : Nat → At} : ∀ {R : List (Nat × Res)} {m : Nat}, m ∈ Z3 σ R → ∃ n r, (n, r) ∈ R ∧ r.own = true ∧ σ n = .ref m
  | (n, s) :: R, m, h => by
    have tail : m ∈ Z3 σ R → ∃ n' r, (n', r) ∈ (n, s) :: R ∧ r.own = true ∧ σ n' = .ref m := fun h => by
      obtain ⟨n', r, h1, h2⟩ := Ii (R := R) h
      exact ⟨n', r, List.mem_cons_of_mem _ h1, h2⟩
    simp only [Z3] at h
    cases hs : s.own
    · rw [hs] at h; exact tail h
    · rw [hs] at h
      simp only [cond_true] at h
      split at h
      · rename_i q hq
        rcases List.mem_cons.1 h with e | h
        · exact ⟨n, s, List.mem_cons_self .., hs, by rw [hq, e]⟩
        · exact tail h
      · exact tail h
theorem Q8 {σ : Nat → At} {p q : Nat × Res} {m : Nat} : ∀ {R : List (Nat × Res)}, (Z3 σ R).Nodup → p ∈ R → q ∈ R → p.2.own = true → q.2.own = true → σ p.1 = .ref m → σ q.1 = .ref m → p = q := by
  intro R
  induction R with
  | nil => intro _ hp; cases hp
  | cons z R ih =>
    obtain ⟨n, s⟩ := z
    intro hnd hp hq op oq sp sq
    have tl : (Z3 σ R).Nodup := by
      simp only [Z3] at hnd
      cases hs : s.own
      · rw [hs] at hnd; exact hnd
      · rw [hs] at hnd
        simp only [cond_true] at hnd
        split at hnd
        · exact (List.nodup_cons.1 hnd).2
        · exact hnd
    have hd : ∀ {r : Nat × Res}, r ∈ R → r.2.own = true → σ r.1 = .ref m → s.own = true → σ n = .ref m → False := fun {r} hr o1 s1 o2 s2 => by
      simp only [Z3, o2, s2, cond_true] at hnd
      exact (List.nodup_cons.1 hnd).1 (Rv (n := r.1) (r := r.2) hr o1 s1)
    rcases List.mem_cons.1 hp with e1 | hp
    · rcases List.mem_cons.1 hq with e2 | hq
      · rw [e1, e2]
      · subst e1; exact (hd hq oq sq op sp).elim
    · rcases List.mem_cons.1 hq with e2 | hq
      · subst e2; exact (hd hp op sp oq sq).elim
      · exact ih tl hp hq op oq sp sq
end Vc
end Go.Proofs.YtccjjcdjgibilaaDoor
