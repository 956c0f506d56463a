/- General contracts: how a function keeps one, how a call uses one. -/
import Derived.Test.YtccjjcdjgibilaaDoorVcGd
namespace Go.Proofs.YtccjjcdjgibilaaDoor
namespace Vc
open Go.RowKit
set_option linter.unusedVariables false
set_option linter.unusedSimpArgs false
@[reducible] def Bnd := List (Nat × At)
def Yh : At → At → Bnd → Bnd
  | .ref n, x, b => (n, x) :: b
  | .loc n 0, .loc m 0, b => (n, .ref m) :: b
  | .loc n 0, x, b => (n, x) :: b
  | _, _, b => b
def Yd : List At → List At → Bnd → Bnd
  | x :: l, y :: m, b => Yd l m (Yh x y b)
  | _, _, b => b
def Yg : S1 → S1 → Bnd → Bnd
  | .a x, .a y, b => Yh x y b
  | .agg l, .agg m, b => Yd l m b
  | _, _, b => b
def Zp : List S1 → List S1 → Bnd → Bnd
  | x :: l, y :: m, b => Zp l m (Yg x y b)
  | _, _, b => b
def Yb : SV → SV → Bnd → Bnd
  | .one x, .one y, b => Yg x y b
  | .tup l, .tup m, b => Zp l m b
  | .opt _ x, .opt _ y, b => Yg x y b
  | _, _, b => b
def Zr (S : St) (r : Res) (x : Option At) (b : Bnd) : Bnd :=
  match r, x with
  | .cells _ cs, some (.ref m) => (match S.find m with
    | some (.cells _ cs') => Yd cs cs' b
    | _ => b)
  | .lit _ _ _ cs, some (.ref m) => (match S.find m with
    | some (.lit _ _ _ cs') => Yd cs cs' b
    | _ => b)
  | .rocells cs, some (.ref m) => (match S.find m with
    | some (.cells _ cs') => Yd cs cs' b
    | some (.rocells cs') => Yd cs cs' b
    | _ => b)
  | .rocells cs, some (.loc m o) => (match S.find m with
    | some (.cells _ cs') => Yd cs (cs'.drop o) b
    | some (.rocells cs') => Yd cs (cs'.drop o) b
    | _ => b)
  | _, _ => b
def Z9 (S : St) : List (Nat × Res) → Bnd → Bnd
  | [], b => b
  | (n, r) :: l, b => Z9 S l (Zr S r (Zd b n) b)
def Ys (S : St) : Nat → List Nat → Bnd → Bnd
  | _, [], b => b
  | i, k :: l, b => Ys S (i + 1) l (match S.get i with
    | some (.one (.a x)) => (k, x) :: b
    | _ => b)
def sg (b : Bnd) (n : Nat) : At := match Zd b n with
  | some (.raw v) => if v.oneCell' = true then .raw v else .raw X2
  | some x => x
  | none => .raw X2
theorem H4 (b : Bnd) (n : Nat) {ρ : Env} (h : ∀ n, (ρ n).oneCell' = true) : ((sg b n).den ρ).oneCell' = true := by
  unfold sg
  split
  · split
    · assumption
    · rfl
  · rename_i x hx hl
    cases x with
    | raw v => exact absurd rfl (hx v)
    | ref m => exact h m
    | loc m o => exact Ki _ _
    | elt m sz i j => exact L4 _ _
    | _ => rfl
  · rfl
def Td (p : Nat → Prop) : List S1 → Prop
  | [] => True
  | x :: l => x.okN p ∧ Td p l
def U8 (p : Nat → Prop) : List (Nat × Res) → Prop
  | [] => True
  | (n, r) :: l => (p n ∧ r.okN p) ∧ U8 p l
def W4 : List (Nat × Res) → Bool
  | [] => true
  | (_, r) :: l => r.outOk && W4 l
def Wt (R : List (Nat × Res)) : List Nat → Prop
  | [] => True
  | k :: l => (match Zd R k with | some r => r.own = true | none => False) ∧ Wt R l
theorem On {p : Nat → Prop} : ∀ {l : List S1}, Td p l → ∀ x ∈ l, x.okN p
  | y :: l, h, x, hx => by
    rcases List.mem_cons.1 hx with rfl | hx
    · exact h.1
    · exact On h.2 x hx
theorem Vj {p : Nat → Prop} : ∀ {l : List (Nat × Res)}, U8 p l → ∀ n r, (n, r) ∈ l → p n ∧ r.okN p
  | (m, s) :: l, h, n, r, hx => by
    rcases List.mem_cons.1 hx with e | hx
    · cases e; exact h.1
    · exact Vj h.2 n r hx
theorem T5 : ∀ {l : List (Nat × Res)}, W4 l = true → ∀ n r, (n, r) ∈ l → r.outOk = true
  | (m, s) :: l, h, n, r, hx => by
    simp only [W4, Bool.and_eq_true] at h
    rcases List.mem_cons.1 hx with e | hx
    · cases e; exact h.1
    · exact T5 h.2 n r hx
theorem Tt {R : List (Nat × Res)} : ∀ {l : List Nat}, Wt R l → ∀ n ∈ l, ∃ r, (n, r) ∈ R ∧ r.own = true
  | k :: l, h, n, hn => by
    rcases List.mem_cons.1 hn with rfl | hn
    · have := h.1
      split at this
      · rename_i r hr; exact ⟨r, Wu hr, this⟩
      · exact this.elim
    · exact Tt h.2 n hn
theorem J0 {r : Res} (h : r.outOk = true) : r.own = true := by cases r <;> simp_all [Res.outOk, Res.own]
def U4 (args : List S1) (R : List (Nat × Res)) (nx : Nat) (keep : List Nat) (v : SV) (R' : List (Nat × Res)) (nx' : Nat) : Prop :=
  Td (fun n => n < nx) args ∧ U8 (fun n => n < nx) R ∧ (R.map Prod.fst).Nodup ∧ Wt R keep ∧ v.okN (fun n => (n ∈ keep ∨ nx ≤ n) ∧ n < nx') ∧ U8 (fun n => (n ∈ keep ∨ nx ≤ n) ∧ n < nx') R' ∧ (R'.map Prod.fst).Nodup ∧ W4 R' = true ∧ nx ≤ nx'
structure GC (P : Program) (f : Nat) (args : List S1) (R : List (Nat × Res)) (nx : Nat) (keep : List Nat) (v : SV) (R' : List (Nat × Res)) (nx' : Nat) : Prop where
  wf : U4 args R nx keep v R' nx'
  run : ∀ ρ w, Mem ⟨P, w, Xv ρ R, 0, []⟩ ρ R nx w → Calls P f (args.map (S1.den ρ)).toArray w fun e w' => ∃ ρ', (∀ n ∈ keep, ρ' n = ρ n) ∧ e = .returned (v.den ρ') ∧ Mem ⟨P, w, Xv ρ R, 0, []⟩ ρ' R' nx' w'
def Ut (G : Nat) (H : Nat → Option Obj) (w : World) (X : List Nat) : Prop := G ≤ w.heap.size ∧ (∀ b, b < G → w.heap[b]? = H b) ∧ ∀ b ∈ X, G ≤ b
theorem Ut.zero (H : Nat → Option Obj) (w : World) (X : List Nat) : Ut 0 H w X := ⟨Nat.zero_le _, fun b hb => by omega, fun b _ => Nat.zero_le _⟩
structure GCp (G : Nat) (H : Nat → Option Obj) (P : Program) (f : Nat) (args : List S1) (R : List (Nat × Res)) (nx : Nat) (keep : List Nat) (v : SV) (R' : List (Nat × Res)) (nx' : Nat) : Prop where
  wf : U4 args R nx keep v R' nx'
  run : ∀ ρ w, Mem ⟨P, w, Xv ρ R, 0, []⟩ ρ R nx w → Ut G H w (Xv ρ R) → Calls P f (args.map (S1.den ρ)).toArray w fun e w' => ∃ ρ', (∀ n ∈ keep, ρ' n = ρ n) ∧ e = .returned (v.den ρ') ∧ Mem ⟨P, w, Xv ρ R, 0, []⟩ ρ' R' nx' w'
theorem GC.gcp {G : Nat} {H : Nat → Option Obj} {P : Program} {f : Nat} {args : List S1} {R : List (Nat × Res)} {nx : Nat} {keep : List Nat} {v : SV} {R' : List (Nat × Res)} {nx' : Nat} (h : GC P f args R nx keep v R' nx') : GCp G H P f args R nx keep v R' nx' :=
  ⟨h.wf, fun ρ w hm _ => h.run ρ w hm⟩
theorem GCp.gc {H : Nat → Option Obj} {P : Program} {f : Nat} {args : List S1} {R : List (Nat × Res)} {nx : Nat} {keep : List Nat} {v : SV} {R' : List (Nat × Res)} {nx' : Nat} (h : GCp 0 H P f args R nx keep v R' nx') : GC P f args R nx keep v R' nx' :=
  ⟨h.wf, fun ρ w hm => h.run ρ w hm (Ut.zero H w _)⟩
theorem Mem.cx {P : Program} {w0 w : World} {X : List Nat} {nt nt' : Nat} {fr fr' : List Value} {ρ : Env} {R : List (Nat × Res)} {nx : Nat} (h : Mem ⟨P, w0, X, nt, fr⟩ ρ R nx w) : Mem ⟨P, w0, X, nt', fr'⟩ ρ R nx w :=
  ⟨h.os, h.tape, h.output, h.size, h.block, h.one, h.keys, h.res, h.bdr, h.nodup, h.lt⟩
theorem Jy {σ : Nat → At} {ρ ρ' : Env} {O O' : List Nat} {n m : Nat} {w : World} {r : Res} {p : Nat → Prop} (hσ : ∀ n, p n → (σ n).den ρ = ρ' n) (hn : ρ' n = ρ m) (hok : r.okN p) (ho : r.own = true) (hO : ∀ b ∈ O', b ∈ O)
    (h : (r.sub σ).holds ρ O m w) : r.holds ρ' O' n w := by
  cases r <;> simp only [Res.own, Bool.false_eq_true] at ho
  case cells E l =>
    obtain ⟨b, h1, h2⟩ := h
    exact ⟨b, by rw [hn]; exact h1, by rw [← Tp hσ hok]; exact h2⟩
  case lit E sz e l =>
    obtain ⟨b, h1, h2, h3⟩ := h
    exact ⟨b, by rw [hn]; exact h1, by simpa using h2, by rw [← Tp hσ hok]; exact h3⟩
  case row E k l =>
    simp only [Res.sub, Res.holds] at h ⊢
    rw [hn, k.encs_den l ρ ρ']; exact h
  case smap P K E k f q =>
    simp only [Res.sub, Res.holds] at h ⊢
    rw [hn]; exact h
  case urow base E l =>
    obtain ⟨us, h1, h2, h3⟩ := h
    exact ⟨us, h1, by rw [hn]; exact h2, fun i u x hu hx => ⟨(h3 i u x hu hx).1, (h3 i u x hu hx).2.1, (h3 i u x hu hx).2.2.sub hO⟩⟩
theorem Pa {σ : Nat → At} {ρ ρ' : Env} {n m : Nat} {r : Res} (hn : ρ' n = ρ m) : (r.sub σ).block ρ m = r.block ρ' n := by
  cases r <;> simp only [Res.sub, Res.block, hn]
theorem Sk {ρ : Env} {n b : Nat} {r : Res} (h : r.block ρ n = some b) : r.own = true := by
  cases r <;> simp_all [Res.block, Res.own]
def frS : Nat → List Nat → List (Nat × SV)
  | _, [] => []
  | i, k :: l => (i, .one (.a (.ref k))) :: frS (i + 1) l
def Yt (S : St) (τ : Nat → At) : Nat → List Nat → Prop
  | _, [] => True
  | i, k :: l => (match τ k with | .ref m => S.get i = some (.one (.a (.ref m))) | _ => False) ∧ Yt S τ (i + 1) l
def Ym (S : St) (τ : Nat → At) (r : Res) : At → Prop
  | .ref m => S.find m = some (r.sub τ)
  | .raw (.slice none 0 0) => (match r with | .row _ _ l => l = [] | _ => False)
  | _ => False
def Yp (S : St) (τ : Nat → At) : List (Nat × Res) → Prop
  | [] => True
  | (n, r) :: l => Ym S τ r (τ n) ∧ Yp S τ l
theorem Pb {S : St} {τ : Nat → At} : ∀ {l : List (Nat × Res)}, Yp S τ l → ∀ n r, (n, r) ∈ l → Ym S τ r (τ n)
  | (m, s) :: l, h, n, r, hx => by
    rcases List.mem_cons.1 hx with e | hx
    · cases e; exact h.1
    · exact Pb h.2 n r hx
def Xo (keep : List Nat) (v : SV) (R' : List (Nat × Res)) (u : SV) (S : St) (τ : Nat → At) : Prop :=
  u = v.sub τ ∧ Yt S τ 1000000 keep ∧ Yp S τ R' ∧ (Z3 τ R').Nodup
def Xi (keep : List Nat) (v : SV) (R' : List (Nat × Res)) (u : SV) (S : St) : Prop :=
  Xo keep v R' u S (sg (Z9 S R' (Yb v u (Ys S 1000000 keep []))))
theorem Jp : ∀ {l : List Nat} {i t : Nat} {v : SV}, Zd (frS i l) t = some v → ∃ j k, t = i + j ∧ l[j]? = some k ∧ v = .one (.a (.ref k))
  | k :: l, i, t, v, h => by
    rcases look_cons h with ⟨rfl, rfl⟩ | ⟨_, h⟩
    · exact ⟨0, k, rfl, rfl, rfl⟩
    · obtain ⟨j, q, h1, h2, h3⟩ := Jp h
      exact ⟨j + 1, q, by omega, h2, h3⟩
theorem Nv {S : St} {τ : Nat → At} : ∀ {l : List Nat} {i j k : Nat}, Yt S τ i l → l[j]? = some k → ∃ m, τ k = .ref m ∧ S.get (i + j) = some (.one (.a (.ref m)))
  | q :: l, i, 0, k, h, hj => by
    simp at hj; subst hj
    have := h.1
    split at this
    · rename_i m hm; exact ⟨m, hm, this⟩
    · exact this.elim
  | q :: l, i, j + 1, k, h, hj => by
    obtain ⟨m, h1, h2⟩ := Nv h.2 (by simpa using hj)
    exact ⟨m, h1, by rw [← h2]; congr 1; omega⟩
theorem look_append {α : Type} {l m : List (Nat × α)} {t : Nat} {v : α} (h : Zd (l ++ m) t = some v) : Zd l t = some v ∨ Zd m t = some v := by
  induction l with
  | nil => exact .inr h
  | cons p l ih =>
    rcases look_cons h with ⟨rfl, rfl⟩ | ⟨hne, h⟩
    · left; simp [Zd]
    · rcases ih h with h1 | h1
      · left; simp only [Zd]; rw [if_neg hne]; exact h1
      · exact .inr h1
theorem Body.callsF {P : Program} {f nt : Nat} {x : IC} {rl : List RV} (hF : Body P f nt x rl) {w : World} {X : List Nat} {fr : List Value} {args : Array Value} {S : St} {ρ : Env} {R : SV → St → Prop} {Post : Ending → World → Prop}
    (hlen : args.size ≤ nt) (hs : ∀ t v, S.get t = some v → (if t < BIG then args[t]? else fr[t - BIG]?) = some (v.den ρ) ∧ v.bd S.nx) (hm : Mem ⟨P, w, X, nt, fr⟩ ρ S.res S.nx w) (hT : T ⟨P, w, X, nt, fr⟩ x (Y0 ⟨P, w, X, nt, fr⟩ rl R) S)
    (hpost : ∀ v S' ρ' w', R v S' → v.bd S'.nx → Mem ⟨P, w, X, nt, fr⟩ ρ' S'.res S'.nx w' → (∀ t u, S'.get t = some u → BIG ≤ t → fr[t - BIG]? = some (u.den ρ')) → Post (.returned (v.den ρ')) w') : Calls P f args w Post := by
  obtain ⟨fn, code, h1, h2, h3, h4, h5⟩ := hF.ok
  refine calls_of_wp h1 h2 ?_
  have hh : S.holds ⟨P, w, X, nt, fr⟩ ρ { tmps := args ++ Array.replicate (fn.ntmps - args.size) undef, defers := [] } w := by
    refine ⟨rfl, by simp [h3]; omega, hF.lown, fun t v hv => ?_, fun t v hv => (hs t v hv).2, hm⟩
    have := (hs t v hv).1
    unfold R3
    split
    rotate_left
    · rename_i hb; rwa [if_neg hb] at this
    rename_i hb
    rw [if_pos hb] at this
    have hlt : t < args.size := (Array.getElem?_eq_some_iff.1 this).1
    rw [Array.getElem?_append_left hlt]; exact this
  refine wp_mono (hT ρ _ w hh code h4) fun e a' w' hl => ?_
  obtain ⟨S', ρ', g1, g2⟩ := hl
  have fin : (match rvs S' rl with | some vs => R (Y6 vs) S' | none => False) → a'.defers = [] ∧ ∃ v, (results fn a'.tmps).run P w' = .ok v w' ∧ Post (.returned v) w' := by
    intro h
    split at h
    · rename_i vs hvs
      obtain ⟨r1, r2⟩ := R1 g1 h5 hvs
      refine ⟨g1.nodef, _, r1, hpost _ _ _ _ h r2 g1.mem fun t u hu hb => ?_⟩
      have := g1.slot t u hu
      unfold R3 at this
      rwa [if_neg (by omega)] at this
    · exact h.elim
  cases e with
  | normal => exact fin g2
  | ret => exact fin g2
  | _ => exact g2.elim
theorem Body.gcp {G : Nat} {H : Nat → Option Obj} {P : Program} {f nt : Nat} {x : IC} {rl : List RV} (hF : Body P f nt x rl) {args : List S1} {R : List (Nat × Res)} {nx : Nat} {keep : List Nat} {v : SV} {R' : List (Nat × Res)} {nx' : Nat}
    (hlen : args.length ≤ nt) (hwf : U4 args R nx keep v R' nx')
    (hT : ∀ w X fr, Ut G H w X → T ⟨P, w, X, nt, fr⟩ x (Y0 ⟨P, w, X, nt, fr⟩ rl (Xi keep v R')) ⟨Zc 0 args ++ frS 1000000 keep, R, nx⟩) : GCp G H P f args R nx keep v R' nx' := by
  refine ⟨hwf, fun ρ w hm hglob => ?_⟩
  obtain ⟨w1, w2, w3, w4, w5, w6, w7, w8, w9⟩ := hwf
  refine hF.callsF (S := ⟨Zc 0 args ++ frS 1000000 keep, R, nx⟩) (ρ := ρ) (X := Xv ρ R) (fr := keep.map ρ) (R := Xi keep v R') (by simpa using hlen) (fun t u hu => ?_) hm.cx (hT _ _ _ hglob) fun u S' ρ' w' hend hub hm' hfr => ?_
  · rcases look_append hu with hu | hu
    · obtain ⟨j, h1, h2, h3⟩ := Ty (ρ := ρ) (nx := nx) (fun v hv => S1.okN_bd (On w1 v hv)) hu
      simp only [Nat.zero_add] at h1
      subst h1
      have hjl : t < BIG := by
        have := (List.getElem?_eq_some_iff.1 h2).1
        have h4 := hF.lown
        simp only [List.length_map] at this
        omega
      exact ⟨by rw [if_pos hjl]; simpa using h2, h3⟩
    · obtain ⟨j, k, h1, h2, rfl⟩ := Jp hu
      obtain ⟨r, h3, _⟩ := Tt w4 k (List.mem_of_getElem? h2)
      refine ⟨?_, (Vj w2 k r h3).1⟩
      have hb : ¬ t < BIG := by show ¬ t < 1000000; omega
      rw [if_neg hb]
      have : t - BIG = j := by show t - 1000000 = j; omega
      rw [this, List.getElem?_map, h2]; rfl
  · obtain ⟨e1, e2, e3, e4⟩ := hend
    generalize hτ : sg (Z9 S' R' (Yb v u (Ys S' 1000000 keep []))) = τ at e1 e2 e3 e4
    have hone : ∀ n, ((τ n).den ρ').oneCell' = true := fun n => by rw [← hτ]; exact H4 _ n hm'.one
    have hT : ∀ n, True → (τ n).den ρ' = (fun n => (τ n).den ρ') n := fun n _ => rfl
    have hok : ∀ n r, (n, r) ∈ R' → r.okN fun _ => True := fun n r hr => by
      have := (Vj w6 n r hr).2
      have hout := T5 w8 n r hr
      cases r <;> simp only [Res.outOk, Bool.false_eq_true] at hout <;> first | trivial | exact fun y hy => At.okN_mono (fun _ _ => trivial) (this y hy)
    have hown : ∀ n r b, (n, r) ∈ R' → r.block (fun n => (τ n).den ρ') n = some b → ∃ m, τ n = .ref m ∧ (m, r.sub τ) ∈ S'.res ∧ (r.sub τ).block ρ' m = some b := fun n r b hr hb => by
      have h1 := Pb e3 n r hr
      unfold Ym at h1
      split at h1
      · rename_i m hm2
        refine ⟨m, hm2, Xl h1, ?_⟩
        rw [Pa (ρ' := fun n => (τ n).den ρ') (n := n) (by simp only [hm2, At.den])]
        exact hb
      · rename_i hm2
        split at h1
        · simp only [Res.block, hm2, At.den, Value.ownBlock] at hb; cases hb
        · exact h1.elim
      · exact h1.elim
    have hsub : ∀ b ∈ Xv (fun n => (τ n).den ρ') R', b ∈ Xv ρ' S'.res := fun b hb => by
      obtain ⟨p, hp, hpb⟩ := List.mem_filterMap.1 hb
      obtain ⟨m, h1, h2, h3⟩ := hown p.1 p.2 b hp hpb
      exact List.mem_filterMap.2 ⟨_, h2, h3⟩
    refine ⟨fun n => (τ n).den ρ', fun n hn => ?_, ?_, hm'.os, hm'.tape, hm'.output, hm'.size, hm'.block, hone, w7, fun n r hr => ?_, fun n r hr => ?_, ?_, fun b hb => hm'.lt b (hsub b hb)⟩
    · obtain ⟨j, hj⟩ := List.getElem?_of_mem hn
      obtain ⟨m, h1, h2⟩ := Nv e2 hj
      have := hfr _ _ h2 (by show 1000000 ≤ 1000000 + j; omega)
      have h4 : 1000000 + j - BIG = j := by show 1000000 + j - 1000000 = j; omega
      rw [h4, List.getElem?_map, hj] at this
      simp only [Option.map_some, Option.some.injEq, SV.den, S1.den, At.den] at this
      simp only [h1, At.den]
      exact this.symm
    · rw [e1]
      congr 1
      refine SV.sub_den (p := fun n => (n ∈ keep ∨ nx ≤ n) ∧ n < nx') (fun n _ => rfl) w5
    · have h1 := Pb e3 n r hr
      unfold Ym at h1
      split at h1
      · rename_i m hm2
        exact Jy (p := fun _ => True) hT (by simp only [hm2, At.den]) (hok n r hr) (J0 (T5 w8 n r hr)) hsub (hm'.res _ _ (Xl h1))
      · rename_i hm2
        split at h1
        · rename_i E k l
          subst h1
          simp only [Res.holds, hm2, At.den]
          exact World.ownsRow_nil w' 0 E k.sz
        · exact h1.elim
      · exact h1.elim
    · obtain ⟨h1, h2⟩ := Vj w6 n r hr
      refine ⟨h1.2, ?_⟩
      have hout := T5 w8 n r hr
      cases r <;> simp only [Res.outOk, Bool.false_eq_true] at hout <;> first | trivial | exact fun y hy => At.okN_bd (At.okN_mono (fun _ h => h.2) (h2 y hy))
    · have key : ∀ (l : List (Nat × Res)), (∀ p ∈ l, p ∈ R') → (l.map Prod.fst).Nodup → (Xv (fun n => (τ n).den ρ') l).Nodup := by
        intro l
        induction l with
        | nil => intro _ _; exact List.nodup_nil
        | cons p l ih =>
          intro hin hnd
          simp only [List.map_cons, List.nodup_cons] at hnd
          have ih' := ih (fun q hq => hin q (by simp [hq])) hnd.2
          unfold Xv
          rw [List.filterMap_cons]
          split
          · exact ih'
          · rename_i b hb
            refine List.nodup_cons.2 ⟨fun hmem2 => ?_, ih'⟩
            obtain ⟨q, hq, hqb⟩ := List.mem_filterMap.1 hmem2
            obtain ⟨m1, a1, a2, a3⟩ := hown p.1 p.2 b (hin p (by simp)) hb
            obtain ⟨m2, b1, b2, b3⟩ := hown q.1 q.2 b (hin q (by simp [hq])) hqb
            have hne : m2 ≠ m1 := fun e => by
              have := Q8 e4 (hin p (by simp)) (hin q (by simp [hq])) (Sk hb) (Sk hqb) a1 (e ▸ b1)
              exact hnd.1 (by rw [this]; exact List.mem_map.2 ⟨q, hq, rfl⟩)
            have h5 := W2 (ds := [m1]) hm'.keys hm'.nodup a2 (by simp) a3
            exact h5 (List.mem_filterMap.2 ⟨_, List.mem_filter.2 ⟨b2, by simp [hne]⟩, b3⟩)
      exact key R' (fun _ h => h) w7
theorem Body.gc {P : Program} {f nt : Nat} {x : IC} {rl : List RV} (hF : Body P f nt x rl) {args : List S1} {R : List (Nat × Res)} {nx : Nat} {keep : List Nat} {v : SV} {R' : List (Nat × Res)} {nx' : Nat}
    (hlen : args.length ≤ nt) (hwf : U4 args R nx keep v R' nx')
    (hT : ∀ w X fr, T ⟨P, w, X, nt, fr⟩ x (Y0 ⟨P, w, X, nt, fr⟩ rl (Xi keep v R')) ⟨Zc 0 args ++ frS 1000000 keep, R, nx⟩) : GC P f args R nx keep v R' nx' :=
  GCp.gc (H := fun _ => none) (hF.gcp hlen hwf fun w X fr _ => hT w X fr)
theorem GCp.plain {G : Nat} {H : Nat → Option Obj} {P : Program} {f : Nat} {args : List S1} {v : SV} (hb : ∀ x ∈ args, x.bd 0) (hv : v.bd 0) (hwf : U4 args [] 0 [] v [] 0)
    (h : ∀ w, Ut G H w [] → Calls P f (args.map (S1.den Vb)).toArray w fun e w' => e = .returned (v.den Vb) ∧ Below w.heap.size w w') : GCp G H P f args [] 0 [] v [] 0 :=
  ⟨hwf, fun ρ w hm hg => by
    rw [Rh (ρ := ρ) hb]
    exact (h w hg).mono fun e w' ⟨he, hbl⟩ => ⟨ρ, (fun n hn => nomatch hn), by rw [he, SV.den_same (nx := 0) (ρ := Vb) (ρ' := ρ) (fun n hn => by omega) hv], hm.below hbl⟩⟩
end Vc
end Go.Proofs.YtccjjcdjgibilaaDoor
