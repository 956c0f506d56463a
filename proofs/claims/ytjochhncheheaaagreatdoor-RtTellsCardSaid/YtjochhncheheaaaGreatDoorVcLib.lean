/- Contracts, and calls by them; results that are slices; small plain laws on numbers. -/
import Derived.Test.YtjochhncheheaaaGreatDoorVcFn
namespace Go.Proofs.YtjochhncheheaaaGreatDoor
namespace Vc
open Go.RowKit
set_option linter.unusedVariables false
set_option linter.unusedSimpArgs false
inductive Pat where
  | v (x : S1)
  | ro (k : Kd) (l : List k.ty)
def Oz (w : World) : List Pat → List Value → Prop
  | [], [] => True
  | .v x :: ps, y :: ys => y = x.den Xm ∧ Oz w ps ys
  | .ro k l :: ps, y :: ys => Tm w y k l ∧ Oz w ps ys
  | _, _ => False
def Zr : List Pat → Prop
  | [] => True
  | .v x :: ps => x.bd 0 ∧ Zr ps
  | .ro _ _ :: ps => Zr ps
def Pd : Nat → Nat → List Pat → List (Nat × SV)
  | _, _, [] => []
  | i, n, .v x :: l => (i, .one x) :: Pd (i + 1) n l
  | i, n, .ro _ _ :: l => (i, .one (.a (.ref n))) :: Pd (i + 1) (n + 1) l
def Pq : Nat → List Pat → List (Nat × Res)
  | _, [] => []
  | n, .v _ :: l => Pq n l
  | n, .ro k xs :: l => (n, .ro k xs) :: Pq (n + 1) l
def Pg : Nat → List Pat → Nat
  | n, [] => n
  | n, .v _ :: l => Pg n l
  | n, .ro _ _ :: l => Pg (n + 1) l
theorem Ro {w : World} : ∀ {ps : List Pat} {vs : List Value}, Oz w ps vs → Zr ps → ∃ as : List Arg, as.map Arg.val = vs ∧ Lc w as ∧ as.length = ps.length ∧ (∀ n, Tj n as = Pq n ps ∧ Rz n as = Pg n ps) ∧ ∀ i n, Qy i n as = Pd i n ps
  | [], [], _, _ => ⟨[], rfl, trivial, rfl, fun n => ⟨rfl, rfl⟩, fun i n => rfl⟩
  | .v x :: ps, y :: ys, h, hb => by
    obtain ⟨as, h1, h2, h3, h4, h5⟩ := Ro h.2 hb.2
    exact ⟨.v x :: as, by simp [Arg.val, h1, h.1], ⟨hb.1, h2⟩, by simp [h3], fun n => h4 n, fun i n => by simp only [Qy, Pd, h5]⟩
  | .ro k l :: ps, y :: ys, h, hb => by
    obtain ⟨as, h1, h2, h3, h4, h5⟩ := Ro h.2 hb
    exact ⟨.ro y k l :: as, by simp [Arg.val, h1], ⟨h.1, h2⟩, by simp [h3], fun n => ⟨by simp only [Tj, Pq, (h4 (n + 1)).1], by simp only [Rz, Pg, (h4 (n + 1)).2]⟩, fun i n => by simp only [Qy, Pd, h5]⟩
  | [], _ :: _, h, _ => h.elim
  | .v _ :: _, [], h, _ => h.elim
  | .ro _ _ :: _, [], h, _ => h.elim
def RdC (P : Program) (f : Nat) (ps : List Pat) (r : SV) : Prop := ∀ (w : World) (vs : List Value), Oz w ps vs → Calls P f vs.toArray w fun e w' => e = .returned (r.den Xm) ∧ Below w.heap.size w w'
def RwC (P : Program) (f : Nat) (ps : List Pat) (E : Nat) (k : Kd) (l : List k.ty) (rest : List S1) : Prop := ∀ (w : World) (vs : List Value), Oz w ps vs →
  Calls P f vs.toArray w fun e w' => ∃ r, e = .returned (.tuple (r :: rest.map (S1.den Xm)).toArray) ∧ Rf w.heap.size w' r E k l ∧ Below w.heap.size w w'
def Xl (P : Program) (f : Nat) (ps : List Pat) (E : Nat) (k : Kd) (l : List k.ty) : Prop := ∀ (w : World) (vs : List Value), Oz w ps vs →
  Calls P f vs.toArray w fun e w' => ∃ r, e = .returned r ∧ Rf w.heap.size w' r E k l ∧ Below w.heap.size w w'
def T5 (S : St) (E : Nat) (k : Kd) (l : List k.ty) : S1 → Prop
  | .a (.ref m) => S.find m = some (.row E k l)
  | .a (.raw (.slice none 0 0)) => l = []
  | _ => False
theorem T5.own {P : Program} {w0 w : World} {nt : Nat} {ρ : Env} {S : St} (h : Mem ⟨P, w0, [], nt, []⟩ ρ S.res S.nx w) {E : Nat} {k : Kd} {l : List k.ty} {x : S1} (hx : T5 S E k l x) : Rf w0.heap.size w (x.den ρ) E k l := by
  unfold T5 at hx
  split at hx
  · exact h.ownAt (Zd hx)
  · subst hx; exact World.ownsRow_nil w _ E k.sz
  · exact hx.elim
def Qd (E : Nat) (k : Kd) (l : List k.ty) (rest : List S1) (v : SV) (S : St) : Prop := match v with
  | .tup (y :: ys) => ys = rest ∧ T5 S E k l y
  | _ => False
def Sc (E : Nat) (k : Kd) (l : List k.ty) (v : SV) (S : St) : Prop := match v with
  | .one y => T5 S E k l y
  | _ => False
def Fe (r : SV) (v : SV) (_ : St) : Prop := v = r
section
variable {P : Program} {f nt : Nat} {x : IC} {rl : List RV} {ps : List Pat}
theorem Body.rd (hF : Body P f nt x rl) {r : SV} (hlen : ps.length ≤ nt) (hb : Zr ps) (hr : r.bd 0) (hT : ∀ w, T ⟨P, w, [], nt, []⟩ x (Sz ⟨P, w, [], nt, []⟩ rl (Fe r)) ⟨Pd 0 0 ps, Pq 0 ps, Pg 0 ps⟩) : RdC P f ps r := by
  intro w vs hok
  obtain ⟨as, h1, h2, h3, h4, h5⟩ := Ro hok hb
  rw [← h1]
  refine hF.args (by omega) h2 (R := Fe r) ?_ fun v S' ρ' w' hv _ hm => ⟨?_, hm.toBelow⟩
  · rw [h5, (h4 0).1, (h4 0).2]; exact hT w
  · rw [show v = r from hv, SV.den_same (nx := 0) (ρ := Xm) (fun n hn => by omega) hr]
theorem Body.rw (hF : Body P f nt x rl) {E : Nat} {k : Kd} {l : List k.ty} {rest : List S1} (hlen : ps.length ≤ nt) (hb : Zr ps) (hr : ∀ y ∈ rest, y.bd 0) (hT : ∀ w, T ⟨P, w, [], nt, []⟩ x (Sz ⟨P, w, [], nt, []⟩ rl (Qd E k l rest)) ⟨Pd 0 0 ps, Pq 0 ps, Pg 0 ps⟩) : RwC P f ps E k l rest := by
  intro w vs hok
  obtain ⟨as, h1, h2, h3, h4, h5⟩ := Ro hok hb
  rw [← h1]
  refine hF.args (by omega) h2 (R := Qd E k l rest) (by rw [h5, (h4 0).1, (h4 0).2]; exact hT w) fun v S' ρ' w' hv _ hm => ?_
  unfold Qd at hv
  split at hv
  · rename_i y ys _
    obtain ⟨rfl, hy⟩ := hv
    refine ⟨S1.den ρ' y, ?_, T5.own hm hy, hm.toBelow⟩
    simp only [SV.den, List.map_cons]
    rw [S0 (ρ := ρ') hr]; rfl
  · exact hv.elim
theorem Body.rw1 (hF : Body P f nt x rl) {E : Nat} {k : Kd} {l : List k.ty} (hlen : ps.length ≤ nt) (hb : Zr ps) (hT : ∀ w, T ⟨P, w, [], nt, []⟩ x (Sz ⟨P, w, [], nt, []⟩ rl (Sc E k l)) ⟨Pd 0 0 ps, Pq 0 ps, Pg 0 ps⟩) : Xl P f ps E k l := by
  intro w vs hok
  obtain ⟨as, h1, h2, h3, h4, h5⟩ := Ro hok hb
  rw [← h1]
  refine hF.args (by omega) h2 (R := Sc E k l) (by rw [h5, (h4 0).1, (h4 0).2]; exact hT w) fun v S' ρ' w' hv _ hm => ?_
  unfold Sc at hv
  split at hv
  · rename_i y _
    exact ⟨S1.den ρ' y, rfl, T5.own hm hv, hm.toBelow⟩
  · exact hv.elim
end
def pm1 (S : St) : S1 → Pat → Prop
  | x, .v y => x = y ∧ y.bd 0
  | .a (.ref m), .ro k l => match S.find m with
    | some (.ro k' l') => Yu k' k l' = some l
    | some (.row _ k' l') => Yu k' k l' = some l
    | some (.lit _ z e cs) => l.flatMap k.enc = cs ∧ l.length = e
    | _ => False
  | .a (.raw (.slice none 0 0)), .ro k l => l = []
  | _, _ => False
def pm (S : St) : List S1 → List Pat → Prop
  | [], [] => True
  | x :: xs, p :: ps => pm1 S x p ∧ pm S xs ps
  | _, _ => False
theorem Ky : ∀ {k' k : Kd} {l' : List k'.ty} {l : List k.ty}, Yu k' k l' = some l → ∀ {w : World} {v : Value}, Tm w v k' l' → Tm w v k l := by
  intro k' k l' l h
  cases k' <;> cases k <;> simp only [Yu, reduceCtorEq, Option.some.injEq] at h <;> (try (subst h; exact fun h => h))
  rename_i a b
  split at h
  · rename_i e; cases e; cases h; exact fun h => h
  · cases h
def pat1 (w : World) : Pat → Value → Prop
  | .v x, y => y = x.den Xm
  | .ro k l, y => Tm w y k l
theorem Df {S : St} {c : Cx} {ρ : Env} {a : Act} {w : World} (hh : S.holds c ρ a w) {x : S1} {p : Pat} (h : pm1 S x p) : pat1 w p (x.den ρ) := by
  unfold pm1 at h
  split at h
  · obtain ⟨rfl, hb⟩ := h
    exact S1.den_same (nx := 0) (ρ := Xm) (fun n hn => by omega) hb
  · split at h
    · rename_i hf; exact Ky h (hh.mem.ro (.inl (Zd hf)))
    · rename_i hf; exact Ky h (hh.mem.ro (.inr ⟨_, Zd hf⟩))
    · rename_i hf; exact Res.lit_ro (hh.mem.res _ _ (Zd hf)) h.1 h.2
    · exact h.elim
  · subst h; exact ⟨none, 0, ⟨rfl, Nat.le_refl _⟩, fun _ => rfl, fun ad had => by cases had⟩
  · exact h.elim
theorem Og {S : St} {c : Cx} {ρ : Env} {a : Act} {w : World} (hh : S.holds c ρ a w) : ∀ (xs : List S1) (ps : List Pat), pm S xs ps → Oz w ps (xs.map (S1.den ρ))
  | [], [], _ => trivial
  | x :: xs, .v y :: ps, h => ⟨Df hh h.1, Og hh xs ps h.2⟩
  | x :: xs, .ro k l :: ps, h => ⟨Df hh h.1, Og hh xs ps h.2⟩
  | [], _ :: _, h => h.elim
  | _ :: _, [], h => h.elim
theorem St.holds.res {S : St} {c : Cx} {ρ ρ' : Env} {a : Act} {w w' : World} (h : S.holds c ρ a w) {R : List (Nat × Res)} {nx : Nat} (hs : Tx S.nx ρ ρ') (hnx : S.nx ≤ nx) (hm : Mem c ρ' R nx w') : (St.mk S.slots R nx).holds c ρ' a w' :=
  h.put hs hnx hm (d := none) (fun t ht => by cases ht) (v := noV) (Sn nx)
section
variable {c : Cx} {f : Nat} {args : List S1} {S : St} {ps : List Pat}
theorem Za.rd {K : SV → St → Prop} {r : SV} (h : RdC c.P f ps r) (hv : pm S args ps ∧ r.bd 0) (hK : K r S) : Za c f args S K := by
  intro ρ a w hh
  refine (h w _ (Og hh args ps hv.1)).mono fun e w' ⟨he, hbl⟩ => ⟨r, ρ, S, Ext.rfl, ?_, SV.bd_mono (Nat.zero_le _) hv.2, hh.below hbl, hK⟩
  rw [he, SV.den_same (nx := 0) (ρ := Xm) (ρ' := ρ) (fun n hn => by omega) hv.2]
theorem Za.rw {K : SV → St → Prop} {E : Nat} {k : Kd} {l : List k.ty} {rest : List S1} (h : RwC c.P f ps E k l rest) (hv : pm S args ps ∧ Zq rest)
    (hK : K (.tup (.a (.ref S.nx) :: rest)) ⟨S.slots, (S.nx, .row E k l) :: S.res, S.nx + 1⟩) : Za c f args S K := by
  intro ρ a w hh
  have hr := Rv hv.2
  refine (h w _ (Og hh args ps hv.1)).mono fun e w' ⟨r, he, ho, hbl⟩ => ⟨_, Yg ρ S.nx r, _, ⟨Ze _ _ _, Nat.le_succ _⟩, ?_, ?_, hh.res (Ze ρ S.nx r) (Nat.le_succ _) (hh.mem.addRow hbl ho), hK⟩
  · rw [he]
    simp only [SV.den, List.map_cons, S1.den, At.den, Zj]
    rw [S0 (ρ := Yg ρ S.nx r) hr]
    rfl
  · intro x hx
    rcases List.mem_cons.1 hx with rfl | hx
    · exact Nat.lt_succ_self _
    · exact S1.bd_mono (Nat.zero_le _) (hr x hx)
theorem Za.rw1 {K : SV → St → Prop} {E : Nat} {k : Kd} {l : List k.ty} (h : Xl c.P f ps E k l) (hv : pm S args ps)
    (hK : K (.one (.a (.ref S.nx))) ⟨S.slots, (S.nx, .row E k l) :: S.res, S.nx + 1⟩) : Za c f args S K := by
  intro ρ a w hh
  refine (h w _ (Og hh args ps hv)).mono fun e w' ⟨r, he, ho, hbl⟩ => ⟨_, Yg ρ S.nx r, _, ⟨Ze _ _ _, Nat.le_succ _⟩, ?_, Nat.lt_succ_self _, hh.res (Ze ρ S.nx r) (Nat.le_succ _) (hh.mem.addRow hbl ho), hK⟩
  rw [he]
  simp only [SV.den, S1.den, At.den, Zj]
theorem Zc.rd {b : Bool} {K : SV → St → Prop} {r : S1} (h : RdC c.P f ps (.one r)) (hv : pm S args ps ∧ r.bd 0) (hK : K (.opt b r) S) : Zc c b f args S K := by
  intro ρ a w hh
  refine ⟨fun hb => ?_, fun hb => ⟨.opt b r, fun _ => S1.bd_mono (Nat.zero_le _) hv.2, by rw [hb]; rfl, hK⟩⟩
  refine (h w _ (Og hh args ps hv.1)).mono fun e w' ⟨he, hbl⟩ => ⟨.opt b r, ρ, S, Ext.rfl, ?_, fun _ => S1.bd_mono (Nat.zero_le _) hv.2, hh.below hbl, hK⟩
  rw [he, hb]
  show Ending.returned (S1.den Xm r) = Ending.returned (S1.den ρ r)
  rw [S1.den_same (nx := 0) (ρ := Xm) (ρ' := ρ) (fun n hn => by omega) hv.2]
theorem Zc.split {b : Bool} {K : SV → St → Prop} (h1 : b = true → Za c f args S K) (h2 : b = false → K noV S) : Zc c b f args S K :=
  fun ρ a w hh => ⟨fun hb => h1 hb ρ a w hh, fun hb => ⟨noV, Sn _, rfl, h2 hb⟩⟩
theorem Zs.rd {b : Bool} {K : SV → Prop} {r : S1} (h : RdC c.P f ps (.one r)) (hv : pm S args ps ∧ r.bd 0) (hK : K (.opt b r)) : Zs c b f args S K := by
  refine ⟨.opt b r, fun hb => ⟨fun _ => S1.bd_mono (Nat.zero_le _) hv.2, fun ρ a w hh => ?_⟩, fun hb => ⟨fun _ => S1.bd_mono (Nat.zero_le _) hv.2, fun ρ => by rw [hb]; rfl⟩, hK⟩
  refine (h w _ (Og hh args ps hv.1)).mono fun e w' ⟨he, hbl⟩ => ⟨?_, hbl⟩
  rw [he, hb]
  show Ending.returned (S1.den Xm r) = Ending.returned (S1.den ρ r)
  rw [S1.den_same (nx := 0) (ρ := Xm) (ρ' := ρ) (fun n hn => by omega) hv.2]
theorem Z2.rd {K : SV → Prop} {r : SV} (h : RdC c.P f ps r) (hv : pm S args ps ∧ r.bd 0) (hK : K r) : Z2 c f args S K := by
  refine ⟨r, SV.bd_mono (Nat.zero_le _) hv.2, fun ρ a w hh => ?_, hK⟩
  refine (h w _ (Og hh args ps hv.1)).mono fun e w' ⟨he, hbl⟩ => ⟨?_, hbl⟩
  rw [he, SV.den_same (nx := 0) (ρ := Xm) (ρ' := ρ) (fun n hn => by omega) hv.2]
end
theorem Ya {n : Int} (h1 : -9223372036854775808 ≤ n) (h2 : n ≤ 9223372036854775807) : IntKind.i64.wrap n = n := IntWalk.i64_in n ⟨h1, h2⟩
theorem Z4 {k : Nat} (h : k < 9223372036854775807) : IntKind.i64.wrap ((k : Int) + 1) = ((k + 1 : Nat) : Int) := by rw [Ya (by omega) (by omega)]; omega
end Vc
end Go.Proofs.YtjochhncheheaaaGreatDoor
