/- Contracts, and calls by them; results that are slices; small plain laws on numbers. -/
import Derived.Test.YtccjjcdjgibilaaDoorVcFn
namespace Go.Proofs.YtccjjcdjgibilaaDoor
namespace Vc
open Go.RowKit
set_option linter.unusedVariables false
set_option linter.unusedSimpArgs false
inductive Pat where
  | v (x : S1)
  | ro (k : Kd) (l : List k.ty)
def Oy (w : World) : List Pat → List Value → Prop
  | [], [] => True
  | .v x :: ps, y :: ys => y = x.den Vb ∧ Oy w ps ys
  | .ro k l :: ps, y :: ys => T3 w y k l ∧ Oy w ps ys
  | _, _ => False
def Yv : List Pat → Prop
  | [] => True
  | .v x :: ps => x.bd 0 ∧ Yv ps
  | .ro _ _ :: ps => Yv ps
def Y5 : Nat → Nat → List Pat → List (Nat × SV)
  | _, _, [] => []
  | i, n, .v x :: l => (i, .one x) :: Y5 (i + 1) n l
  | i, n, .ro _ _ :: l => (i, .one (.a (.ref n))) :: Y5 (i + 1) (n + 1) l
def Y9 : Nat → List Pat → List (Nat × Res)
  | _, [] => []
  | n, .v _ :: l => Y9 n l
  | n, .ro k xs :: l => (n, .ro k xs) :: Y9 (n + 1) l
def Xa : Nat → List Pat → Nat
  | n, [] => n
  | n, .v _ :: l => Xa n l
  | n, .ro _ _ :: l => Xa (n + 1) l
theorem Rq {w : World} : ∀ {ps : List Pat} {vs : List Value}, Oy w ps vs → Yv ps → ∃ as : List Arg, as.map Arg.val = vs ∧ N5 w as ∧ as.length = ps.length ∧ (∀ n, Yx n as = Y9 n ps ∧ Y3 n as = Xa n ps) ∧ ∀ i n, Y4 i n as = Y5 i n ps
  | [], [], _, _ => ⟨[], rfl, trivial, rfl, fun n => ⟨rfl, rfl⟩, fun i n => rfl⟩
  | .v x :: ps, y :: ys, h, hb => by
    obtain ⟨as, h1, h2, h3, h4, h5⟩ := Rq h.2 hb.2
    exact ⟨.v x :: as, by simp [Arg.val, h1, h.1], ⟨hb.1, h2⟩, by simp [h3], fun n => h4 n, fun i n => by simp only [Y4, Y5, h5]⟩
  | .ro k l :: ps, y :: ys, h, hb => by
    obtain ⟨as, h1, h2, h3, h4, h5⟩ := Rq h.2 hb
    exact ⟨.ro y k l :: as, by simp [Arg.val, h1], ⟨h.1, h2⟩, by simp [h3], fun n => ⟨by simp only [Yx, Y9, (h4 (n + 1)).1], by simp only [Y3, Xa, (h4 (n + 1)).2]⟩, fun i n => by simp only [Y4, Y5, h5]⟩
  | [], _ :: _, h, _ => h.elim
  | .v _ :: _, [], h, _ => h.elim
  | .ro _ _ :: _, [], h, _ => h.elim
def RdC (P : Program) (f : Nat) (ps : List Pat) (r : SV) : Prop := ∀ (w : World) (vs : List Value), Oy w ps vs → Calls P f vs.toArray w fun e w' => e = .returned (r.den Vb) ∧ Below w.heap.size w w'
def RwC (P : Program) (f : Nat) (ps : List Pat) (E : Nat) (k : Kd) (l : List k.ty) (rest : List S1) : Prop := ∀ (w : World) (vs : List Value), Oy w ps vs →
  Calls P f vs.toArray w fun e w' => ∃ r, e = .returned (.tuple (r :: rest.map (S1.den Vb)).toArray) ∧ Rj w.heap.size w' r E k l ∧ Below w.heap.size w w'
def Up (P : Program) (f : Nat) (ps : List Pat) (E : Nat) (k : Kd) (l : List k.ty) : Prop := ∀ (w : World) (vs : List Value), Oy w ps vs →
  Calls P f vs.toArray w fun e w' => ∃ r, e = .returned r ∧ Rj w.heap.size w' r E k l ∧ Below w.heap.size w w'
def Yk (S : St) (E : Nat) (k : Kd) (l : List k.ty) : S1 → Prop
  | .a (.ref m) => S.find m = some (.row E k l)
  | .a (.raw (.slice none 0 0)) => l = []
  | _ => False
theorem Yk.own {P : Program} {w0 w : World} {nt : Nat} {ρ : Env} {S : St} (h : Mem ⟨P, w0, [], nt, []⟩ ρ S.res S.nx w) {E : Nat} {k : Kd} {l : List k.ty} {x : S1} (hx : Yk S E k l x) : Rj w0.heap.size w (x.den ρ) E k l := by
  unfold Yk at hx
  split at hx
  · exact h.ownAt (Xl hx)
  · subst hx; exact World.ownsRow_nil w _ E k.sz
  · exact hx.elim
def Z8 (E : Nat) (k : Kd) (l : List k.ty) (rest : List S1) (v : SV) (S : St) : Prop := match v with
  | .tup (y :: ys) => ys = rest ∧ Yk S E k l y
  | _ => False
def Zw (E : Nat) (k : Kd) (l : List k.ty) (v : SV) (S : St) : Prop := match v with
  | .one y => Yk S E k l y
  | _ => False
def Xe (r : SV) (v : SV) (_ : St) : Prop := v = r
section
variable {P : Program} {f nt : Nat} {x : IC} {rl : List RV} {ps : List Pat}
theorem Body.rd (hF : Body P f nt x rl) {r : SV} (hlen : ps.length ≤ nt) (hb : Yv ps) (hr : r.bd 0) (hT : ∀ w, T ⟨P, w, [], nt, []⟩ x (Y0 ⟨P, w, [], nt, []⟩ rl (Xe r)) ⟨Y5 0 0 ps, Y9 0 ps, Xa 0 ps⟩) : RdC P f ps r := by
  intro w vs hok
  obtain ⟨as, h1, h2, h3, h4, h5⟩ := Rq hok hb
  rw [← h1]
  refine hF.args (by omega) h2 (R := Xe r) ?_ fun v S' ρ' w' hv _ hm => ⟨?_, hm.toBelow⟩
  · rw [h5, (h4 0).1, (h4 0).2]; exact hT w
  · rw [show v = r from hv, SV.den_same (nx := 0) (ρ := Vb) (fun n hn => by omega) hr]
theorem Body.rw (hF : Body P f nt x rl) {E : Nat} {k : Kd} {l : List k.ty} {rest : List S1} (hlen : ps.length ≤ nt) (hb : Yv ps) (hr : ∀ y ∈ rest, y.bd 0) (hT : ∀ w, T ⟨P, w, [], nt, []⟩ x (Y0 ⟨P, w, [], nt, []⟩ rl (Z8 E k l rest)) ⟨Y5 0 0 ps, Y9 0 ps, Xa 0 ps⟩) : RwC P f ps E k l rest := by
  intro w vs hok
  obtain ⟨as, h1, h2, h3, h4, h5⟩ := Rq hok hb
  rw [← h1]
  refine hF.args (by omega) h2 (R := Z8 E k l rest) (by rw [h5, (h4 0).1, (h4 0).2]; exact hT w) fun v S' ρ' w' hv _ hm => ?_
  unfold Z8 at hv
  split at hv
  · rename_i y ys _
    obtain ⟨rfl, hy⟩ := hv
    refine ⟨S1.den ρ' y, ?_, Yk.own hm hy, hm.toBelow⟩
    simp only [SV.den, List.map_cons]
    rw [Rh (ρ := ρ') hr]; rfl
  · exact hv.elim
theorem Body.rw1 (hF : Body P f nt x rl) {E : Nat} {k : Kd} {l : List k.ty} (hlen : ps.length ≤ nt) (hb : Yv ps) (hT : ∀ w, T ⟨P, w, [], nt, []⟩ x (Y0 ⟨P, w, [], nt, []⟩ rl (Zw E k l)) ⟨Y5 0 0 ps, Y9 0 ps, Xa 0 ps⟩) : Up P f ps E k l := by
  intro w vs hok
  obtain ⟨as, h1, h2, h3, h4, h5⟩ := Rq hok hb
  rw [← h1]
  refine hF.args (by omega) h2 (R := Zw E k l) (by rw [h5, (h4 0).1, (h4 0).2]; exact hT w) fun v S' ρ' w' hv _ hm => ?_
  unfold Zw at hv
  split at hv
  · rename_i y _
    exact ⟨S1.den ρ' y, rfl, Yk.own hm hv, hm.toBelow⟩
  · exact hv.elim
end
def pm1 (S : St) : S1 → Pat → Prop
  | x, .v y => x = y ∧ y.bd 0
  | .a (.ref m), .ro k l => match S.find m with
    | some (.ro k' l') => Z5 k' k l' = some l
    | some (.row _ k' l') => Z5 k' k l' = some l
    | some (.lit _ z e cs) => l.flatMap k.enc = cs ∧ l.length = e
    | _ => False
  | .a (.raw (.slice none 0 0)), .ro k l => l = []
  | _, _ => False
def pm (S : St) : List S1 → List Pat → Prop
  | [], [] => True
  | x :: xs, p :: ps => pm1 S x p ∧ pm S xs ps
  | _, _ => False
theorem Lb : ∀ {k' k : Kd} {l' : List k'.ty} {l : List k.ty}, Z5 k' k l' = some l → ∀ {w : World} {v : Value}, T3 w v k' l' → T3 w v k l := by
  intro k' k l' l h
  cases k' <;> cases k <;> simp only [Z5, reduceCtorEq, Option.some.injEq] at h <;> (try (subst h; exact fun h => h))
  rename_i a b
  split at h
  · rename_i e; cases e; cases h; exact fun h => h
  · cases h
def pat1 (w : World) : Pat → Value → Prop
  | .v x, y => y = x.den Vb
  | .ro k l, y => T3 w y k l
theorem Ht {S : St} {c : Cx} {ρ : Env} {a : Act} {w : World} (hh : S.holds c ρ a w) {x : S1} {p : Pat} (h : pm1 S x p) : pat1 w p (x.den ρ) := by
  unfold pm1 at h
  split at h
  · obtain ⟨rfl, hb⟩ := h
    exact S1.den_same (nx := 0) (ρ := Vb) (fun n hn => by omega) hb
  · split at h
    · rename_i hf; exact Lb h (hh.mem.ro (.inl (Xl hf)))
    · rename_i hf; exact Lb h (hh.mem.ro (.inr ⟨_, Xl hf⟩))
    · rename_i hf; exact Res.lit_ro (hh.mem.res _ _ (Xl hf)) h.1 h.2
    · exact h.elim
  · subst h; exact ⟨none, 0, ⟨rfl, Nat.le_refl _⟩, fun _ => rfl, fun ad had => by cases had⟩
  · exact h.elim
theorem Pt {S : St} {c : Cx} {ρ : Env} {a : Act} {w : World} (hh : S.holds c ρ a w) : ∀ (xs : List S1) (ps : List Pat), pm S xs ps → Oy w ps (xs.map (S1.den ρ))
  | [], [], _ => trivial
  | x :: xs, .v y :: ps, h => ⟨Ht hh h.1, Pt hh xs ps h.2⟩
  | x :: xs, .ro k l :: ps, h => ⟨Ht hh h.1, Pt hh xs ps h.2⟩
  | [], _ :: _, h => h.elim
  | _ :: _, [], h => h.elim
theorem St.holds.res {S : St} {c : Cx} {ρ ρ' : Env} {a : Act} {w w' : World} (h : S.holds c ρ a w) {R : List (Nat × Res)} {nx : Nat} (hs : Sn S.nx ρ ρ') (hnx : S.nx ≤ nx) (hm : Mem c ρ' R nx w') : (St.mk S.slots R nx).holds c ρ' a w' :=
  h.put hs hnx hm (d := none) (fun t ht => by cases ht) (v := noV) (Qd nx)
section
variable {c : Cx} {f : Nat} {args : List S1} {S : St} {ps : List Pat}
theorem Z2.rd {K : SV → St → Prop} {r : SV} (h : RdC c.P f ps r) (hv : pm S args ps ∧ r.bd 0) (hK : K r S) : Z2 c f args S K := by
  intro ρ a w hh
  refine (h w _ (Pt hh args ps hv.1)).mono fun e w' ⟨he, hbl⟩ => ⟨r, ρ, S, Ext.rfl, ?_, SV.bd_mono (Nat.zero_le _) hv.2, hh.below hbl, hK⟩
  rw [he, SV.den_same (nx := 0) (ρ := Vb) (ρ' := ρ) (fun n hn => by omega) hv.2]
theorem Z2.rw {K : SV → St → Prop} {E : Nat} {k : Kd} {l : List k.ty} {rest : List S1} (h : RwC c.P f ps E k l rest) (hv : pm S args ps ∧ Zq rest)
    (hK : K (.tup (.a (.ref S.nx) :: rest)) ⟨S.slots, (S.nx, .row E k l) :: S.res, S.nx + 1⟩) : Z2 c f args S K := by
  intro ρ a w hh
  have hr := Rt hv.2
  refine (h w _ (Pt hh args ps hv.1)).mono fun e w' ⟨r, he, ho, hbl⟩ => ⟨_, Ws ρ S.nx r, _, ⟨Xd _ _ _, Nat.le_succ _⟩, ?_, ?_, hh.res (Xd ρ S.nx r) (Nat.le_succ _) (hh.mem.addRow hbl ho), hK⟩
  · rw [he]
    simp only [SV.den, List.map_cons, S1.den, At.den, Xu]
    rw [Rh (ρ := Ws ρ S.nx r) hr]
    rfl
  · intro x hx
    rcases List.mem_cons.1 hx with rfl | hx
    · exact Nat.lt_succ_self _
    · exact S1.bd_mono (Nat.zero_le _) (hr x hx)
theorem Z2.rw1 {K : SV → St → Prop} {E : Nat} {k : Kd} {l : List k.ty} (h : Up c.P f ps E k l) (hv : pm S args ps)
    (hK : K (.one (.a (.ref S.nx))) ⟨S.slots, (S.nx, .row E k l) :: S.res, S.nx + 1⟩) : Z2 c f args S K := by
  intro ρ a w hh
  refine (h w _ (Pt hh args ps hv)).mono fun e w' ⟨r, he, ho, hbl⟩ => ⟨_, Ws ρ S.nx r, _, ⟨Xd _ _ _, Nat.le_succ _⟩, ?_, Nat.lt_succ_self _, hh.res (Xd ρ S.nx r) (Nat.le_succ _) (hh.mem.addRow hbl ho), hK⟩
  rw [he]
  simp only [SV.den, S1.den, At.den, Xu]
theorem Ye.rd {b : Bool} {K : SV → St → Prop} {r : S1} (h : RdC c.P f ps (.one r)) (hv : pm S args ps ∧ r.bd 0) (hK : K (.opt b r) S) : Ye c b f args S K := by
  intro ρ a w hh
  refine ⟨fun hb => ?_, fun hb => ⟨.opt b r, fun _ => S1.bd_mono (Nat.zero_le _) hv.2, by rw [hb]; rfl, hK⟩⟩
  refine (h w _ (Pt hh args ps hv.1)).mono fun e w' ⟨he, hbl⟩ => ⟨.opt b r, ρ, S, Ext.rfl, ?_, fun _ => S1.bd_mono (Nat.zero_le _) hv.2, hh.below hbl, hK⟩
  rw [he, hb]
  show Ending.returned (S1.den Vb r) = Ending.returned (S1.den ρ r)
  rw [S1.den_same (nx := 0) (ρ := Vb) (ρ' := ρ) (fun n hn => by omega) hv.2]
theorem Ye.split {b : Bool} {K : SV → St → Prop} (h1 : b = true → Z2 c f args S K) (h2 : b = false → K noV S) : Ye c b f args S K :=
  fun ρ a w hh => ⟨fun hb => h1 hb ρ a w hh, fun hb => ⟨noV, Qd _, rfl, h2 hb⟩⟩
theorem Xt.rd {b : Bool} {K : SV → Prop} {r : S1} (h : RdC c.P f ps (.one r)) (hv : pm S args ps ∧ r.bd 0) (hK : K (.opt b r)) : Xt c b f args S K := by
  refine ⟨.opt b r, fun hb => ⟨fun _ => S1.bd_mono (Nat.zero_le _) hv.2, fun ρ a w hh => ?_⟩, fun hb => ⟨fun _ => S1.bd_mono (Nat.zero_le _) hv.2, fun ρ => by rw [hb]; rfl⟩, hK⟩
  refine (h w _ (Pt hh args ps hv.1)).mono fun e w' ⟨he, hbl⟩ => ⟨?_, hbl⟩
  rw [he, hb]
  show Ending.returned (S1.den Vb r) = Ending.returned (S1.den ρ r)
  rw [S1.den_same (nx := 0) (ρ := Vb) (ρ' := ρ) (fun n hn => by omega) hv.2]
theorem Wd.rd {K : SV → Prop} {r : SV} (h : RdC c.P f ps r) (hv : pm S args ps ∧ r.bd 0) (hK : K r) : Wd c f args S K := by
  refine ⟨r, SV.bd_mono (Nat.zero_le _) hv.2, fun ρ a w hh => ?_, hK⟩
  refine (h w _ (Pt hh args ps hv.1)).mono fun e w' ⟨he, hbl⟩ => ⟨?_, hbl⟩
  rw [he, SV.den_same (nx := 0) (ρ := Vb) (ρ' := ρ) (fun n hn => by omega) hv.2]
end
theorem Vv {n : Int} (h1 : -9223372036854775808 ≤ n) (h2 : n ≤ 9223372036854775807) : IntKind.i64.wrap n = n := IntWalk.i64_in n ⟨h1, h2⟩
theorem We {k : Nat} (h : k < 9223372036854775807) : IntKind.i64.wrap ((k : Int) + 1) = ((k + 1 : Nat) : Int) := by rw [Vv (by omega) (by omega)]; omega
end Vc
end Go.Proofs.YtccjjcdjgibilaaDoor
