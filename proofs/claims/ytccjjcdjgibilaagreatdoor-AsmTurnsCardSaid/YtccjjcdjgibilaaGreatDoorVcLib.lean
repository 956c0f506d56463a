/- Contracts, and calls by them; results that are slices; small plain laws on numbers. -/
import Derived.Test.YtccjjcdjgibilaaGreatDoorVcFn
namespace Go.Proofs.YtccjjcdjgibilaaGreatDoor
namespace Vc
open Go.RowKit
set_option linter.unusedVariables false
set_option linter.unusedSimpArgs false
inductive Pat where
  | v (x : S1)
  | ro (k : Kd) (l : List k.ty)
def Ps (w : World) : List Pat → List Value → Prop
  | [], [] => True
  | .v x :: ps, y :: ys => y = x.den Wx ∧ Ps w ps ys
  | .ro k l :: ps, y :: ys => U9 w y k l ∧ Ps w ps ys
  | _, _ => False
def Xu : List Pat → Prop
  | [] => True
  | .v x :: ps => x.bd 0 ∧ Xu ps
  | .ro _ _ :: ps => Xu ps
def Xa : Nat → Nat → List Pat → List (Nat × SV)
  | _, _, [] => []
  | i, n, .v x :: l => (i, .one x) :: Xa (i + 1) n l
  | i, n, .ro _ _ :: l => (i, .one (.a (.ref n))) :: Xa (i + 1) (n + 1) l
def Xg : Nat → List Pat → List (Nat × Res)
  | _, [] => []
  | n, .v _ :: l => Xg n l
  | n, .ro k xs :: l => (n, .ro k xs) :: Xg (n + 1) l
def Xf : Nat → List Pat → Nat
  | n, [] => n
  | n, .v _ :: l => Xf n l
  | n, .ro _ _ :: l => Xf (n + 1) l
theorem Ss {w : World} : ∀ {ps : List Pat} {vs : List Value}, Ps w ps vs → Xu ps → ∃ as : List Arg, as.map Arg.val = vs ∧ O0 w as ∧ as.length = ps.length ∧ (∀ n, Y2 n as = Xg n ps ∧ Y6 n as = Xf n ps) ∧ ∀ i n, Xb i n as = Xa i n ps
  | [], [], _, _ => ⟨[], rfl, trivial, rfl, fun n => ⟨rfl, rfl⟩, fun i n => rfl⟩
  | .v x :: ps, y :: ys, h, hb => by
    obtain ⟨as, h1, h2, h3, h4, h5⟩ := Ss h.2 hb.2
    exact ⟨.v x :: as, by simp [Arg.val, h1, h.1], ⟨hb.1, h2⟩, by simp [h3], fun n => h4 n, fun i n => by simp only [Xb, Xa, h5]⟩
  | .ro k l :: ps, y :: ys, h, hb => by
    obtain ⟨as, h1, h2, h3, h4, h5⟩ := Ss h.2 hb
    exact ⟨.ro y k l :: as, by simp [Arg.val, h1], ⟨h.1, h2⟩, by simp [h3], fun n => ⟨by simp only [Y2, Xg, (h4 (n + 1)).1], by simp only [Y6, Xf, (h4 (n + 1)).2]⟩, fun i n => by simp only [Xb, Xa, h5]⟩
  | [], _ :: _, h, _ => h.elim
  | .v _ :: _, [], h, _ => h.elim
  | .ro _ _ :: _, [], h, _ => h.elim
def RdC (P : Program) (f : Nat) (ps : List Pat) (r : SV) : Prop := ∀ (w : World) (vs : List Value), Ps w ps vs → Calls P f vs.toArray w fun e w' => e = .returned (r.den Wx) ∧ Below w.heap.size w w'
def RwC (P : Program) (f : Nat) (ps : List Pat) (E : Nat) (k : Kd) (l : List k.ty) (rest : List S1) : Prop := ∀ (w : World) (vs : List Value), Ps w ps vs →
  Calls P f vs.toArray w fun e w' => ∃ r, e = .returned (.tuple (r :: rest.map (S1.den Wx)).toArray) ∧ Sh w.heap.size w' r E k l ∧ Below w.heap.size w w'
def V2 (P : Program) (f : Nat) (ps : List Pat) (E : Nat) (k : Kd) (l : List k.ty) : Prop := ∀ (w : World) (vs : List Value), Ps w ps vs →
  Calls P f vs.toArray w fun e w' => ∃ r, e = .returned r ∧ Sh w.heap.size w' r E k l ∧ Below w.heap.size w w'
def Yo (S : St) (E : Nat) (k : Kd) (l : List k.ty) : S1 → Prop
  | .a (.ref m) => S.find m = some (.row E k l)
  | .a (.raw (.slice none 0 0)) => l = []
  | _ => False
theorem Yo.own {P : Program} {w0 w : World} {nt : Nat} {ρ : Env} {S : St} (h : Mem ⟨P, w0, [], nt, []⟩ ρ S.res S.nx w) {E : Nat} {k : Kd} {l : List k.ty} {x : S1} (hx : Yo S E k l x) : Sh w0.heap.size w (x.den ρ) E k l := by
  unfold Yo at hx
  split at hx
  · exact h.ownAt (Yk hx)
  · subst hx; exact World.ownsRow_nil w _ E k.sz
  · exact hx.elim
def Ya (E : Nat) (k : Kd) (l : List k.ty) (rest : List S1) (v : SV) (S : St) : Prop := match v with
  | .tup (y :: ys) => ys = rest ∧ Yo S E k l y
  | _ => False
def Z1 (E : Nat) (k : Kd) (l : List k.ty) (v : SV) (S : St) : Prop := match v with
  | .one y => Yo S E k l y
  | _ => False
def Xi (r : SV) (v : SV) (_ : St) : Prop := v = r
section
variable {P : Program} {f nt : Nat} {x : IC} {rl : List RV} {ps : List Pat}
theorem Body.rd (hF : Body P f nt x rl) {r : SV} (hlen : ps.length ≤ nt) (hb : Xu ps) (hr : r.bd 0) (hT : ∀ w, T ⟨P, w, [], nt, []⟩ x (Y4 ⟨P, w, [], nt, []⟩ rl (Xi r)) ⟨Xa 0 0 ps, Xg 0 ps, Xf 0 ps⟩) : RdC P f ps r := by
  intro w vs hok
  obtain ⟨as, h1, h2, h3, h4, h5⟩ := Ss hok hb
  rw [← h1]
  refine hF.args (by omega) h2 (R := Xi r) ?_ fun v S' ρ' w' hv _ hm => ⟨?_, hm.toBelow⟩
  · rw [h5, (h4 0).1, (h4 0).2]; exact hT w
  · rw [show v = r from hv, SV.den_same (nx := 0) (ρ := Wx) (fun n hn => by omega) hr]
theorem Body.rw (hF : Body P f nt x rl) {E : Nat} {k : Kd} {l : List k.ty} {rest : List S1} (hlen : ps.length ≤ nt) (hb : Xu ps) (hr : ∀ y ∈ rest, y.bd 0) (hT : ∀ w, T ⟨P, w, [], nt, []⟩ x (Y4 ⟨P, w, [], nt, []⟩ rl (Ya E k l rest)) ⟨Xa 0 0 ps, Xg 0 ps, Xf 0 ps⟩) : RwC P f ps E k l rest := by
  intro w vs hok
  obtain ⟨as, h1, h2, h3, h4, h5⟩ := Ss hok hb
  rw [← h1]
  refine hF.args (by omega) h2 (R := Ya E k l rest) (by rw [h5, (h4 0).1, (h4 0).2]; exact hT w) fun v S' ρ' w' hv _ hm => ?_
  unfold Ya at hv
  split at hv
  · rename_i y ys _
    obtain ⟨rfl, hy⟩ := hv
    refine ⟨S1.den ρ' y, ?_, Yo.own hm hy, hm.toBelow⟩
    simp only [SV.den, List.map_cons]
    rw [So (ρ := ρ') hr]; rfl
  · exact hv.elim
theorem Body.rw1 (hF : Body P f nt x rl) {E : Nat} {k : Kd} {l : List k.ty} (hlen : ps.length ≤ nt) (hb : Xu ps) (hT : ∀ w, T ⟨P, w, [], nt, []⟩ x (Y4 ⟨P, w, [], nt, []⟩ rl (Z1 E k l)) ⟨Xa 0 0 ps, Xg 0 ps, Xf 0 ps⟩) : V2 P f ps E k l := by
  intro w vs hok
  obtain ⟨as, h1, h2, h3, h4, h5⟩ := Ss hok hb
  rw [← h1]
  refine hF.args (by omega) h2 (R := Z1 E k l) (by rw [h5, (h4 0).1, (h4 0).2]; exact hT w) fun v S' ρ' w' hv _ hm => ?_
  unfold Z1 at hv
  split at hv
  · rename_i y _
    exact ⟨S1.den ρ' y, rfl, Yo.own hm hv, hm.toBelow⟩
  · exact hv.elim
end
def pm1 (S : St) : S1 → Pat → Prop
  | x, .v y => x = y ∧ y.bd 0
  | .a (.ref m), .ro k l => match S.find m with
    | some (.ro k' l') => Zs k' k l' = some l
    | some (.row _ k' l') => Zs k' k l' = some l
    | some (.lit _ z e cs) => l.flatMap k.enc = cs ∧ l.length = e
    | _ => False
  | .a (.raw (.slice none 0 0)), .ro k l => l = []
  | _, _ => False
def pm (S : St) : List S1 → List Pat → Prop
  | [], [] => True
  | x :: xs, p :: ps => pm1 S x p ∧ pm S xs ps
  | _, _ => False
theorem Mz : ∀ {k' k : Kd} {l' : List k'.ty} {l : List k.ty}, Zs k' k l' = some l → ∀ {w : World} {v : Value}, U9 w v k' l' → U9 w v k l := by
  intro k' k l' l h
  cases k' <;> cases k <;> simp only [Zs, reduceCtorEq, Option.some.injEq] at h <;> (try (subst h; exact fun h => h))
  rename_i a b
  split at h
  · rename_i e; cases e; cases h; exact fun h => h
  · cases h
def pat1 (w : World) : Pat → Value → Prop
  | .v x, y => y = x.den Wx
  | .ro k l, y => U9 w y k l
theorem Hp {S : St} {c : Cx} {ρ : Env} {a : Act} {w : World} (hh : S.holds c ρ a w) {x : S1} {p : Pat} (h : pm1 S x p) : pat1 w p (x.den ρ) := by
  unfold pm1 at h
  split at h
  · obtain ⟨rfl, hb⟩ := h
    exact S1.den_same (nx := 0) (ρ := Wx) (fun n hn => by omega) hb
  · split at h
    · rename_i hf; exact Mz h (hh.mem.ro (.inl (Yk hf)))
    · rename_i hf; exact Mz h (hh.mem.ro (.inr ⟨_, Yk hf⟩))
    · rename_i hf; exact Res.lit_ro (hh.mem.res _ _ (Yk hf)) h.1 h.2
    · exact h.elim
  · subst h; exact ⟨none, 0, ⟨rfl, Nat.le_refl _⟩, fun _ => rfl, fun ad had => by cases had⟩
  · exact h.elim
theorem Qx {S : St} {c : Cx} {ρ : Env} {a : Act} {w : World} (hh : S.holds c ρ a w) : ∀ (xs : List S1) (ps : List Pat), pm S xs ps → Ps w ps (xs.map (S1.den ρ))
  | [], [], _ => trivial
  | x :: xs, .v y :: ps, h => ⟨Hp hh h.1, Qx hh xs ps h.2⟩
  | x :: xs, .ro k l :: ps, h => ⟨Hp hh h.1, Qx hh xs ps h.2⟩
  | [], _ :: _, h => h.elim
  | _ :: _, [], h => h.elim
theorem St.holds.res {S : St} {c : Cx} {ρ ρ' : Env} {a : Act} {w w' : World} (h : S.holds c ρ a w) {R : List (Nat × Res)} {nx : Nat} (hs : Tp S.nx ρ ρ') (hnx : S.nx ≤ nx) (hm : Mem c ρ' R nx w') : (St.mk S.slots R nx).holds c ρ' a w' :=
  h.put hs hnx hm (d := none) (fun t ht => by cases ht) (v := noV) (Rb nx)
section
variable {c : Cx} {f : Nat} {args : List S1} {S : St} {ps : List Pat}
theorem Zq.rd {K : SV → St → Prop} {r : SV} (h : RdC c.P f ps r) (hv : pm S args ps ∧ r.bd 0) (hK : K r S) : Zq c f args S K := by
  intro ρ a w hh
  refine (h w _ (Qx hh args ps hv.1)).mono fun e w' ⟨he, hbl⟩ => ⟨r, ρ, S, Ext.rfl, ?_, SV.bd_mono (Nat.zero_le _) hv.2, hh.below hbl, hK⟩
  rw [he, SV.den_same (nx := 0) (ρ := Wx) (ρ' := ρ) (fun n hn => by omega) hv.2]
theorem Zq.rw {K : SV → St → Prop} {E : Nat} {k : Kd} {l : List k.ty} {rest : List S1} (h : RwC c.P f ps E k l rest) (hv : pm S args ps ∧ Z7 rest)
    (hK : K (.tup (.a (.ref S.nx) :: rest)) ⟨S.slots, (S.nx, .row E k l) :: S.res, S.nx + 1⟩) : Zq c f args S K := by
  intro ρ a w hh
  have hr := Sv hv.2
  refine (h w _ (Qx hh args ps hv.1)).mono fun e w' ⟨r, he, ho, hbl⟩ => ⟨_, Wk ρ S.nx r, _, ⟨Yj _ _ _, Nat.le_succ _⟩, ?_, ?_, hh.res (Yj ρ S.nx r) (Nat.le_succ _) (hh.mem.addRow hbl ho), hK⟩
  · rw [he]
    simp only [SV.den, List.map_cons, S1.den, At.den, Yy]
    rw [So (ρ := Wk ρ S.nx r) hr]
    rfl
  · intro x hx
    rcases List.mem_cons.1 hx with rfl | hx
    · exact Nat.lt_succ_self _
    · exact S1.bd_mono (Nat.zero_le _) (hr x hx)
theorem Zq.rw1 {K : SV → St → Prop} {E : Nat} {k : Kd} {l : List k.ty} (h : V2 c.P f ps E k l) (hv : pm S args ps)
    (hK : K (.one (.a (.ref S.nx))) ⟨S.slots, (S.nx, .row E k l) :: S.res, S.nx + 1⟩) : Zq c f args S K := by
  intro ρ a w hh
  refine (h w _ (Qx hh args ps hv)).mono fun e w' ⟨r, he, ho, hbl⟩ => ⟨_, Wk ρ S.nx r, _, ⟨Yj _ _ _, Nat.le_succ _⟩, ?_, Nat.lt_succ_self _, hh.res (Yj ρ S.nx r) (Nat.le_succ _) (hh.mem.addRow hbl ho), hK⟩
  rw [he]
  simp only [SV.den, S1.den, At.den, Yy]
theorem Yl.rd {b : Bool} {K : SV → St → Prop} {r : S1} (h : RdC c.P f ps (.one r)) (hv : pm S args ps ∧ r.bd 0) (hK : K (.opt b r) S) : Yl c b f args S K := by
  intro ρ a w hh
  refine ⟨fun hb => ?_, fun hb => ⟨.opt b r, fun _ => S1.bd_mono (Nat.zero_le _) hv.2, by rw [hb]; rfl, hK⟩⟩
  refine (h w _ (Qx hh args ps hv.1)).mono fun e w' ⟨he, hbl⟩ => ⟨.opt b r, ρ, S, Ext.rfl, ?_, fun _ => S1.bd_mono (Nat.zero_le _) hv.2, hh.below hbl, hK⟩
  rw [he, hb]
  show Ending.returned (S1.den Wx r) = Ending.returned (S1.den ρ r)
  rw [S1.den_same (nx := 0) (ρ := Wx) (ρ' := ρ) (fun n hn => by omega) hv.2]
theorem Yl.split {b : Bool} {K : SV → St → Prop} (h1 : b = true → Zq c f args S K) (h2 : b = false → K noV S) : Yl c b f args S K :=
  fun ρ a w hh => ⟨fun hb => h1 hb ρ a w hh, fun hb => ⟨noV, Rb _, rfl, h2 hb⟩⟩
theorem Xt.rd {b : Bool} {K : SV → Prop} {r : S1} (h : RdC c.P f ps (.one r)) (hv : pm S args ps ∧ r.bd 0) (hK : K (.opt b r)) : Xt c b f args S K := by
  refine ⟨.opt b r, fun hb => ⟨fun _ => S1.bd_mono (Nat.zero_le _) hv.2, fun ρ a w hh => ?_⟩, fun hb => ⟨fun _ => S1.bd_mono (Nat.zero_le _) hv.2, fun ρ => by rw [hb]; rfl⟩, hK⟩
  refine (h w _ (Qx hh args ps hv.1)).mono fun e w' ⟨he, hbl⟩ => ⟨?_, hbl⟩
  rw [he, hb]
  show Ending.returned (S1.den Wx r) = Ending.returned (S1.den ρ r)
  rw [S1.den_same (nx := 0) (ρ := Wx) (ρ' := ρ) (fun n hn => by omega) hv.2]
theorem Wa.rd {K : SV → Prop} {r : SV} (h : RdC c.P f ps r) (hv : pm S args ps ∧ r.bd 0) (hK : K r) : Wa c f args S K := by
  refine ⟨r, SV.bd_mono (Nat.zero_le _) hv.2, fun ρ a w hh => ?_, hK⟩
  refine (h w _ (Qx hh args ps hv.1)).mono fun e w' ⟨he, hbl⟩ => ⟨?_, hbl⟩
  rw [he, SV.den_same (nx := 0) (ρ := Wx) (ρ' := ρ) (fun n hn => by omega) hv.2]
end
theorem Ma {n : Int} (h1 : -9223372036854775808 ≤ n) (h2 : n ≤ 9223372036854775807) : IntKind.i64.wrap n = n := IntWalk.i64_in n ⟨h1, h2⟩
theorem Va {k : Nat} (h : k < 9223372036854775807) : IntKind.i64.wrap ((k : Int) + 1) = ((k + 1 : Nat) : Int) := by rw [Ma (by omega) (by omega)]; omega
end Vc
end Go.Proofs.YtccjjcdjgibilaaGreatDoor
