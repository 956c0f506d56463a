/- Contracts, and calls by them; results that are slices; small plain laws on numbers. -/
import Derived.Test.YtccjjcdjgibilaaDoorVcFn
namespace Go.Proofs.YtccjjcdjgibilaaDoor
namespace Vc
open Go.RowKit
set_option linter.unusedVariables false
set_option linter.unusedSimpArgs false
inductive Pat where
  | v (x : S1)
  | ro (k : Kd) (l : List k.ty)
def Qt (w : World) : List Pat → List Value → Prop
  | [], [] => True
  | .v x :: ps, y :: ys => y = x.den Ww ∧ Qt w ps ys
  | .ro k l :: ps, y :: ys => Uw w y k l ∧ Qt w ps ys
  | _, _ => False
def Y0 : List Pat → Prop
  | [] => True
  | .v x :: ps => x.bd 0 ∧ Y0 ps
  | .ro _ _ :: ps => Y0 ps
def Xa : Nat → Nat → List Pat → List (Nat × SV)
  | _, _, [] => []
  | i, n, .v x :: l => (i, .one x) :: Xa (i + 1) n l
  | i, n, .ro _ _ :: l => (i, .one (.a (.ref n))) :: Xa (i + 1) (n + 1) l
def Xc : Nat → List Pat → List (Nat × Res)
  | _, [] => []
  | n, .v _ :: l => Xc n l
  | n, .ro k xs :: l => (n, .ro k xs) :: Xc (n + 1) l
def Xe : Nat → List Pat → Nat
  | n, [] => n
  | n, .v _ :: l => Xe n l
  | n, .ro _ _ :: l => Xe (n + 1) l
theorem T2 {w : World} : ∀ {ps : List Pat} {vs : List Value}, Qt w ps vs → Y0 ps → ∃ as : List Arg, as.map Arg.val = vs ∧ Pa w as ∧ as.length = ps.length ∧ (∀ n, Y2 n as = Xc n ps ∧ Y5 n as = Xe n ps) ∧ ∀ i n, Y9 i n as = Xa i n ps
  | [], [], _, _ => ⟨[], rfl, trivial, rfl, fun n => ⟨rfl, rfl⟩, fun i n => rfl⟩
  | .v x :: ps, y :: ys, h, hb => by
    obtain ⟨as, h1, h2, h3, h4, h5⟩ := T2 h.2 hb.2
    exact ⟨.v x :: as, by simp [Arg.val, h1, h.1], ⟨hb.1, h2⟩, by simp [h3], fun n => h4 n, fun i n => by simp only [Y9, Xa, h5]⟩
  | .ro k l :: ps, y :: ys, h, hb => by
    obtain ⟨as, h1, h2, h3, h4, h5⟩ := T2 h.2 hb
    exact ⟨.ro y k l :: as, by simp [Arg.val, h1], ⟨h.1, h2⟩, by simp [h3], fun n => ⟨by simp only [Y2, Xc, (h4 (n + 1)).1], by simp only [Y5, Xe, (h4 (n + 1)).2]⟩, fun i n => by simp only [Y9, Xa, h5]⟩
  | [], _ :: _, h, _ => h.elim
  | .v _ :: _, [], h, _ => h.elim
  | .ro _ _ :: _, [], h, _ => h.elim
def RdC (P : Program) (f : Nat) (ps : List Pat) (r : SV) : Prop := ∀ (w : World) (vs : List Value), Qt w ps vs → Calls P f vs.toArray w fun e w' => e = .returned (r.den Ww) ∧ Below w.heap.size w w'
def RwC (P : Program) (f : Nat) (ps : List Pat) (E : Nat) (k : Kd) (l : List k.ty) (rest : List S1) : Prop := ∀ (w : World) (vs : List Value), Qt w ps vs →
  Calls P f vs.toArray w fun e w' => ∃ r, e = .returned (.tuple (r :: rest.map (S1.den Ww)).toArray) ∧ Ty w.heap.size w' r E k l ∧ Below w.heap.size w w'
def Ut (P : Program) (f : Nat) (ps : List Pat) (E : Nat) (k : Kd) (l : List k.ty) : Prop := ∀ (w : World) (vs : List Value), Qt w ps vs →
  Calls P f vs.toArray w fun e w' => ∃ r, e = .returned r ∧ Ty w.heap.size w' r E k l ∧ Below w.heap.size w w'
def Yl (S : St) (E : Nat) (k : Kd) (l : List k.ty) : S1 → Prop
  | .a (.ref m) => S.find m = some (.row E k l)
  | .a (.raw (.slice none 0 0)) => l = []
  | _ => False
theorem Yl.own {P : Program} {w0 w : World} {nt : Nat} {ρ : Env} {S : St} (h : Mem ⟨P, w0, [], nt, []⟩ ρ S.res S.nx w) {E : Nat} {k : Kd} {l : List k.ty} {x : S1} (hx : Yl S E k l x) : Ty w0.heap.size w (x.den ρ) E k l := by
  unfold Yl at hx
  split at hx
  · exact h.ownAt (Yy hx)
  · subst hx; exact World.ownsRow_nil w _ E k.sz
  · exact hx.elim
def Yd (E : Nat) (k : Kd) (l : List k.ty) (rest : List S1) (v : SV) (S : St) : Prop := match v with
  | .tup (y :: ys) => ys = rest ∧ Yl S E k l y
  | _ => False
def Zv (E : Nat) (k : Kd) (l : List k.ty) (v : SV) (S : St) : Prop := match v with
  | .one y => Yl S E k l y
  | _ => False
def Xi (r : SV) (v : SV) (_ : St) : Prop := v = r
section
variable {P : Program} {f nt : Nat} {x : IC} {rl : List RV} {ps : List Pat}
theorem Body.rd (hF : Body P f nt x rl) {r : SV} (hlen : ps.length ≤ nt) (hb : Y0 ps) (hr : r.bd 0) (hT : ∀ w, T ⟨P, w, [], nt, []⟩ x (Y4 ⟨P, w, [], nt, []⟩ rl (Xi r)) ⟨Xa 0 0 ps, Xc 0 ps, Xe 0 ps⟩) : RdC P f ps r := by
  intro w vs hok
  obtain ⟨as, h1, h2, h3, h4, h5⟩ := T2 hok hb
  rw [← h1]
  refine hF.args (by omega) h2 (R := Xi r) ?_ fun v S' ρ' w' hv _ hm => ⟨?_, hm.toBelow⟩
  · rw [h5, (h4 0).1, (h4 0).2]; exact hT w
  · rw [show v = r from hv, SV.den_same (nx := 0) (ρ := Ww) (fun n hn => by omega) hr]
theorem Body.rw (hF : Body P f nt x rl) {E : Nat} {k : Kd} {l : List k.ty} {rest : List S1} (hlen : ps.length ≤ nt) (hb : Y0 ps) (hr : ∀ y ∈ rest, y.bd 0) (hT : ∀ w, T ⟨P, w, [], nt, []⟩ x (Y4 ⟨P, w, [], nt, []⟩ rl (Yd E k l rest)) ⟨Xa 0 0 ps, Xc 0 ps, Xe 0 ps⟩) : RwC P f ps E k l rest := by
  intro w vs hok
  obtain ⟨as, h1, h2, h3, h4, h5⟩ := T2 hok hb
  rw [← h1]
  refine hF.args (by omega) h2 (R := Yd E k l rest) (by rw [h5, (h4 0).1, (h4 0).2]; exact hT w) fun v S' ρ' w' hv _ hm => ?_
  unfold Yd at hv
  split at hv
  · rename_i y ys _
    obtain ⟨rfl, hy⟩ := hv
    refine ⟨S1.den ρ' y, ?_, Yl.own hm hy, hm.toBelow⟩
    simp only [SV.den, List.map_cons]
    rw [Ts (ρ := ρ') hr]; rfl
  · exact hv.elim
theorem Body.rw1 (hF : Body P f nt x rl) {E : Nat} {k : Kd} {l : List k.ty} (hlen : ps.length ≤ nt) (hb : Y0 ps) (hT : ∀ w, T ⟨P, w, [], nt, []⟩ x (Y4 ⟨P, w, [], nt, []⟩ rl (Zv E k l)) ⟨Xa 0 0 ps, Xc 0 ps, Xe 0 ps⟩) : Ut P f ps E k l := by
  intro w vs hok
  obtain ⟨as, h1, h2, h3, h4, h5⟩ := T2 hok hb
  rw [← h1]
  refine hF.args (by omega) h2 (R := Zv E k l) (by rw [h5, (h4 0).1, (h4 0).2]; exact hT w) fun v S' ρ' w' hv _ hm => ?_
  unfold Zv at hv
  split at hv
  · rename_i y _
    exact ⟨S1.den ρ' y, rfl, Yl.own hm hv, hm.toBelow⟩
  · exact hv.elim
end
def pm1 (S : St) : S1 → Pat → Prop
  | x, .v y => x = y ∧ y.bd 0
  | .a (.ref m), .ro k l => match S.find m with
    | some (.ro k' l') => Z5 k' k l' = some l
    | some (.row _ k' l') => Z5 k' k l' = some l
    | some (.lit _ z e cs) => l.flatMap k.enc = cs ∧ l.length = e
    | _ => False
  | .a (.raw (.slice none 0 0)), .ro k l => l = []
  | _, _ => False
def pm (S : St) : List S1 → List Pat → Prop
  | [], [] => True
  | x :: xs, p :: ps => pm1 S x p ∧ pm S xs ps
  | _, _ => False
theorem Ni : ∀ {k' k : Kd} {l' : List k'.ty} {l : List k.ty}, Z5 k' k l' = some l → ∀ {w : World} {v : Value}, Uw w v k' l' → Uw w v k l := by
  intro k' k l' l h
  cases k' <;> cases k <;> simp only [Z5, reduceCtorEq, Option.some.injEq] at h <;> (try (subst h; exact fun h => h))
  rename_i a b
  split at h
  · rename_i e; cases e; cases h; exact fun h => h
  · cases h
def pat1 (w : World) : Pat → Value → Prop
  | .v x, y => y = x.den Ww
  | .ro k l, y => Uw w y k l
theorem Ka {S : St} {c : Cx} {ρ : Env} {a : Act} {w : World} (hh : S.holds c ρ a w) {x : S1} {p : Pat} (h : pm1 S x p) : pat1 w p (x.den ρ) := by
  unfold pm1 at h
  split at h
  · obtain ⟨rfl, hb⟩ := h
    exact S1.den_same (nx := 0) (ρ := Ww) (fun n hn => by omega) hb
  · split at h
    · rename_i hf; exact Ni h (hh.mem.ro (.inl (Yy hf)))
    · rename_i hf; exact Ni h (hh.mem.ro (.inr ⟨_, Yy hf⟩))
    · rename_i hf; exact Res.lit_ro (hh.mem.res _ _ (Yy hf)) h.1 h.2
    · exact h.elim
  · subst h; exact ⟨none, 0, ⟨rfl, Nat.le_refl _⟩, fun _ => rfl, fun ad had => by cases had⟩
  · exact h.elim
theorem Rm {S : St} {c : Cx} {ρ : Env} {a : Act} {w : World} (hh : S.holds c ρ a w) : ∀ (xs : List S1) (ps : List Pat), pm S xs ps → Qt w ps (xs.map (S1.den ρ))
  | [], [], _ => trivial
  | x :: xs, .v y :: ps, h => ⟨Ka hh h.1, Rm hh xs ps h.2⟩
  | x :: xs, .ro k l :: ps, h => ⟨Ka hh h.1, Rm hh xs ps h.2⟩
  | [], _ :: _, h => h.elim
  | _ :: _, [], h => h.elim
theorem St.holds.res {S : St} {c : Cx} {ρ ρ' : Env} {a : Act} {w w' : World} (h : S.holds c ρ a w) {R : List (Nat × Res)} {nx : Nat} (hs : U5 S.nx ρ ρ') (hnx : S.nx ≤ nx) (hm : Mem c ρ' R nx w') : (St.mk S.slots R nx).holds c ρ' a w' :=
  h.put hs hnx hm (d := none) (fun t ht => by cases ht) (v := noV) (Sn nx)
section
variable {c : Cx} {f : Nat} {args : List S1} {S : St} {ps : List Pat}
theorem Z2.rd {K : SV → St → Prop} {r : SV} (h : RdC c.P f ps r) (hv : pm S args ps ∧ r.bd 0) (hK : K r S) : Z2 c f args S K := by
  intro ρ a w hh
  refine (h w _ (Rm hh args ps hv.1)).mono fun e w' ⟨he, hbl⟩ => ⟨r, ρ, S, Ext.rfl, ?_, SV.bd_mono (Nat.zero_le _) hv.2, hh.below hbl, hK⟩
  rw [he, SV.den_same (nx := 0) (ρ := Ww) (ρ' := ρ) (fun n hn => by omega) hv.2]
theorem Z2.rw {K : SV → St → Prop} {E : Nat} {k : Kd} {l : List k.ty} {rest : List S1} (h : RwC c.P f ps E k l rest) (hv : pm S args ps ∧ Zr rest)
    (hK : K (.tup (.a (.ref S.nx) :: rest)) ⟨S.slots, (S.nx, .row E k l) :: S.res, S.nx + 1⟩) : Z2 c f args S K := by
  intro ρ a w hh
  have hr := T8 hv.2
  refine (h w _ (Rm hh args ps hv.1)).mono fun e w' ⟨r, he, ho, hbl⟩ => ⟨_, Wc ρ S.nx r, _, ⟨Yx _ _ _, Nat.le_succ _⟩, ?_, ?_, hh.res (Yx ρ S.nx r) (Nat.le_succ _) (hh.mem.addRow hbl ho), hK⟩
  · rw [he]
    simp only [SV.den, List.map_cons, S1.den, At.den, Xh]
    rw [Ts (ρ := Wc ρ S.nx r) hr]
    rfl
  · intro x hx
    rcases List.mem_cons.1 hx with rfl | hx
    · exact Nat.lt_succ_self _
    · exact S1.bd_mono (Nat.zero_le _) (hr x hx)
theorem Z2.rw1 {K : SV → St → Prop} {E : Nat} {k : Kd} {l : List k.ty} (h : Ut c.P f ps E k l) (hv : pm S args ps)
    (hK : K (.one (.a (.ref S.nx))) ⟨S.slots, (S.nx, .row E k l) :: S.res, S.nx + 1⟩) : Z2 c f args S K := by
  intro ρ a w hh
  refine (h w _ (Rm hh args ps hv)).mono fun e w' ⟨r, he, ho, hbl⟩ => ⟨_, Wc ρ S.nx r, _, ⟨Yx _ _ _, Nat.le_succ _⟩, ?_, Nat.lt_succ_self _, hh.res (Yx ρ S.nx r) (Nat.le_succ _) (hh.mem.addRow hbl ho), hK⟩
  rw [he]
  simp only [SV.den, S1.den, At.den, Xh]
theorem Z3.rd {b : Bool} {K : SV → St → Prop} {r : S1} (h : RdC c.P f ps (.one r)) (hv : pm S args ps ∧ r.bd 0) (hK : K (.opt b r) S) : Z3 c b f args S K := by
  intro ρ a w hh
  refine ⟨fun hb => ?_, fun hb => ⟨.opt b r, fun _ => S1.bd_mono (Nat.zero_le _) hv.2, by rw [hb]; rfl, hK⟩⟩
  refine (h w _ (Rm hh args ps hv.1)).mono fun e w' ⟨he, hbl⟩ => ⟨.opt b r, ρ, S, Ext.rfl, ?_, fun _ => S1.bd_mono (Nat.zero_le _) hv.2, hh.below hbl, hK⟩
  rw [he, hb]
  show Ending.returned (S1.den Ww r) = Ending.returned (S1.den ρ r)
  rw [S1.den_same (nx := 0) (ρ := Ww) (ρ' := ρ) (fun n hn => by omega) hv.2]
theorem Z3.split {b : Bool} {K : SV → St → Prop} (h1 : b = true → Z2 c f args S K) (h2 : b = false → K noV S) : Z3 c b f args S K :=
  fun ρ a w hh => ⟨fun hb => h1 hb ρ a w hh, fun hb => ⟨noV, Sn _, rfl, h2 hb⟩⟩
theorem Y7.rd {b : Bool} {K : SV → Prop} {r : S1} (h : RdC c.P f ps (.one r)) (hv : pm S args ps ∧ r.bd 0) (hK : K (.opt b r)) : Y7 c b f args S K := by
  refine ⟨.opt b r, fun hb => ⟨fun _ => S1.bd_mono (Nat.zero_le _) hv.2, fun ρ a w hh => ?_⟩, fun hb => ⟨fun _ => S1.bd_mono (Nat.zero_le _) hv.2, fun ρ => by rw [hb]; rfl⟩, hK⟩
  refine (h w _ (Rm hh args ps hv.1)).mono fun e w' ⟨he, hbl⟩ => ⟨?_, hbl⟩
  rw [he, hb]
  show Ending.returned (S1.den Ww r) = Ending.returned (S1.den ρ r)
  rw [S1.den_same (nx := 0) (ρ := Ww) (ρ' := ρ) (fun n hn => by omega) hv.2]
theorem Wn.rd {K : SV → Prop} {r : SV} (h : RdC c.P f ps r) (hv : pm S args ps ∧ r.bd 0) (hK : K r) : Wn c f args S K := by
  refine ⟨r, SV.bd_mono (Nat.zero_le _) hv.2, fun ρ a w hh => ?_, hK⟩
  refine (h w _ (Rm hh args ps hv.1)).mono fun e w' ⟨he, hbl⟩ => ⟨?_, hbl⟩
  rw [he, SV.den_same (nx := 0) (ρ := Ww) (ρ' := ρ) (fun n hn => by omega) hv.2]
end
theorem So {n : Int} (h1 : -9223372036854775808 ≤ n) (h2 : n ≤ 9223372036854775807) : IntKind.i64.wrap n = n := IntWalk.i64_in n ⟨h1, h2⟩
theorem Wt {k : Nat} (h : k < 9223372036854775807) : IntKind.i64.wrap ((k : Int) + 1) = ((k + 1 : Nat) : Int) := by rw [So (by omega) (by omega)]; omega
end Vc
end Go.Proofs.YtccjjcdjgibilaaDoor
