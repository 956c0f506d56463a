/- A function's beginning and end; calls by contract; regions that draw their order and only read. -/
import Derived.Test.YtjochhncheheaaaGreatDoorVcCode
namespace Go.Proofs.YtjochhncheheaaaGreatDoor
namespace Vc
open Go.RowKit
set_option linter.unusedVariables false
set_option linter.unusedSimpArgs false
theorem Mem.drew {c : Cx} {ρ : Env} {R : List (Nat × Res)} {nx : Nat} {w : World} (h : Mem c ρ R nx w) : Mem c ρ R nx { w with drawn := w.drawn + 1 } :=
  h.grow rfl rfl rfl (Nat.le_refl _) fun _ _ ho _ => ho
theorem Mem.toBelow {P : Program} {w0 w : World} {nt : Nat} {ρ : Env} {R : List (Nat × Res)} {nx : Nat} (h : Mem ⟨P, w0, [], nt, []⟩ ρ R nx w) : Below w0.heap.size w0 w :=
  ⟨h.os, h.tape, h.output, h.size, fun k hk => h.block k hk (by simp)⟩
inductive RV where
  | tmp (t : Nat)
  | cell (t n : Nat) (agg : Bool)
def N7 (P : Program) : List ResultVar → Option (List RV)
  | [] => some []
  | .tmp t :: r => if t < BIG then (match N7 P r with | some l => some (.tmp t :: l) | none => none) else none
  | .cell t T :: r => if BIG ≤ t then none else match P.underlying T, P.info? T, N7 P r with | some d, some i, some l => some (.cell t i.size (Wc d) :: l) | _, _, _ => none
def rvs (S : St) : List RV → Option (List S1)
  | [] => some []
  | .tmp t :: r => match S.get t, rvs S r with
    | some (.one v), some l => some (v :: l)
    | _, _ => none
  | .cell t n agg :: r => match S.get t, rvs S r with
    | some (.one (.a (.loc m o))), some l => (match S.find m with
      | some (.cells _ cs) => (match Ws cs o n agg with
        | some (.one v) => some (v :: l)
        | _ => none)
      | _ => none)
    | _, _ => none
def N5 : List S1 → SV
  | [v] => .one v
  | l => .tup l
def Oo (tmps : Array Value) : ResultVar → Sem Value
  | .tmp t => pure (tmps.getD t undef)
  | .cell q t => do loadVar t (← asAddr (tmps.getD q undef))
theorem Hv (fn : Func) (tmps : Array Value) : results fn tmps = (do let vs ← fn.results.mapM (Oo tmps); pure (if h : vs.size = 1 then vs[0] else .tuple vs)) := rfl
theorem Po {c : Cx} {S : St} {ρ : Env} {a : Act} {w : World} (hh : S.holds c ρ a w) : ∀ {rs : List ResultVar} {rl : List RV} {vs : List S1}, N7 c.P rs = some rl → rvs S rl = some vs →
    (rs.mapM (Oo a.tmps) : Sem (List Value)).run c.P w = .ok (vs.map (S1.den ρ)) w ∧ ∀ v ∈ vs, v.bd S.nx
  | [], rl, vs, h1, h2 => by cases h1; cases h2; exact ⟨by rw [List.mapM_nil, Sem.run_pure]; rfl, by simp⟩
  | .tmp t :: rs, rl, vs, h1, h2 => by
    simp only [N7] at h1
    split at h1
    rotate_left
    · cases h1
    rename_i hlow
    split at h1
    · rename_i l hl
      cases h1
      simp only [rvs] at h2
      split at h2
      · rename_i v l' hg hr
        cases h2
        obtain ⟨ih1, ih2⟩ := Po hh hl hr
        have e1 := hh.slot _ _ hg
        rw [W9 hlow] at e1
        refine ⟨?_, fun x hx => ?_⟩
        · rw [List.mapM_cons]
          simp only [Sem.run_bind, Oo, Sem.run_pure, Result.andThen_ok, ih1]
          simp [Array.getD_eq_getD_getElem?, e1, SV.den]
        · rcases List.mem_cons.1 hx with rfl | hx
          · exact hh.bds _ _ hg
          · exact ih2 x hx
      · cases h2
    · cases h1
  | .cell q T :: rs, rl, vs, h1, h2 => by
    simp only [N7] at h1
    split at h1
    · cases h1
    rename_i hlow
    split at h1
    · rename_i d i l hd hi hl
      cases h1
      simp only [rvs] at h2
      split at h2
      · rename_i m o l' hg hr
        split at h2
        · rename_i E cs hf
          split at h2
          · rename_i v hld
            cases h2
            obtain ⟨ih1, ih2⟩ := Po hh hl hr
            have e1 := hh.slot _ _ hg
            rw [W9 (Nat.lt_of_not_le hlow)] at e1
            obtain ⟨b, hv, hb⟩ := hh.mem.res m _ (Zd hf)
            obtain ⟨g1, g2⟩ := V4 (c := c) (P := c.P) (ρ := ρ) (w := w) (a := ⟨b, o, none⟩) hd hi hld (hh.mem.bdr _ _ (Zd hf)).2 rfl fun j u hu => by
              rw [cell_of_row w b _ _ E (0, 0) hb]; simp [hu]
            have e2 : a.tmps.getD q undef = .pointer (some ⟨b, o, none⟩) := by
              simp [Array.getD_eq_getD_getElem?, e1, SV.den, S1.den, At.den, hv, X1]
            refine ⟨?_, fun x hx => ?_⟩
            · rw [List.mapM_cons]
              have e3 : (Oo a.tmps (.cell q T)).run c.P w = .ok (v.den ρ) w := by
                show (do loadVar T (← asAddr (a.tmps.getD q undef)) : Sem Value).run c.P w = _
                rw [e2, Sem.run_bind]
                exact g1
              simp only [Sem.run_bind, e3, Sem.run_pure, Result.andThen_ok, ih1, List.map_cons]
            · rcases List.mem_cons.1 hx with rfl | hx
              · exact g2
              · exact ih2 x hx
          · cases h2
        · cases h2
      · cases h2
    · cases h1
theorem R5 {c : Cx} {S : St} {ρ : Env} {a : Act} {w : World} (hh : S.holds c ρ a w) {fn : Func} {rl : List RV} {vs : List S1} (h1 : N7 c.P fn.results.toList = some rl) (h2 : rvs S rl = some vs) :
    (results fn a.tmps).run c.P w = .ok ((N5 vs).den ρ) w ∧ (N5 vs).bd S.nx := by
  obtain ⟨g1, g2⟩ := Po hh h1 h2
  refine ⟨?_, ?_⟩
  · rw [Hv, Array.mapM_eq_mapM_toList]
    simp only [map_eq_pure_bind, Sem.run_bind, Result.andThen_ok, Sem.run_pure]
    rw [g1]
    simp only [Result.andThen_ok, Sem.run_pure]
    match vs with
    | [] => rfl
    | [v] => rfl
    | v :: u :: l => simp [N5, SV.den]
  · match vs, g2 with
    | [], _ => intro x hx; cases hx
    | [v], g2 => exact g2 v (by simp)
    | v :: u :: l, g2 => exact g2
def Sz (c : Cx) (rl : List RV) (R : SV → St → Prop) : Exit → St → Prop
  | .normal, S => match rvs S rl with | some vs => R (N5 vs) S | none => False
  | .ret, S => match rvs S rl with | some vs => R (N5 vs) S | none => False
  | _, _ => False
structure Body (P : Program) (f : Nat) (nt : Nat) (x : IC) (rl : List RV) : Prop where
  lown : nt ≤ BIG
  ok : ∃ fn code, P.funcs[f]? = some fn ∧ fn.body = some code ∧ fn.ntmps = nt ∧ Wj P nt code = some x ∧ N7 P fn.results.toList = some rl
theorem Body.calls {P : Program} {f nt : Nat} {x : IC} {rl : List RV} (hF : Body P f nt x rl) {w : World} {X : List Nat} {fr : List Value} {args : Array Value} {S : St} {ρ : Env} {R : SV → St → Prop} {Post : Ending → World → Prop}
    (hlen : args.size ≤ nt) (hs : ∀ t v, S.get t = some v → (if t < BIG then args[t]? else fr[t - BIG]?) = some (v.den ρ) ∧ v.bd S.nx) (hm : Mem ⟨P, w, X, nt, fr⟩ ρ S.res S.nx w) (hT : T ⟨P, w, X, nt, fr⟩ x (Sz ⟨P, w, X, nt, fr⟩ rl R) S)
    (hpost : ∀ v S' ρ' w', R v S' → v.bd S'.nx → Mem ⟨P, w, X, nt, fr⟩ ρ' S'.res S'.nx w' → Post (.returned (v.den ρ')) w') : Calls P f args w Post := by
  obtain ⟨fn, code, h1, h2, h3, h4, h5⟩ := hF.ok
  refine calls_of_wp h1 h2 ?_
  have hh : S.holds ⟨P, w, X, nt, fr⟩ ρ { tmps := args ++ Array.replicate (fn.ntmps - args.size) undef, defers := [] } w := by
    refine ⟨rfl, by simp [h3]; omega, hF.lown, fun t v hv => ?_, fun t v hv => (hs t v hv).2, hm⟩
    have := (hs t v hv).1
    unfold R4
    split
    rotate_left
    · rename_i hb; rwa [if_neg hb] at this
    rename_i hb
    rw [if_pos hb] at this
    have hlt : t < args.size := (Array.getElem?_eq_some_iff.1 this).1
    rw [Array.getElem?_append_left hlt]; exact this
  refine wp_mono (hT ρ _ w hh code h4) fun e a' w' hl => ?_
  obtain ⟨S', ρ', g1, g2⟩ := hl
  have fin : (match rvs S' rl with | some vs => R (N5 vs) S' | none => False) → a'.defers = [] ∧ ∃ v, (results fn a'.tmps).run P w' = .ok v w' ∧ Post (.returned v) w' := by
    intro h
    split at h
    · rename_i vs hvs
      obtain ⟨r1, r2⟩ := R5 g1 h5 hvs
      exact ⟨g1.nodef, _, r1, hpost _ _ _ _ h r2 g1.mem⟩
    · exact h.elim
  cases e with
  | normal => exact fin g2
  | ret => exact fin g2
  | _ => exact g2.elim
def Xi : Nat → List S1 → List (Nat × SV)
  | _, [] => []
  | i, v :: l => (i, .one v) :: Xi (i + 1) l
theorem Us {ρ : Env} {nx : Nat} : ∀ {vs : List S1} {i t : Nat} {v : SV}, (∀ v ∈ vs, v.bd nx) → Z1 (Xi i vs) t = some v → ∃ j, t = i + j ∧ (vs.map (S1.den ρ))[j]? = some (v.den ρ) ∧ v.bd nx
  | u :: vs, i, t, v, hb, h => by
    rcases look_cons h with ⟨rfl, rfl⟩ | ⟨hne, h⟩
    · exact ⟨0, rfl, rfl, hb u (by simp)⟩
    · obtain ⟨j, h1, h2, h3⟩ := Us (ρ := ρ) (fun v hv => hb v (by simp [hv])) h
      exact ⟨j + 1, by omega, by simpa using h2, h3⟩
theorem Mem.none (P : Program) (w : World) (X : List Nat) (nt nx : Nat) (fr : List Value) : Mem ⟨P, w, X, nt, fr⟩ (fun _ => Xe) [] nx w :=
  ⟨rfl, rfl, rfl, Nat.le_refl _, fun _ _ _ => rfl, fun _ => rfl, List.nodup_nil, (fun n r h => nomatch h), (fun n r h => nomatch h), List.nodup_nil, (fun b hb => nomatch hb)⟩
theorem Body.plain {P : Program} {f nt : Nat} {x : IC} {rl : List RV} (hF : Body P f nt x rl) {w : World} {vs : List S1} {R : SV → St → Prop} {Post : Ending → World → Prop}
    (hlen : vs.length ≤ nt) (hb : ∀ v ∈ vs, v.bd 0) (hT : T ⟨P, w, [], nt, []⟩ x (Sz ⟨P, w, [], nt, []⟩ rl R) ⟨Xi 0 vs, [], 0⟩)
    (hpost : ∀ v S' ρ' w', R v S' → v.bd S'.nx → Mem ⟨P, w, [], nt, []⟩ ρ' S'.res S'.nx w' → Post (.returned (v.den ρ')) w') : Calls P f (vs.map (S1.den fun _ => Xe)).toArray w Post := by
  refine hF.calls (S := ⟨Xi 0 vs, [], 0⟩) (ρ := fun _ => Xe) (by simpa using hlen) (fun t v hv => ?_) (Mem.none P w [] nt 0 []) hT hpost
  obtain ⟨j, h1, h2, h3⟩ := Us (ρ := fun _ => Xe) hb hv
  simp only [Nat.zero_add] at h1
  subst h1
  have hjl : t < BIG := by
    have := (List.getElem?_eq_some_iff.1 h2).1
    have h4 := hF.lown
    simp only [List.length_map] at this
    omega
  exact ⟨by rw [if_pos hjl]; simpa using h2, h3⟩
theorem Body.quiet {P : Program} {f nt : Nat} {x : IC} {rl : List RV} (hF : Body P f nt x rl) {w : World} {vs : List S1} {r : SV}
    (hlen : vs.length ≤ nt) (hb : ∀ v ∈ vs, v.bd 0) (hr : r.bd 0) (hT : T ⟨P, w, [], nt, []⟩ x (Sz ⟨P, w, [], nt, []⟩ rl fun v _ => v = r) ⟨Xi 0 vs, [], 0⟩) :
    Calls P f (vs.map (S1.den fun _ => Xe)).toArray w fun e w' => e = .returned (r.den fun _ => Xe) ∧ Below w.heap.size w w' :=
  hF.plain hlen hb hT fun v S' ρ' w' hv _ hm => ⟨by rw [hv, SV.den_same (nx := 0) (ρ := fun _ => Xe) (fun n hn => by omega) hr], hm.toBelow⟩
theorem S0 {ρ : Env} {vs : List S1} (hb : ∀ v ∈ vs, v.bd 0) : vs.map (S1.den ρ) = vs.map (S1.den fun _ => Xe) :=
  List.map_congr_left fun v hv => S1.den_same (nx := 0) (ρ := fun _ => Xe) (fun n hn => by omega) (hb v hv)
theorem Za.plain {c : Cx} {f : Nat} {args : List S1} {S : St} {K : SV → St → Prop} (r : SV) (h : ∀ w, Calls c.P f (args.map (S1.den fun _ => Xe)).toArray w fun e w' => e = .returned (r.den fun _ => Xe) ∧ Below w.heap.size w w')
    (hb : ∀ v ∈ args, v.bd 0) (hr : r.bd 0) (hK : K r S) : Za c f args S K := by
  intro ρ a w hh
  rw [S0 hb]
  refine (h w).mono fun e w' ⟨he, hbl⟩ => ⟨r, ρ, S, Ext.rfl, ?_, SV.bd_mono (Nat.zero_le _) hr, hh.below hbl, hK⟩
  rw [he, SV.den_same (nx := 0) (ρ := fun _ => Xe) (ρ' := ρ) (fun n hn => by omega) hr]
def Z2 (c : Cx) (f : Nat) (args : List S1) (S : St) (K : SV → Prop) : Prop :=
  ∃ v : SV, v.bd S.nx ∧ (∀ ρ a w, S.holds c ρ a w → Calls c.P f (args.map (S1.den ρ)).toArray w fun e w' => e = .returned (v.den ρ) ∧ Below w.heap.size w w') ∧ K v
def Zs (c : Cx) (b : Bool) (f : Nat) (args : List S1) (S : St) (K : SV → Prop) : Prop :=
  ∃ v : SV, (b = true → v.bd S.nx ∧ ∀ ρ a w, S.holds c ρ a w → Calls c.P f (args.map (S1.den ρ)).toArray w fun e w' => e = .returned (v.den ρ) ∧ Below w.heap.size w w') ∧ (b = false → v.bd S.nx ∧ ∀ ρ, v.den ρ = undef) ∧ K v
def putK (K : St → Prop) (S : St) (d : Option Nat) (v : SV) : Prop := K (S.put d v)
def stq (c : Cx) (S : St) (d : Option Nat) : I → (St → Prop) → Prop
  | .load n agg x, K => match S.rd x with
    | some (p, .a (.elt m sz i j)) => (match S.find m with
      | some (.rou l) => if sz = 2 then (match agg, n, j with
        | true, 2, 0 => p ∧ i < l.length ∧ K (S.new (.ro .line (l.getD i ([], [])).2) d (.one (.agg [.str (l.getD i ([], [])).1, .ref S.nx])))
        | false, 1, 0 => p ∧ i < l.length ∧ K (S.put d (.one (.a (.str (l.getD i ([], [])).1))))
        | false, 1, 1 => p ∧ i < l.length ∧ K (S.new (.ro .line (l.getD i ([], [])).2) d (.one (.a (.ref S.nx))))
        | _, _, _ => False) else False
      | _ => False)
    | _ => False
  | .call f args, K => match Td S args with
    | some (p, vs) => p ∧ Z2 c f vs S (putK K S d)
    | none => False
  | .pick cc x y, K => match S.rd cc with
    | some (p, .a (.bool g)) => p ∧ (g = true → match S.rd x with
        | some (q, v) => q ∧ K (S.put d (.one v))
        | none => False) ∧ (g = false → match S.rd y with
        | some (q, v) => q ∧ K (S.put d (.one v))
        | none => False)
    | _ => False
  | _, _ => False
def Hx (c : Cx) (b : Bool) (S : St) (d : Option Nat) (i : I) (K : St → Prop) : Prop :=
  match i with
  | .call f args => (match Td S args with
    | some (p, vs) => (b = true → p) ∧ Zs c b f vs S (putK K S d)
    | none => False)
  | i => (b = true → stq c S d i K) ∧ (b = false → K (S.put d noV))
def exq (c : Cx) : List In → St → (St → Prop) → Prop
  | [], S, K => K S
  | ⟨none, d, i⟩ :: r, S, K => match ev S i with
    | some (p, v) => p ∧ exq c r (S.put d v) K
    | none => stq c S d i fun S' => exq c r S' K
  | ⟨some g, d, i⟩ :: r, S, K => match gdc S g with
    | none => False
    | some b => match ev S i with
      | some (p, .one v) => (b = true → p) ∧ exq c r (S.put d (.opt b v)) K
      | _ => Hx c b S d i fun S' => exq c r S' K
def exqK (c : Cx) (r : List In) (K : St → Prop) (S : St) : Prop := exq c r S K
theorem Gg (c : Cx) (S : St) (K : St → Prop) : exq c [] S K = K S := rfl
theorem Ju (c : Cx) (d : Option Nat) (i : I) (r : List In) (S : St) (K : St → Prop) : exq c (⟨none, d, i⟩ :: r) S K = (match ev S i with
    | some (p, v) => p ∧ exq c r (S.put d v) K
    | none => stq c S d i (exqK c r K)) := rfl
theorem Ij (c : Cx) (g : Nat × Bool) (d : Option Nat) (i : I) (r : List In) (S : St) (K : St → Prop) : exq c (⟨some g, d, i⟩ :: r) S K = (match gdc S g with
    | none => False
    | some b => match ev S i with
      | some (p, .one v) => (b = true → p) ∧ exq c r (S.put d (.opt b v)) K
      | _ => Hx c b S d i (exqK c r K)) := rfl
theorem St.holds.atw {S : St} {c : Cx} {ρ : Env} {a : Act} {w w' : World} (h : S.holds c ρ a w) (hm : Mem c ρ S.res S.nx w') : S.holds c ρ a w' := ⟨h.nodef, h.sz, h.lown, h.slot, h.bds, hm⟩
theorem put_res (S : St) (d : Option Nat) (v : SV) : (S.put d v).res = S.res ∧ (S.put d v).nx = S.nx := by cases d <;> exact ⟨rfl, rfl⟩
theorem Mi {c : Cx} {S : St} {ρ : Env} {a : Act} {w : World} (hh : S.holds c ρ a w) {o : Oper} {n : Nat} {agg : Bool} {x : Opd} (hc : R7 c.P o = some (.load n agg x)) (hd : ∀ t, o.dst = some t → t < c.nt) {K : St → Prop} (hs : stq c S o.dst (.load n agg x) K) :
    ∃ u S' ρ', K S' ∧ (∀ w', Below w.heap.size w w' → (execOp a.eval o).run c.P w' = .ok (.value u) w') ∧ S'.holds c ρ' (a.put o.dst u) w := by
  have hc' : ∃ t y dd j, o.op = .load t y ∧ c.P.underlying t = some dd ∧ c.P.info? t = some j ∧ n = j.size ∧ agg = Wc dd ∧ x = opd y := by
    replace hc := Ka hc rfl
    unfold Tb at hc
    split at hc <;> (try (repeat' split at hc) <;> cases hc)
    exact ⟨_, _, _, _, by assumption, by assumption, by assumption, rfl, rfl, rfl⟩
  obtain ⟨t, y, dd, j, ho, ht, hi, rfl, hag, rfl⟩ := hc'
  simp only [stq] at hs
  split at hs
  · rename_i p m sz ii jj hrd
    split at hs
    · rename_i l hf
      split at hs
      · rename_i hsz
        subst hsz
        split at hs
        · rename_i hagg hsz
          obtain ⟨hp, hlt, hK⟩ := hs
          obtain ⟨e1, _⟩ := Zb hh hrd hp
          obtain ⟨ad, cap, a1, cap1, g1, g2, g3, g4, g5⟩ := hh.mem.rou_cell (Zd hf) hlt
          have hm := hh.mem.nameLines g4 g5
          have hput := hh.put (Ze ρ S.nx _) (Nat.le_succ _) hm hd (v := .one (.agg [.str (l.getD ii ([], [])).1, .ref S.nx])) (by intro u hu; simp only [List.mem_cons, List.not_mem_nil, or_false] at hu; rcases hu with rfl | rfl <;> simp [At.bd])
          have hden : (SV.one (.agg [.str (l.getD ii ([], [])).1, .ref S.nx])).den (Yg ρ S.nx (.slice a1 (l.getD ii ([], [])).2.length cap1)) = .agg #[.string ⟨(l.getD ii ([], [])).1.toArray⟩, .slice a1 (l.getD ii ([], [])).2.length cap1] := by
            simp only [SV.den, S1.den, List.map_cons, List.map_nil, At.den, Zj]
          rw [hden] at hput
          refine ⟨_, _, _, hK, fun w' hb => ?_, hput⟩
          unfold execOp; simp only [ho]
          refine Xb ?_
          rw [e1]
          simp only [S1.den, At.den, g1, W5, Instr.loadAt, Sem.run_bind, Yi, Result.andThen_ok]
          refine Un ht hi hag.symm (cs := [.string ⟨(l.getD ii ([], [])).1.toArray⟩, .slice a1 (l.getD ii ([], [])).2.length cap1]) hsz fun q v hq => ?_
          rw [Addr.add_lit]
          match q, hq with
          | 0, hq => cases hq; exact (hb.cell (Xs g2)).trans g2
          | 1, hq => cases hq; exact (hb.cell (Xs g3)).trans g3
          | q + 2, hq => simp at hq
        · rename_i hagg hsz
          obtain ⟨hp, hlt, hK⟩ := hs
          obtain ⟨e1, _⟩ := Zb hh hrd hp
          obtain ⟨ad, cap, a1, cap1, g1, g2, g3, g4, g5⟩ := hh.mem.rou_cell (Zd hf) hlt
          refine ⟨_, _, _, hK, fun w' hb => ?_, hh.put_same hd (v := .one (.a (.str (l.getD ii ([], [])).1))) trivial⟩
          unfold execOp; simp only [ho]
          refine Xb ?_
          rw [e1]
          simp only [S1.den, At.den, g1, W5, Instr.loadAt, Sem.run_bind, Yi, Result.andThen_ok]
          exact We ht hag.symm ((hb.cell (Xs g2)).trans g2)
        · rename_i hagg hsz
          obtain ⟨hp, hlt, hK⟩ := hs
          obtain ⟨e1, _⟩ := Zb hh hrd hp
          obtain ⟨ad, cap, a1, cap1, g1, g2, g3, g4, g5⟩ := hh.mem.rou_cell (Zd hf) hlt
          have hm := hh.mem.nameLines g4 g5
          have hput := hh.put (Ze ρ S.nx _) (Nat.le_succ _) hm hd (v := .one (.a (.ref S.nx))) (Nat.lt_succ_self _)
          have hden : (SV.one (.a (.ref S.nx))).den (Yg ρ S.nx (.slice a1 (l.getD ii ([], [])).2.length cap1)) = .slice a1 (l.getD ii ([], [])).2.length cap1 := by simp only [SV.den, S1.den, At.den, Zj]
          rw [hden] at hput
          refine ⟨_, _, _, hK, fun w' hb => ?_, hput⟩
          unfold execOp; simp only [ho]
          refine Xb ?_
          rw [e1]
          simp only [S1.den, At.den, g1, W5, Instr.loadAt, Sem.run_bind, Yi, Result.andThen_ok]
          exact We ht hag.symm ((hb.cell (Xs g3)).trans g3)
        · exact hs.elim
      · exact hs.elim
    · exact hs.elim
  · exact hs.elim
theorem Mx {c : Cx} {ops : Array Oper} {w0 : World} : ∀ (ol : List Oper) (il : List In), ol.mapM (X4 c.P c.nt ops) = some il → ∀ (K : St → Prop) (S : St) (ρ : Env) (a : Act),
    exq c il S K → S.holds c ρ a w0 → wpQuiet c.P ops (fun w => Below w0.heap.size w0 w) (fun a' => ∃ S' ρ', K S' ∧ S'.holds c ρ' a' w0) ol a
  | [], il, hm, K, S, ρ, a, hx, hh => by
    rw [List.mapM_nil] at hm
    cases hm
    exact ⟨S, ρ, hx, hh⟩
  | o :: ol, il, hm, K, S, ρ, a, hx, hh => by
    rw [List.mapM_cons] at hm
    cases h1 : X4 c.P c.nt ops o with
    | none => simp [h1] at hm
    | some x =>
      cases h2 : ol.mapM (X4 c.P c.nt ops) with
      | none => simp [h1, h2] at hm
      | some il' =>
        simp [h1, h2] at hm
        subst hm
        obtain ⟨hc, hdst, hd, hg⟩ := Ue h1
        obtain ⟨g, d, i⟩ := x
        simp only at hc hdst hg
        subst hdst
        have ih : ∀ S' ρ' a', exq c il' S' K → S'.holds c ρ' a' w0 → wpQuiet c.P ops (fun w => Below w0.heap.size w0 w) (fun a' => ∃ S' ρ', K S' ∧ S'.holds c ρ' a' w0) ol a' := fun S' ρ' a' h1 h3 => Mx ol il' h2 K S' ρ' a' h1 h3
        have atw : ∀ {w}, Below w0.heap.size w0 w → S.holds c ρ a w := fun hb => hh.below hb
        have stq_ok : stq c S o.dst i (fun S' => exq c il' S' K) → o.quiet c.P a (fun w => Below w0.heap.size w0 w) (wpQuiet c.P ops (fun w => Below w0.heap.size w0 w) (fun a' => ∃ S' ρ', K S' ∧ S'.holds c ρ' a' w0) ol) := by
          intro hs
          cases i with
          | load n agg x =>
            obtain ⟨u, S', ρ', hK, hrun, hS'⟩ := Mi hh hc hd hs
            refine ⟨u, fun w hw => ?_, ih _ _ _ hK hS'⟩
            unfold Oper.quietAt
            rw [hrun w hw]
            exact ⟨rfl, rfl⟩
          | call f args =>
            simp only [stq] at hs
            split at hs
            · rename_i p vs hrd
              obtain ⟨hp, v, hvb, hcall, hK⟩ := hs
              refine ⟨v.den ρ, fun w hw => ?_, ih _ _ _ hK (hh.put_same hd hvb)⟩
              have hc' := Ka hc rfl
              unfold Tb at hc'
              have hrun : ∃ cl f' fn, o.op = .call cl ∧ cl.callee = .value (.func f') ∧ c.P.funcs[f']? = some fn ∧ ¬ (fn.name == "runtime.NumGoroutine" || fn.body.isNone) = true ∧ f = f' ∧ args = cl.args.toList.map opd := by
                split at hc' <;> (try (repeat' split at hc') <;> cases hc')
                rename_i cl ho _ _ fn hnot hcal hfn
                exact ⟨cl, _, fn, ho, hcal, hfn, hnot, rfl, rfl⟩
              obtain ⟨cl, f', fn, ho, hcal, hfn, hnot, rfl, rfl⟩ := hrun
              have hargs := Vb (atw hw) hrd hp
              have hargs' : cl.args.map a.eval = (vs.map (S1.den ρ)).toArray := by rw [← hargs, ← Array.toList_map]
              have hx2 : (execOp a.eval o).run c.P w = .ok (.enter f (vs.map (S1.den ρ)).toArray) w := by
                simp only [Bool.or_eq_true, not_or, Bool.not_eq_true] at hnot
                unfold execOp
                simp only [ho, resolve, hcal, Act.eval, Deferred.ofValue, Sem.run_bind, Sem.run_pure, Result.andThen_ok, invoke, callFunc, program, Sem.run, hfn, hnot.1, hnot.2]
                simp [Sem.run_pure, hargs']
              unfold Oper.quietAt
              rw [hx2]
              exact ⟨rfl, (hcall ρ a w (atw hw)).mono fun e w'' ⟨he, hb⟩ => ⟨he, hw.trans (hb.mono hw.size)⟩⟩
            · exact hs.elim
          | pick cc x y =>
            have hc' := Ka hc rfl
            unfold Tb at hc'
            have hrun : ∃ cc' x' y', o.op = .pick cc' x' y' ∧ cc = opd cc' ∧ x = opd x' ∧ y = opd y' := by
              split at hc' <;> (try (repeat' split at hc') <;> cases hc')
              exact ⟨_, _, _, by assumption, rfl, rfl, rfl⟩
            obtain ⟨cc', x', y', ho, rfl, rfl, rfl⟩ := hrun
            simp only [stq] at hs
            split at hs
            · rename_i p g hrd
              obtain ⟨hp, hs1, hs2⟩ := hs
              obtain ⟨e1, _⟩ := Zb hh hrd hp
              have fin : ∀ (q : Prop) (v : S1) (z : Operand), S.rd (opd z) = some (q, v) → q → (if g = true then z = x' else z = y') → exq c il' (S.put o.dst (.one v)) K → o.quiet c.P a (fun w => Below w0.heap.size w0 w) (wpQuiet c.P ops (fun w => Below w0.heap.size w0 w) (fun a' => ∃ S' ρ', K S' ∧ S'.holds c ρ' a' w0) ol) := by
                intro q v z hrd2 hq hz hK
                obtain ⟨e2, hb⟩ := Zb hh hrd2 hq
                refine ⟨v.den ρ, fun w hw => ?_, ih _ _ _ hK (hh.put_same hd (v := .one v) hb)⟩
                have e1' : a.eval cc' = .bool g := e1
                unfold Oper.quietAt
                have : (execOp a.eval o).run c.P w = .ok (.value (v.den ρ)) w := by
                  unfold execOp
                  simp only [ho, e1', asBool, Sem.run_bind, Sem.run_pure, Result.andThen_ok]
                  cases g
                  · simp only [Bool.false_eq_true, if_false] at hz ⊢; rw [← hz, e2]
                  · simp only [if_true] at hz ⊢; rw [← hz, e2]
                rw [this]
                exact ⟨rfl, rfl⟩
              cases g
              · have := hs2 rfl
                split at this
                · rename_i q v hrd2; exact fin q v y' hrd2 this.1 (by simp) this.2
                · exact this.elim
              · have := hs1 rfl
                split at this
                · rename_i q v hrd2; exact fin q v x' hrd2 this.1 (by simp) this.2
                · exact this.elim
            · exact hs.elim
          | _ => exact hs.elim
        have ev_ok : ∀ {p : Prop} {v : SV}, ev S i = some (p, v) → p → ∀ w, Below w0.heap.size w0 w → o.quietAt c.P a (fun w => Below w0.heap.size w0 w) w (v.den ρ) := by
          intro p v hev hp w hw
          obtain ⟨g1, _⟩ := Wo (atw hw) hc hev hp
          unfold Oper.quietAt
          rw [g1]
          exact ⟨rfl, rfl⟩
        unfold wpQuiet
        cases g with
        | none =>
          simp only at hg
          have hw : Region.wanted o (yielded ops a.tmps) = true := by simp [Region.wanted, hg]
          rw [if_pos hw]
          unfold exq at hx
          split at hx
          · rename_i p v hev
            exact ⟨v.den ρ, ev_ok hev hx.1, ih _ _ _ hx.2 (hh.put_same hd (Wo hh hc hev hx.1).2)⟩
          · exact stq_ok hx
        | some g =>
          obtain ⟨t, want⟩ := g
          obtain ⟨hlow, j, hgd, hj⟩ := hg
          unfold exq at hx
          split at hx
          · exact hx.elim
          · rename_i b hgdc
            have hw := T1 hh hgd hj hlow hgdc
            split at hx
            · rename_i p v hev
              cases b with
              | true =>
                rw [if_pos hw]
                exact ⟨v.den ρ, ev_ok hev (hx.1 rfl), ih _ _ _ hx.2 (hh.put_same hd (v := .opt true v) fun _ => (Wo hh hc hev (hx.1 rfl)).2)⟩
              | false =>
                rw [if_neg (by rw [hw]; decide)]
                exact ih _ _ _ hx.2 (hh.put_same hd (v := .opt false v) fun h => by cases h)
            · have skip : ∀ v : SV, b = false → v.bd S.nx → v.den ρ = undef → exq c il' (S.put o.dst v) K → (if Region.wanted o (yielded ops a.tmps) = true then o.quiet c.P a (fun w => Below w0.heap.size w0 w) (wpQuiet c.P ops (fun w => Below w0.heap.size w0 w) (fun a' => ∃ S' ρ', K S' ∧ S'.holds c ρ' a' w0) ol) else wpQuiet c.P ops (fun w => Below w0.heap.size w0 w) (fun a' => ∃ S' ρ', K S' ∧ S'.holds c ρ' a' w0) ol (a.put o.dst undef)) := by
                intro v hb hvb hvd hK
                rw [if_neg (by rw [hw, hb]; decide)]
                have hp := hh.put_same hd hvb
                rw [hvd] at hp
                exact ih _ _ _ hK hp
              have plain : (b = true → stq c S o.dst i fun S' => exq c il' S' K) ∧ (b = false → exq c il' (S.put o.dst noV) K) → (if Region.wanted o (yielded ops a.tmps) = true then o.quiet c.P a (fun w => Below w0.heap.size w0 w) (wpQuiet c.P ops (fun w => Below w0.heap.size w0 w) (fun a' => ∃ S' ρ', K S' ∧ S'.holds c ρ' a' w0) ol) else wpQuiet c.P ops (fun w => Below w0.heap.size w0 w) (fun a' => ∃ S' ρ', K S' ∧ S'.holds c ρ' a' w0) ol (a.put o.dst undef)) := by
                intro hx
                cases b with
                | true => rw [if_pos hw]; exact stq_ok (hx.1 rfl)
                | false => exact skip noV rfl (Sn _) (Sq ρ) (hx.2 rfl)
              cases i with
              | call f args =>
                simp only [Hx] at hx
                split at hx
                · rename_i p vs hrd
                  obtain ⟨hp, v, h1, h2, hK⟩ := hx
                  cases b with
                  | true =>
                    rw [if_pos hw]
                    refine stq_ok ?_
                    simp only [stq, hrd]
                    exact ⟨hp rfl, v, (h1 rfl).1, (h1 rfl).2, hK⟩
                  | false => exact skip v rfl (h2 rfl).1 ((h2 rfl).2 ρ) hK
                · exact hx.elim
              | _ => exact plain hx
theorem T.dreg {c : Cx} {Q : Exit → St → Prop} {S : St} {l : List In} (hmix : c.P.follows .mixedOrders = true) (h : exq c l S (Q .normal)) : T c (.dreg l) Q S := by
  intro ρ a w hh code hc
  obtain ⟨id, ops, rfl, hB, hl⟩ := G2 hc
  have hh' : S.holds c ρ a { w with drawn := w.drawn + 1 } := hh.atw hh.mem.drew
  refine wp_region_quiet (C := fun w' => Below { w with drawn := w.drawn + 1 }.heap.size { w with drawn := w.drawn + 1 } w') hmix hB (Below.refl _ _) ?_
  have hq := Mx (w0 := { w with drawn := w.drawn + 1 }) ops.toList l hl (Q .normal) S ρ a h hh'
  have mono : ∀ (l : List Oper) (a : Act) {C : World → Prop} {K K' : Act → Prop}, (∀ a, K a → K' a) → wpQuiet c.P ops C K l a → wpQuiet c.P ops C K' l a := by
    intro l
    induction l with
    | nil => intro a C K K' hk h; exact hk _ h
    | cons o l ih =>
      intro a C K K' hk h
      unfold wpQuiet at h ⊢
      split
      · rename_i hw
        rw [if_pos hw] at h
        exact Oper.quiet_mono (fun a h => ih a hk h) h
      · rename_i hw
        rw [if_neg hw] at h
        exact ih _ hk h
  refine mono _ _ (fun a' h => ?_) hq
  obtain ⟨S', ρ', hK, hS'⟩ := h
  intro w' hw'
  exact ⟨S', ρ', hS'.below hw', hK⟩
def exh : List In → St → (St → Prop) → Prop
  | [], S, K => K S
  | ⟨none, d, i⟩ :: r, S, K => match ev S i with
    | some (p, v) => p ∧ exh r (S.put d v) K
    | none => False
  | ⟨some g, d, i⟩ :: r, S, K => match gdc S g with
    | none => False
    | some b => match ev S i with
      | some (p, .one v) => (b = true → p) ∧ exh r (S.put d (.opt b v)) K
      | _ => False
theorem Ge (S : St) (K : St → Prop) : exh [] S K = K S := rfl
theorem Ja (d : Option Nat) (i : I) (r : List In) (S : St) (K : St → Prop) : exh (⟨none, d, i⟩ :: r) S K = (match ev S i with
    | some (p, v) => p ∧ exh r (S.put d v) K
    | none => False) := rfl
theorem J6 (g : Nat × Bool) (d : Option Nat) (i : I) (r : List In) (S : St) (K : St → Prop) : exh (⟨some g, d, i⟩ :: r) S K = (match gdc S g with
    | none => False
    | some b => match ev S i with
      | some (p, .one v) => (b = true → p) ∧ exh r (S.put d (.opt b v)) K
      | _ => False) := rfl
theorem Lk {c : Cx} {ops : Array Oper} {ρ : Env} {w : World} : ∀ (ol : List Oper) (il : List In), ol.mapM (X4 c.P c.nt ops) = some il → ∀ (K : St → Prop) (S : St) (a : Act),
    exh il S K → S.holds c ρ a w → wpStill c.P ops w (fun a' => ∃ S', K S' ∧ S'.holds c ρ a' w) ol a
  | [], il, hm, K, S, a, hx, hh => by
    rw [List.mapM_nil] at hm
    cases hm
    exact ⟨S, hx, hh⟩
  | o :: ol, il, hm, K, S, a, hx, hh => by
    rw [List.mapM_cons] at hm
    cases h1 : X4 c.P c.nt ops o with
    | none => simp [h1] at hm
    | some x =>
      cases h2 : ol.mapM (X4 c.P c.nt ops) with
      | none => simp [h1, h2] at hm
      | some il' =>
        simp [h1, h2] at hm
        subst hm
        obtain ⟨hc, hdst, hd, hg⟩ := Ue h1
        obtain ⟨g, d, i⟩ := x
        simp only at hc hdst hg
        subst hdst
        have ih : ∀ S' a', exh il' S' K → S'.holds c ρ a' w → wpStill c.P ops w (fun a' => ∃ S', K S' ∧ S'.holds c ρ a' w) ol a' := fun S' a' h1 h3 => Lk ol il' h2 K S' a' h1 h3
        unfold wpStill
        have run : ∀ {p : Prop} {v : SV}, ev S i = some (p, v) → p → ∀ {next : Act → Prop}, next (a.put o.dst (v.den ρ)) → o.still c.P a w next := by
          intro p v hev hp next hn
          obtain ⟨g1, _⟩ := Wo hh hc hev hp
          unfold Oper.still
          rw [g1]
          exact ⟨rfl, hn⟩
        cases g with
        | none =>
          simp only at hg
          have hw : Region.wanted o (yielded ops a.tmps) = true := by simp [Region.wanted, hg]
          rw [if_pos hw]
          unfold exh at hx
          split at hx
          · rename_i p v hev
            exact run hev hx.1 (ih _ _ hx.2 (hh.put_same hd (Wo hh hc hev hx.1).2))
          · exact hx.elim
        | some g =>
          obtain ⟨t, want⟩ := g
          obtain ⟨hlow, j, hgd, hj⟩ := hg
          unfold exh at hx
          split at hx
          · exact hx.elim
          · rename_i b hgdc
            have hw := T1 hh hgd hj hlow hgdc
            split at hx
            · rename_i p v hev
              cases b with
              | true =>
                rw [if_pos hw]
                exact run hev (hx.1 rfl) (ih _ _ hx.2 (hh.put_same hd (v := .opt true v) fun _ => (Wo hh hc hev (hx.1 rfl)).2))
              | false =>
                rw [if_neg (by rw [hw]; decide)]
                exact ih _ _ hx.2 (hh.put_same hd (v := .opt false v) fun h => by cases h)
            · exact hx.elim
theorem My {α β : Type} {f : α → Option β} : ∀ {l : List α} {m : List β}, l.mapM f = some m → ∀ n, (l.take n).mapM f = some (m.take n) ∧ (l.drop n).mapM f = some (m.drop n)
  | [], m, h, n => by
    rw [List.mapM_nil] at h; cases h
    simp
  | x :: l, m, h, n => by
    rw [List.mapM_cons] at h
    cases h1 : f x with
    | none => simp [h1] at h
    | some y =>
      cases h2 : l.mapM f with
      | none => simp [h1, h2] at h
      | some m' =>
        simp [h1, h2] at h
        subst h
        cases n with
        | zero => simp [List.mapM_cons, h1, h2]
        | succ n =>
          obtain ⟨g1, g2⟩ := My h2 n
          refine ⟨?_, by simpa using g2⟩
          simp [List.take_succ_cons, List.mapM_cons, h1, g1]
theorem T.dregt {c : Cx} {Q : Exit → St → Prop} {S : St} {hd tl : List In} (hmix : c.P.follows .mixedOrders = true) (h : exh hd S fun S' => ex c tl S' (Q .normal)) : T c (.dregt hd tl) Q S := by
  intro ρ a w hh code hc
  obtain ⟨id, ops, n, l, rfl, hB, hl, rfl, rfl⟩ := Iv hc
  obtain ⟨h1, h2⟩ := My hl n
  have e : ops = ops.toList.toArray := by simp
  have hh' : S.holds c ρ a { w with drawn := w.drawn + 1 } := hh.atw hh.mem.drew
  have key := Lk _ _ h1 _ S a h hh'
  rw [e] at hB key ⊢
  refine wp_region_still_tail n hmix hB ?_
  have mono : ∀ (l : List Oper) (a : Act) {K K' : Act → Prop}, (∀ a, K a → K' a) → wpStill c.P ops.toList.toArray { w with drawn := w.drawn + 1 } K l a → wpStill c.P ops.toList.toArray { w with drawn := w.drawn + 1 } K' l a := by
    intro l
    induction l with
    | nil => intro a K K' hk h; exact hk _ h
    | cons o l ih =>
      intro a K K' hk h
      unfold wpStill at h ⊢
      split
      · rename_i hw
        rw [if_pos hw] at h
        exact Oper.still_mono (fun a h => ih a hk h) h
      · rename_i hw
        rw [if_neg hw] at h
        exact ih _ hk h
  refine mono _ _ (fun a' hq => ?_) key
  obtain ⟨S', hK, hS'⟩ := hq
  rw [e] at h2
  exact Np _ _ h2 (Q .normal) S' ρ a' _ (fun S2 ρ2 a2 w2 _ hQ hS2 => ⟨S2, ρ2, hS2, hQ⟩) hK hS'
theorem T.dregts {c : Cx} {Q : Exit → St → Prop} {S : St} {hd tl : List In} {y : IC} (hmix : c.P.follows .mixedOrders = true) (h : exh hd S fun S' => ex c tl S' (T c y Q)) : T c (.seq (.dregt hd tl) y) Q S := T.seq (T.dregt hmix h)
theorem T.dany {c : Cx} {Q : Exit → St → Prop} {S : St} {t : DT} (hmix : c.P.follows .mixedOrders = true) (h : exD c S.res t S (Q .normal)) : T c (.dany t) Q S := by
  intro ρ a w hh code hc
  obtain ⟨id, ops, it, rfl, hns, hok, hdep, hf⟩ := G5 hc
  refine wp_region_noPanic ?_
  refine wp_region_any hmix ?_
  have hh' : S.holds c ρ a { w with drawn := w.drawn + 1 } := hh.atw hh.mem.drew
  have := Fk (Q := NoPanic (lift c Q)) hh'.mem hns (fun p a w h => h) (K := Q .normal) (fun S' ρ' a' w' hQ hS => ⟨S', ρ', hS, hQ⟩) it t (Array.replicate ops.size false) none S ρ a { w with drawn := w.drawn + 1 } ops.size hf hok (fun _ _ => rfl) (Nat.le_refl _) hh' h hdep
  exact Nu _ _ _ _ this
theorem T.danys {c : Cx} {Q : Exit → St → Prop} {S : St} {t : DT} {y : IC} (hmix : c.P.follows .mixedOrders = true) (h : exD c S.res t S (T c y Q)) : T c (.seq (.dany t) y) Q S := T.seq (T.dany hmix h)
theorem T.dregs {c : Cx} {Q : Exit → St → Prop} {S : St} {l : List In} {y : IC} (hmix : c.P.follows .mixedOrders = true) (h : exq c l S (T c y Q)) : T c (.seq (.dreg l) y) Q S := T.seq (T.dreg hmix h)
theorem Z2.plain {c : Cx} {f : Nat} {args : List S1} {S : St} {K : SV → Prop} (r : SV) (h : ∀ w, Calls c.P f (args.map (S1.den fun _ => Xe)).toArray w fun e w' => e = .returned (r.den fun _ => Xe) ∧ Below w.heap.size w w')
    (hb : ∀ v ∈ args, v.bd 0) (hr : r.bd 0) (hK : K r) : Z2 c f args S K := by
  refine ⟨r, SV.bd_mono (Nat.zero_le _) hr, fun ρ a w hh => ?_, hK⟩
  rw [S0 hb]
  refine (h w).mono fun e w' ⟨he, hbl⟩ => ⟨?_, hbl⟩
  rw [he, SV.den_same (nx := 0) (ρ := fun _ => Xe) (ρ' := ρ) (fun n hn => by omega) hr]
def Xm : Env := fun _ => Xe
def Tm (w : World) (v : Value) (k : Kd) (l : List k.ty) : Prop :=
  ∃ a cap, (v = .slice a l.length cap ∧ l.length ≤ cap) ∧ (a = none → l = []) ∧ ∀ ad : Addr, a = some ad → (l ≠ [] → ad.spot = none) ∧ ∀ (i : Nat) (x : k.ty), l[i]? = some x → ∀ (j : Nat) (u : At), (k.enc x)[j]? = some u → w.cell? ⟨ad.block, ad.off + (i * k.sz + j), none⟩ = some (u.den Xm)
def Rf (base : Nat) (w : World) (v : Value) (E : Nat) (k : Kd) (l : List k.ty) : Prop := w.ownsRow base E k.sz v l.length ((l.flatMap k.enc).map (At.den Xm))
theorem Tm.one {w : World} {v : Value} {k : Kd} {l : List k.ty} (h : Tm w v k l) : v.oneCell' = true := by obtain ⟨a, cap, ⟨rfl, _⟩, _⟩ := h; rfl
theorem Rf.one {base : Nat} {w : World} {v : Value} {E : Nat} {k : Kd} {l : List k.ty} (h : Rf base w v E k l) : v.oneCell' = true := by
  rcases h.2 with ⟨rfl, _⟩ | ⟨g, cp, cur, rfl, _⟩ <;> rfl
theorem Tm.below {w w' : World} {v : Value} {k : Kd} {l : List k.ty} (h : Tm w v k l) (hb : Below w.heap.size w w') : Tm w' v k l := by
  obtain ⟨a, cap, h1, h2, h3⟩ := h
  refine ⟨a, cap, h1, h2, fun ad had => ⟨(h3 ad had).1, fun i x hx j u hu => ?_⟩⟩
  have := (h3 ad had).2 i x hx j u hu
  rw [hb.cell (Xs this)]; exact this
theorem Res.ro_at {ρ : Env} {O : List Nat} {n : Nat} {w : World} {k : Kd} {l : List k.ty} (h : (Res.ro k l).holds ρ O n w) : Tm w (ρ n) k l := by
  obtain ⟨a, cap, h1, h2, h3⟩ := h
  refine ⟨a, cap, h1, h2, fun ad had => ⟨(h3 ad had).1, fun i x hx j u hu => ?_⟩⟩
  rw [k.enc_at x ρ Xm hu]
  exact ((h3 ad had).2 i x hx j u hu).1
theorem V8 {base : Nat} {w : World} {v : Value} {E : Nat} {k : Kd} {l : List k.ty} (h : w.ownsRow base E k.sz v l.length ((l.flatMap k.enc).map (At.den Xm))) : Tm w v k l := by
  rcases h.2 with ⟨hv, hn⟩ | ⟨g, cap, cur, hv, _, hh, hn, hcap, hcur, htake⟩
  · have : l = [] := List.eq_nil_of_length_eq_zero hn
    subst this
    exact ⟨none, 0, ⟨hv, Nat.le_refl _⟩, fun _ => rfl, fun ad had => by cases had⟩
  · refine ⟨some ⟨g, 0, none⟩, cap, ⟨hv, hn⟩, (fun h => by cases h), fun ad had => ?_⟩
    cases had
    refine ⟨fun _ => rfl, fun i x hx j u hu => ?_⟩
    have hj : j < k.sz := by rw [← k.enc_length x]; exact (List.getElem?_eq_some_iff.1 hu).1
    have hc : ((l.flatMap k.enc).map (At.den Xm))[i * k.sz + j]? = some (u.den Xm) := by rw [List.getElem?_map, k.encs_get l i j x hx hj, hu]; rfl
    rw [cell_of_row w g _ cur E (0, 0) hh, Nat.zero_add]
    rw [← htake, List.getElem?_take] at hc
    split at hc
    · simpa using hc
    · cases hc
theorem Rf.ro {base : Nat} {w : World} {v : Value} {E : Nat} {k : Kd} {l : List k.ty} (h : Rf base w v E k l) : Tm w v k l := V8 h
theorem Res.row_own {ρ : Env} {O : List Nat} {n E : Nat} {w : World} {k : Kd} {l : List k.ty} (h : (Res.row E k l).holds ρ O n w) : w.ownsRow 0 E k.sz (ρ n) l.length ((l.flatMap k.enc).map (At.den Xm)) := by
  simp only [Res.holds] at h; rw [k.encs_den l ρ Xm]; exact h
theorem Res.lit_ro {ρ : Env} {O : List Nat} {n E z e : Nat} {w : World} {k : Kd} {xs : List k.ty} {l : List At} (h : (Res.lit E z e l).holds ρ O n w) (hl : xs.flatMap k.enc = l) (he : xs.length = e) : Tm w (ρ n) k xs := by
  obtain ⟨b, hv, hlen, hb⟩ := h
  subst hl
  refine ⟨some ⟨b, 0, none⟩, e, ⟨by rw [hv, he], Nat.le_of_eq he⟩, (fun h => by cases h), fun ad had => ?_⟩
  cases had
  refine ⟨fun _ => rfl, fun i x hx j u hu => ?_⟩
  have hj : j < k.sz := by rw [← k.enc_length x]; exact (List.getElem?_eq_some_iff.1 hu).1
  rw [cell_of_row w b _ _ E (0, 0) hb, Nat.zero_add, k.enc_at x ρ Xm hu]
  simp [k.encs_get xs i j x hx hj, hu]
theorem Mem.ro {c : Cx} {ρ : Env} {R : List (Nat × Res)} {nx m : Nat} {w : World} (h : Mem c ρ R nx w) {k : Kd} {l : List k.ty} (hm : (m, Res.ro k l) ∈ R ∨ ∃ E, (m, Res.row E k l) ∈ R) : Tm w (ρ m) k l := by
  rcases hm with hm | ⟨E, hm⟩
  · exact Res.ro_at (h.res _ _ hm)
  · exact V8 (Res.row_own (h.res _ _ hm))
theorem Mem.addRo {c : Cx} {ρ : Env} {R : List (Nat × Res)} {nx : Nat} {w : World} (h : Mem c ρ R nx w) {v : Value} {k : Kd} {l : List k.ty} (hv : Tm w v k l) (hno : ∀ a n cp, v = .slice (some a) n cp → l ≠ [] → a.block ∉ Zn ρ R) :
    Mem c (Yg ρ nx v) ((nx, .ro k l) :: R) (nx + 1) w := by
  have := Mem.step (ρ' := Yg ρ nx v) (nx' := nx + 1) (w' := w) (ds := []) (m := nx) (r := .ro k l) (D := []) h
    (Ze ρ nx _) (by omega) (Xc h.one hv.one) rfl rfl rfl (Nat.le_refl _) (fun b o hb _ => hb) (by simp) (by omega) (.inr (Nat.le_refl _)) trivial
    (fun b hb => by cases hb)
    (fun O' hO _ => by
      obtain ⟨a, cap, h1, h2, h3⟩ := hv
      refine ⟨a, cap, by rw [Zj]; exact h1, h2, fun ad had => ⟨(h3 ad had).1, fun i x hx j u hu => ⟨?_, fun hm => ?_⟩⟩⟩
      · rw [k.enc_at x Xm _ hu]; exact (h3 ad had).2 i x hx j u hu
      · rcases hO _ hm with h4 | h4
        · rw [Xv] at h4
          exact hno ad _ _ (by rw [h1.1, had]) (fun e => by rw [e] at hx; cases hx) h4
        · cases h4)
  rwa [Xv] at this
theorem Mem.addRow {c : Cx} {ρ : Env} {R : List (Nat × Res)} {nx : Nat} {w w' : World} (h : Mem c ρ R nx w) (hb : Below w.heap.size w w') {v : Value} {E : Nat} {k : Kd} {l : List k.ty} (hv : Rf w.heap.size w' v E k l) :
    Mem c (Yg ρ nx v) ((nx, .row E k l) :: R) (nx + 1) w' := by
  have := Mem.step (ρ' := Yg ρ nx v) (nx' := nx + 1) (w' := w') (ds := []) (m := nx) (r := .row E k l) (D := []) h
    (Ze ρ nx _) (by omega) (Xc h.one hv.one) hb.os hb.tape hb.output hb.size (fun b o ho _ => by rw [hb.block b (Array.getElem?_eq_some_iff.1 ho).1]; exact ho) (by simp) (by omega) (.inr (Nat.le_refl _)) trivial
    (fun b hbk => by
      simp only [Res.block, Zj] at hbk
      have := World.ownsRow.lt hv b hbk
      exact ⟨this.2, .inl this.1⟩)
    (fun O' hO _ => by
      simp only [Res.holds, Zj]
      rw [k.encs_den l Xm]
      obtain ⟨h1, h2⟩ := hv
      refine ⟨h1, ?_⟩
      rcases h2 with h2 | ⟨g, cap, cur, h3, _, h4⟩
      · exact .inl h2
      · exact .inr ⟨g, cap, cur, h3, Nat.zero_le _, h4⟩)
  rwa [Xv] at this
inductive Arg where
  | v (x : S1)
  | ro (x : Value) (k : Kd) (l : List k.ty)
def Arg.val : Arg → Value
  | .v x => x.den Xm
  | .ro x _ _ => x
def Qy : Nat → Nat → List Arg → List (Nat × SV)
  | _, _, [] => []
  | i, n, .v x :: l => (i, .one x) :: Qy (i + 1) n l
  | i, n, .ro _ _ _ :: l => (i, .one (.a (.ref n))) :: Qy (i + 1) (n + 1) l
def Tj : Nat → List Arg → List (Nat × Res)
  | _, [] => []
  | n, .v _ :: l => Tj n l
  | n, .ro _ k xs :: l => (n, .ro k xs) :: Tj (n + 1) l
def Rz : Nat → List Arg → Nat
  | n, [] => n
  | n, .v _ :: l => Rz n l
  | n, .ro _ _ _ :: l => Rz (n + 1) l
def Rw : Nat → List Arg → Env → Env
  | _, [], ρ => ρ
  | n, .v _ :: l, ρ => Rw n l ρ
  | n, .ro x _ _ :: l, ρ => Rw (n + 1) l (Yg ρ n x)
def Lc (w : World) : List Arg → Prop
  | [] => True
  | .v x :: l => x.bd 0 ∧ Lc w l
  | .ro x k xs :: l => Tm w x k xs ∧ Lc w l
theorem Pn : ∀ (l : List Arg) (n : Nat) (ρ : Env), Tx n ρ (Rw n l ρ)
  | [], n, ρ => fun _ _ => rfl
  | .v x :: l, n, ρ => Pn l n ρ
  | .ro x k xs :: l, n, ρ => fun m hm => by
    simp only [Rw]
    rw [Pn l (n + 1) _ m (by omega), Ze ρ n x m hm]
theorem Lx : ∀ (l : List Arg) (n : Nat), n ≤ Rz n l
  | [], n => Nat.le_refl _
  | .v x :: l, n => Lx l n
  | .ro x k xs :: l, n => Nat.le_trans (Nat.le_succ n) (Lx l (n + 1))
theorem Hl {P : Program} {w : World} {nt : Nat} {X : List Nat} {fr : List Value} : ∀ (l : List Arg) (n : Nat) (ρ : Env) (R : List (Nat × Res)), Zn ρ R = [] → Mem ⟨P, w, X, nt, fr⟩ ρ R n w → Lc w l → ∃ R', Mem ⟨P, w, X, nt, fr⟩ (Rw n l ρ) R' (Rz n l) w ∧ (∀ p, p ∈ R' ↔ p ∈ Tj n l ∨ p ∈ R) ∧ Zn (Rw n l ρ) R' = []
  | [], n, ρ, R, ho, hm, hok => ⟨R, hm, fun p => by simp [Tj], ho⟩
  | .v x :: l, n, ρ, R, ho, hm, hok => Hl l n ρ R ho hm hok.2
  | .ro x k xs :: l, n, ρ, R, ho, hm, hok => by
    have h1 := hm.addRo hok.1 (fun _ _ _ _ _ h => by rw [ho] at h; cases h)
    have ho' : Zn (Yg ρ n x) ((n, .ro k xs) :: R) = [] := by
      have : Zn (Yg ρ n x) ((n, .ro k xs) :: R) = Zn (Yg ρ n x) R := rfl
      rw [this, Tg (Ze ρ n x) fun m r hr => (hm.bdr m r hr).1, ho]
    obtain ⟨R', g1, g2, g3⟩ := Hl l (n + 1) (Yg ρ n x) ((n, .ro k xs) :: R) ho' h1 hok.2
    refine ⟨R', g1, fun p => ?_, g3⟩
    rw [g2]
    simp only [Tj, List.mem_cons]
    constructor
    · rintro (h | h | h)
      · exact .inl (.inr h)
      · exact .inl (.inl h)
      · exact .inr h
    · rintro ((h | h) | h)
      · exact .inr (.inl h)
      · exact .inl h
      · exact .inr (.inr h)
theorem Nr {w : World} : ∀ (l : List Arg) (i n : Nat) (ρ : Env) (t : Nat) (v : SV), Lc w l → Z1 (Qy i n l) t = some v → ∃ j, t = i + j ∧ (l.map Arg.val)[j]? = some (v.den (Rw n l ρ)) ∧ v.bd (Rz n l)
  | .v x :: l, i, n, ρ, t, v, hok, h => by
    rcases look_cons h with ⟨rfl, rfl⟩ | ⟨_, h⟩
    · refine ⟨0, rfl, ?_, S1.bd_mono (Nat.zero_le _) hok.1⟩
      show some (x.den Xm) = some (x.den (Rw n l ρ))
      exact congrArg some (S1.den_same (nx := 0) (ρ := Xm) (ρ' := Rw n l ρ) (fun n hn => by omega) hok.1).symm
    · obtain ⟨j, h1, h2, h3⟩ := Nr l (i + 1) n ρ t v hok.2 h
      exact ⟨j + 1, by omega, h2, h3⟩
  | .ro x k xs :: l, i, n, ρ, t, v, hok, h => by
    rcases look_cons h with ⟨rfl, rfl⟩ | ⟨_, h⟩
    · refine ⟨0, rfl, ?_, Lx l (n + 1)⟩
      simp only [List.map_cons, List.getElem?_cons_zero, Arg.val, SV.den, S1.den, At.den, Rw]
      rw [Pn l (n + 1) _ n (Nat.lt_succ_self _), Zj]
    · obtain ⟨j, h1, h2, h3⟩ := Nr l (i + 1) (n + 1) (Yg ρ n x) t v hok.2 h
      exact ⟨j + 1, by omega, h2, h3⟩
theorem Body.args {P : Program} {f nt : Nat} {x : IC} {rl : List RV} (hF : Body P f nt x rl) {w : World} {l : List Arg} {R : SV → St → Prop} {Post : Ending → World → Prop}
    (hlen : l.length ≤ nt) (hok : Lc w l) (hT : T ⟨P, w, [], nt, []⟩ x (Sz ⟨P, w, [], nt, []⟩ rl R) ⟨Qy 0 0 l, Tj 0 l, Rz 0 l⟩)
    (hpost : ∀ v S' ρ' w', R v S' → v.bd S'.nx → Mem ⟨P, w, [], nt, []⟩ ρ' S'.res S'.nx w' → Post (.returned (v.den ρ')) w') : Calls P f (l.map Arg.val).toArray w Post := by
  obtain ⟨R', g1, g2, g3⟩ := Hl (P := P) (w := w) (nt := nt) (X := []) (fr := []) l 0 Xm [] rfl (Mem.none P w [] nt 0 []) hok
  have hnd : ∀ (l : List Arg) (n : Nat), ((Tj n l).map Prod.fst).Nodup ∧ ∀ p ∈ Tj n l, n ≤ p.1 := by
    intro l
    induction l with
    | nil => intro n; exact ⟨List.nodup_nil, fun p hp => nomatch hp⟩
    | cons a l ih =>
      intro n
      cases a with
      | v x => exact ih n
      | ro x k xs =>
        refine ⟨?_, fun p hp => ?_⟩
        · simp only [Tj, List.map_cons, List.nodup_cons]
          refine ⟨fun hm => ?_, (ih (n + 1)).1⟩
          obtain ⟨p, hp, he⟩ := List.mem_map.1 hm
          have := (ih (n + 1)).2 p hp
          omega
        · rcases List.mem_cons.1 hp with e | hp
          · rw [e]; exact Nat.le_refl _
          · have := (ih (n + 1)).2 p hp; omega
  have hm : Mem ⟨P, w, [], nt, []⟩ (Rw 0 l Xm) (Tj 0 l) (Rz 0 l) w := by
    have hsub : ∀ p, p ∈ Tj 0 l → p ∈ R' := fun p hp => (g2 p).2 (.inl hp)
    have hown : Zn (Rw 0 l Xm) (Tj 0 l) = [] := by
      cases ho : Zn (Rw 0 l Xm) (Tj 0 l) with
      | nil => rfl
      | cons b bs =>
        have : b ∈ Zn (Rw 0 l Xm) (Tj 0 l) := by rw [ho]; simp
        obtain ⟨p, hp, hpb⟩ := List.mem_filterMap.1 this
        have h2 : b ∈ Zn (Rw 0 l Xm) R' := List.mem_filterMap.2 ⟨p, hsub p hp, hpb⟩
        rw [g3] at h2; cases h2
    refine ⟨g1.os, g1.tape, g1.output, g1.size, g1.block, g1.one, (hnd l 0).1, fun n r hr => ?_, fun n r hr => g1.bdr n r (hsub _ hr), by rw [hown]; exact List.nodup_nil, fun b hb => by rw [hown] at hb; cases hb⟩
    rw [hown, ← g3]
    exact g1.res n r (hsub _ hr)
  refine hF.calls (S := ⟨Qy 0 0 l, Tj 0 l, Rz 0 l⟩) (ρ := Rw 0 l Xm) (by simpa using hlen) (fun t v hv => ?_) hm hT hpost
  obtain ⟨j, h1, h2, h3⟩ := Nr l 0 0 Xm t v hok hv
  simp only [Nat.zero_add] at h1
  subst h1
  have hjl : t < BIG := by
    have := (List.getElem?_eq_some_iff.1 h2).1
    have h4 := hF.lown
    simp only [List.length_map] at this
    omega
  exact ⟨by rw [if_pos hjl]; simpa using h2, h3⟩
theorem Mem.ownAt {P : Program} {w0 w : World} {nt : Nat} {ρ : Env} {R : List (Nat × Res)} {nx : Nat} (h : Mem ⟨P, w0, [], nt, []⟩ ρ R nx w) {m E : Nat} {k : Kd} {l : List k.ty} (hm : (m, Res.row E k l) ∈ R) : Rf w0.heap.size w (ρ m) E k l := by
  have hr := Res.row_own (h.res _ _ hm)
  obtain ⟨h1, h2⟩ := hr
  refine ⟨h1, ?_⟩
  rcases h2 with h2 | ⟨g, cap, cur, hv, _, hrest⟩
  · exact .inl h2
  · refine .inr ⟨g, cap, cur, hv, ?_, hrest⟩
    have := (h.lt g (List.mem_filterMap.2 ⟨_, hm, by simp [Res.block, hv, Value.ownBlock]⟩)).2
    simpa using this
end Vc
end Go.Proofs.YtjochhncheheaaaGreatDoor
