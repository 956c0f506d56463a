/- Regions that draw their order: reads are taken first, the rest is branched over. -/
import Derived.Test.YtjochhncheheaaaGreatDoorVcT
import Derived.OrdersHeld
import Derived.Deep.RegionHeld3
namespace Go.Proofs.YtjochhncheheaaaGreatDoor
namespace Vc
open Go.RowKit
set_option linter.unusedVariables false
set_option linter.unusedSimpArgs false
section
variable {P : Program} {ops : Array Oper} {Q : Exit → Act → World → Prop} {md : Region.Mode}
def S9 (P : Program) (md : Region.Mode) (ops : Array Oper) (Q : Exit → Act → World → Prop) (S : Nat → World → Prop) : Nat → Array Bool → Act → World → Prop
  | 0, listed, a, w => Region.ready md ops listed = [] ∧ Q .normal a w
  | fuel + 1, listed, a, w =>
    (Region.ready md ops listed = [] → Q .normal a w) ∧
    ∀ i ∈ Region.ready md ops listed, wpOp P ops Q i (fun a' w' => S i w' ∧ S9 P md ops Q S fuel (listed.setIfInBounds i true) a' w') a w
theorem Nu {S : Nat → World → Prop} : ∀ (fuel : Nat) (listed : Array Bool) (a : Act) (w : World), S9 P md ops Q S fuel listed a w → wpAny P md ops Q fuel listed a w
  | 0, _, _, _, h => h
  | fuel + 1, _, _, _, h => ⟨h.1, fun i hi => wpOp_mono (fun a' w' h' => Nu fuel _ a' w' h'.2) (h.2 i hi)⟩
theorem L9 {S : Nat → World → Prop} {C : World → Prop} {i : Nat} {oi : Oper} {v : Value} {D : List Nat} (hi : ops[i]? = some oi) (hsel : ∀ (j : Nat) (o : Oper) cs b, ops[j]? = some o → o.op ≠ .select cs b)
    (hQ : ∀ c a w, Q (.panic c) (a.put oi.dst v) w → Q (.panic c) a w) (hSi : ∀ w, C w → S i w) :
    ∀ (fuel : Nat) (listed : Array Bool) (a : Act) (w : World),
      (∀ j oj, ops[j]? = some oj → j ≠ i → listed.getD j true = false → (∀ e ∈ oj.after, Region.binds md e = true → e.on ≠ i) → oi.apart ops oj = true) →
      (∀ j oj, ops[j]? = some oj → j ≠ i → listed.getD j true = false → j ∉ D → ∀ w, S j w → C w) →
      (∀ d ∈ D, listed.getD d true = false ∧ ∃ od, ops[d]? = some od ∧ ∃ e ∈ od.after, Region.binds md e = true ∧ (e.on = i ∨ e.on ∈ D)) →
      i ∈ Region.ready md ops listed → YieldsIf P ops C oi v a → C w →
      S9 P md ops Q S fuel (listed.setIfInBounds i true) (a.put oi.dst v) w → S9 P md ops Q S (fuel + 1) listed a w := by
  intro fuel
  induction fuel with
  | zero =>
    intro listed a w _ _ _ hr hy hC H
    refine ⟨fun h => (by rw [h] at hr; cases hr), fun j hj => ?_⟩
    by_cases hji : j = i
    · subst hji; exact hy.wpOp hi hC ⟨hSi w hC, H⟩
    · have := ready_mono hj hji
      rw [H.1] at this
      cases this
  | succ fuel ih =>
    intro listed a w hfree hCS hD hr hy hC H
    refine ⟨fun h => (by rw [h] at hr; cases hr), fun j hj => ?_⟩
    by_cases hji : j = i
    · subst hji; exact hy.wpOp hi hC ⟨hSi w hC, H⟩
    · have h1 := H.2 j (ready_mono hj hji)
      obtain ⟨hjun, oj, hoj, hall⟩ := mem_ready.1 hj
      have hiun := (mem_ready.1 hr).1
      have notl : ∀ n, listed.getD n true = false → listed.getD n false = true → False := fun n h0 h1 => by
        rcases Nat.lt_or_ge n listed.size with h' | h'
        · simp [h'] at h0 h1; rw [h0] at h1; cases h1
        · simp [Array.getElem?_eq_none h'] at h1
      have hjD : j ∉ D := fun hjD => by
        obtain ⟨_, od, h2, e, h3, h4, h5⟩ := hD j hjD
        rw [hoj] at h2; cases h2
        have h6 := hall e h3 h4
        rcases h5 with h5 | h5
        · rw [h5] at h6; exact notl i hiun h6
        · exact notl _ (hD _ h5).1 h6
      have hnot : ∀ e ∈ oj.after, Region.binds md e = true → e.on ≠ i := fun e he hb heq => by
        have h1 := hall e he hb
        rw [heq] at h1
        exact notl i hiun h1
      have h2 := wpOp_putIf hoj (hfree j oj hoj hji hjun hnot) (fun cs b => hsel i oi cs b hi) (fun cs b => hsel j oj cs b hoj) hQ hy h1
      have hset : ∀ k, (listed.setIfInBounds j true).getD k true = false → listed.getD k true = false := fun k hun => by
        by_cases hjk : j = k
        · subst hjk; exact hjun
        · rw [getD_set_ne true hjk] at hun; exact hun
      refine wpOp_mono (fun a' w' h3 => ⟨h3.2.1, ih (listed.setIfInBounds j true) a' w' (fun k ok hk hki hun hno => hfree k ok hk hki (hset k hun) hno) (fun k ok hk hki hun hkD => hCS k ok hk hki (hset k hun) hkD) (fun d hd => ?_) (ready_mono hr (Ne.symm hji)) h3.1 (hCS j oj hoj hji hjun hjD _ h3.2.1) ?_⟩) h2
      · have hdj : j ≠ d := fun e => hjD (e ▸ hd)
        exact ⟨by rw [getD_set_ne true hdj]; exact (hD d hd).1, (hD d hd).2⟩
      · rw [Array.setIfInBounds_comm _ _ hji]
        exact h3.2.2
theorem Jt {S : Nat → World → Prop} {listed : Array Bool} {a : Act} {w : World} (hr : Region.ready md ops listed = []) (h : Q .normal a w) : ∀ fuel, S9 P md ops Q S fuel listed a w
  | 0 => ⟨hr, h⟩
  | _ + 1 => ⟨fun _ => h, by rw [hr]; simp⟩
end
inductive IT where
  | done
  | stop
  | take (i : Nat) (m : Bool) (D V : List Nat) (r : IT)
  | alt (i : Nat) (r rest : IT)
inductive DT where
  | done
  | stop
  | take (x : In) (m : Bool) (r : DT)
  | alt (x : In) (keep : Bool) (r rest : DT)
def IT.uses : IT → List Nat
  | .done => []
  | .stop => []
  | .take _ m _ V r => bif m then V ++ r.uses else r.uses
  | .alt _ r rest => r.uses ++ rest.uses
def IT.depth : IT → Nat
  | .done => 0
  | .stop => 0
  | .take _ _ _ _ r => r.depth + 1
  | .alt _ r rest => max (r.depth + 1) rest.depth
def okD (ops : Array Oper) (listed : Array Bool) (i : Nat) (D : List Nat) : Bool :=
  D.all fun d => !listed.getD d true && (match ops[d]? with
    | some od => od.after.any fun e => Region.binds .any e && (e.on == i || D.contains e.on)
    | none => false)
def okI (ops : Array Oper) (U : List Nat) : IT → Array Bool → Option (List Nat) → Bool
  | .done, listed, none => (Region.ready .any ops listed).isEmpty
  | .stop, _, some [] => true
  | .take i m D V r, listed, none => (Region.ready .any ops listed).contains i && (Region.free .any ops listed i && (okD ops listed i D && (((List.range ops.size).all fun j => j == i || listed.getD j true || D.contains j || V.contains j) &&
      ((!m || V.all fun j => U.contains j) && ((m || !U.contains i) && okI ops U r (listed.setIfInBounds i true) none)))))
  | .alt i r rest, listed, none => match Region.ready .any ops listed with
    | i0 :: l => i0 == i && (okI ops U r (listed.setIfInBounds i true) none && okI ops U rest listed (some l))
    | [] => false
  | .alt i r rest, listed, some (i0 :: l) => i0 == i && (okI ops U r (listed.setIfInBounds i true) none && okI ops U rest listed (some l))
  | _, _, _ => false
def Of (P : Program) (nt : Nat) (ops : Array Oper) (U : List Nat) : IT → Option DT
  | .done => some .done
  | .stop => some .stop
  | .take i m _ _ r => match (ops[i]?).bind (X4 P nt ops), Of P nt ops U r with
    | some x, some t => some (.take x m t)
    | _, _ => none
  | .alt i r rest => match (ops[i]?).bind (X4 P nt ops), Of P nt ops U r, Of P nt ops U rest with
    | some x, some t, some t2 => some (.alt x (U.contains i) t t2)
    | _, _, _ => none
def Qq (S : St) : List (Nat × Res) → Prop
  | [] => True
  | (n, r) :: l => S.find n = some r ∧ Qq S l
theorem Q7 {S : St} : ∀ {l : List (Nat × Res)}, Qq S l → ∀ p ∈ l, p ∈ S.res
  | (n, r) :: l, h, p, hp => by
    rcases List.mem_cons.1 hp with rfl | hp
    · exact Zd h.1
    · exact Q7 h.2 p hp
def exD (c : Cx) (R0 : List (Nat × Res)) : DT → St → (St → Prop) → Prop
  | .done, S, K => K S
  | .stop, _, _ => True
  | .take ⟨none, d, i⟩ m r, S, K => (m = true → Qq S R0) ∧ match ev ⟨S.slots, bif m then R0 else [], S.nx⟩ i with
    | some (p, v) => p ∧ exD c R0 r (S.put d v) K
    | none => False
  | .take ⟨some g, d, i⟩ m r, S, K => (m = true → Qq S R0) ∧ match gdc S g with
    | none => False
    | some b => match ev ⟨S.slots, bif m then R0 else [], S.nx⟩ i with
      | some (p, .one v) => (b = true → p) ∧ exD c R0 r (S.put d (.opt b v)) K
      | _ => False
  | .alt x keep r rest, S, K => (ex c [x] S fun S' => (keep = true → Qq S' R0) ∧ exD c R0 r S' K) ∧ exD c R0 rest S K
def exDK (c : Cx) (R0 : List (Nat × Res)) (keep : Bool) (r : DT) (K : St → Prop) (S' : St) : Prop := (keep = true → Qq S' R0) ∧ exD c R0 r S' K
theorem Kx (c : Cx) (R0 : List (Nat × Res)) (S : St) (K : St → Prop) : exD c R0 .done S K = K S := rfl
theorem J3 (c : Cx) (R0 : List (Nat × Res)) (S : St) (K : St → Prop) : exD c R0 .stop S K = True := rfl
theorem Nd (c : Cx) (R0 : List (Nat × Res)) (d : Option Nat) (i : I) (m : Bool) (r : DT) (S : St) (K : St → Prop) : exD c R0 (.take ⟨none, d, i⟩ m r) S K = ((m = true → Qq S R0) ∧ match ev ⟨S.slots, bif m then R0 else [], S.nx⟩ i with
    | some (p, v) => p ∧ exD c R0 r (S.put d v) K
    | none => False) := rfl
theorem Nz (c : Cx) (R0 : List (Nat × Res)) (g : Nat × Bool) (d : Option Nat) (i : I) (m : Bool) (r : DT) (S : St) (K : St → Prop) : exD c R0 (.take ⟨some g, d, i⟩ m r) S K = ((m = true → Qq S R0) ∧ match gdc S g with
    | none => False
    | some b => match ev ⟨S.slots, bif m then R0 else [], S.nx⟩ i with
      | some (p, .one v) => (b = true → p) ∧ exD c R0 r (S.put d (.opt b v)) K
      | _ => False) := rfl
theorem Kg (c : Cx) (R0 : List (Nat × Res)) (x : In) (keep : Bool) (r rest : DT) (S : St) (K : St → Prop) : exD c R0 (.alt x keep r rest) S K = (ex c [x] S (exDK c R0 keep r K) ∧ exD c R0 rest S K) := rfl
theorem Mem.restrict {c : Cx} {ρ ρ0 : Env} {R R0 : List (Nat × Res)} {nx nx0 : Nat} {w w0 : World} (h0 : Mem c ρ0 R0 nx0 w0) (h : Mem c ρ R nx w) (hs : Tx nx0 ρ0 ρ) (hsub : ∀ p ∈ R0, p ∈ R) : Mem c ρ0 R0 nx0 w := by
  have hs' : Tx nx0 ρ ρ0 := fun n hn => (hs n hn).symm
  have hown : Zn ρ0 R0 = Zn ρ R0 := Tg (nx := nx0) hs' fun n r hr => (h0.bdr n r hr).1
  have hin : ∀ b ∈ Zn ρ0 R0, b ∈ Zn ρ R := fun b hb => by
    rw [hown] at hb
    obtain ⟨p, hp, hpb⟩ := List.mem_filterMap.1 hb
    exact List.mem_filterMap.2 ⟨p, hsub p hp, hpb⟩
  refine ⟨h.os, h.tape, h.output, h.size, h.block, h0.one, h0.keys, fun n r hr => ?_, h0.bdr, h0.nodup, fun b hb => h.lt b (hin b hb)⟩
  refine Res.carry (nx := nx0) (ρ := ρ) (O := Zn ρ R) (D := []) hs' (h0.bdr n r hr).1 (h0.bdr n r hr).2 (fun b o hb _ => hb) (by simp) (by simp) (fun b hb => .inl (hin b hb)) (h.res n r (hsub _ hr))
theorem Mem.widen {c : Cx} {ρ ρ0 : Env} {R0 : List (Nat × Res)} {nx nx0 : Nat} {w : World} (h0 : Mem c ρ0 R0 nx0 w) (hs : Tx nx0 ρ0 ρ) (hone : ∀ n, (ρ n).oneCell' = true) (hn : nx0 ≤ nx) : Mem c ρ R0 nx w := by
  have hown : Zn ρ R0 = Zn ρ0 R0 := Tg (nx := nx0) hs fun n r hr => (h0.bdr n r hr).1
  refine ⟨h0.os, h0.tape, h0.output, h0.size, h0.block, hone, h0.keys, fun n r hr => ?_, fun n r hr => ⟨Nat.lt_of_lt_of_le (h0.bdr n r hr).1 hn, Res.bd_mono hn (h0.bdr n r hr).2⟩, by rw [hown]; exact h0.nodup, fun b hb => h0.lt b (by rw [← hown]; exact hb)⟩
  rw [hown]
  exact Res.carry (nx := nx0) (ρ := ρ0) (O := Zn ρ0 R0) (D := []) hs (h0.bdr n r hr).1 (h0.bdr n r hr).2 (fun b o hb _ => hb) (by simp) (by simp) (fun b hb => .inl hb) (h0.res n r hr)
theorem G6 {c : Cx} {ops : Array Oper} {Q : Exit → Act → World → Prop} {o : Oper} {x : In} (h1 : X4 c.P c.nt ops o = some x) {K : St → Prop} {S : St} {ρ : Env} {a : Act} {w : World} {next : Act → World → Prop}
    (ih : ∀ S' ρ' a' w', Ext S ρ S' ρ' → K S' → S'.holds c ρ' a' w' → next a' w') (hx : ex c [x] S K) (hh : S.holds c ρ a w) :
    if Region.wanted o (yielded ops a.tmps) then o.wp c.P a w next Q ∨ (o.asks c.P a w ∧ LetsOut Q) else next (a.put o.dst undef) w := by
  obtain ⟨hc, hdst, hd, hg⟩ := Ue h1
  obtain ⟨g, d, i⟩ := x
  simp only at hc hdst hg
  subst hdst
  cases g with
  | none =>
    simp only at hg
    have hw : Region.wanted o (yielded ops a.tmps) = true := by simp [Region.wanted, hg]
    rw [if_pos hw]
    refine .inl ?_
    unfold ex at hx
    split at hx
    · rename_i p v hev
      obtain ⟨g1, g2⟩ := Wo hh hc hev hx.1
      exact Zx g1 (ih _ _ _ _ (Ext.rfl.put _ _) hx.2 (hh.put_same hd g2))
    · exact T4 hh hc hd hx ih
  | some g =>
    obtain ⟨t, want⟩ := g
    obtain ⟨hlow, j, hgd, hj⟩ := hg
    unfold ex at hx
    split at hx
    · exact hx.elim
    · rename_i b hgdc
      have hw := T1 hh hgd hj hlow hgdc
      split at hx
      · rename_i p v hev
        cases b with
        | true =>
          rw [if_pos hw]
          obtain ⟨g1, g2⟩ := Wo hh hc hev (hx.1 rfl)
          exact .inl (Zx g1 (ih _ ρ _ _ (Ext.rfl.put _ _) hx.2 (hh.put_same hd (v := .opt true v) fun _ => g2)))
        | false =>
          rw [if_neg (by rw [hw]; decide)]
          exact ih _ _ _ _ (Ext.rfl.put _ _) hx.2 (hh.put_same hd (v := .opt false v) fun h => by cases h)
      · have plain : (b = true → st c S o.dst i K) ∧ (b = false → K (S.put o.dst noV)) → (if Region.wanted o (yielded ops a.tmps) then o.wp c.P a w next Q ∨ (o.asks c.P a w ∧ LetsOut Q) else next (a.put o.dst undef) w) := by
          intro hx
          cases b with
          | true =>
            rw [if_pos hw]
            exact .inl (T4 hh hc hd (hx.1 rfl) ih)
          | false =>
            rw [if_neg (by rw [hw]; decide)]
            exact ih _ ρ _ _ (Ext.rfl.put _ _) (hx.2 rfl) (by have := hh.put_same hd (Sn S.nx); rwa [Sq] at this)
        cases i with
        | call f args =>
          simp only [gst] at hx
          split at hx
          · rename_i p vs hrd
            obtain ⟨hp, hg⟩ := hx
            obtain ⟨h1, h2⟩ := hg ρ a w hh
            cases b with
            | true =>
              rw [if_pos hw]
              refine .inl (T4 (K := K) hh hc hd ?_ ih)
              simp only [st, hrd]
              refine ⟨hp rfl, fun ρ2 a2 w2 hh2 => ?_⟩
              exact (hg ρ2 a2 w2 hh2).1 rfl
            | false =>
              rw [if_neg (by rw [hw]; decide)]
              obtain ⟨v, hvb, hvd, hK2⟩ := h2 rfl
              have := hh.put_same hd hvb
              rw [hvd] at this
              exact ih _ ρ _ _ (Ext.rfl.put _ _) hK2 this
          · exact hx.elim
        | _ => exact plain hx
section
variable {c : Cx} {ops : Array Oper} {Q : Exit → Act → World → Prop} {ρ0 : Env} {R0 : List (Nat × Res)} {nx0 : Nat} {U : List Nat}
def Sj (c : Cx) (ρ0 : Env) (R0 : List (Nat × Res)) (nx0 : Nat) (U : List Nat) (j : Nat) (w : World) : Prop := Mem c ρ0 [] nx0 w ∧ (U.contains j = true → Mem c ρ0 R0 nx0 w)
theorem Kk {w0 : World} (h0 : Mem c ρ0 R0 nx0 w0) {S : St} {ρ : Env} {a : Act} {w : World} (hs : Tx nx0 ρ0 ρ) (hn : nx0 ≤ S.nx) (hh : S.holds c ρ a w) {o : Oper} {x : In} (hx : X4 c.P c.nt ops o = some x) {m : Bool} {r : DT} {K : St → Prop}
    (he : exD c R0 (.take x m r) S K) : ∃ v S', YieldsIf c.P ops (fun w' => Mem c ρ0 (bif m then R0 else []) nx0 w') o v a ∧ S'.holds c ρ (a.put o.dst v) w ∧ S'.nx = S.nx ∧ exD c R0 r S' K ∧ (m = true → Qq S R0) := by
  obtain ⟨hc, hdst, hd, hg⟩ := Ue hx
  obtain ⟨g, d, i⟩ := x
  simp only at hc hdst hg
  subst hdst
  have hold : ∀ w', Mem c ρ0 (bif m then R0 else []) nx0 w' → (St.mk S.slots (bif m then R0 else []) S.nx).holds c ρ a w' := fun w' hw' => ⟨hh.nodef, hh.sz, hh.lown, hh.slot, hh.bds, hw'.widen hs hh.mem.one hn⟩
  have hrun : ∀ {p v}, ev ⟨S.slots, bif m then R0 else [], S.nx⟩ i = some (p, v) → p → ∀ w', Mem c ρ0 (bif m then R0 else []) nx0 w' → (execOp a.eval o).run c.P w' = .ok (.value (v.den ρ)) w' ∧ v.bd S.nx := fun hev hp w' hw' => Wo (hold w' hw') hc hev hp
  have hat : (m = true → Qq S R0) → Mem c ρ0 (bif m then R0 else []) nx0 w := fun hm => by
    cases m with
    | true => exact h0.restrict hh.mem hs (Q7 (hm rfl))
    | false =>
      have h00 : Mem c ρ0 [] nx0 w0 := ⟨h0.os, h0.tape, h0.output, h0.size, h0.block, h0.one, List.nodup_nil, (fun n r h => nomatch h), (fun n r h => nomatch h), List.nodup_nil, (fun b hb => nomatch hb)⟩
      exact h00.restrict hh.mem hs (fun p hp => nomatch hp)
  cases g with
  | none =>
    simp only at hg
    have hw : Region.wanted o (yielded ops a.tmps) = true := by simp [Region.wanted, hg]
    rw [Nd] at he
    obtain ⟨hm, he⟩ := he
    split at he
    · rename_i p v hev
      have hbd := (hrun hev he.1 w (hat hm)).2
      exact ⟨v.den ρ, _, .inl ⟨hw, fun w' hw' => (hrun hev he.1 w' hw').1⟩, hh.put_same hd hbd, Yq _ _ _, he.2, hm⟩
    · exact he.elim
  | some g =>
    obtain ⟨t, want⟩ := g
    obtain ⟨hlow, j, hgd, hj⟩ := hg
    rw [Nz] at he
    obtain ⟨hm, he⟩ := he
    split at he
    · exact he.elim
    · rename_i b hgdc
      have hw := T1 hh hgd hj hlow hgdc
      split at he
      · rename_i p v hev
        cases b with
        | true =>
          have hbd := (hrun hev (he.1 rfl) w (hat hm)).2
          exact ⟨v.den ρ, _, .inl ⟨hw, fun w' hw' => (hrun hev (he.1 rfl) w' hw').1⟩, hh.put_same hd (v := .opt true v) fun _ => hbd, Yq _ _ _, he.2, hm⟩
        | false =>
          exact ⟨undef, _, .inr ⟨hw, rfl⟩, hh.put_same hd (v := .opt false v) (fun h => by cases h), Yq _ _ _, he.2, hm⟩
      · exact he.elim
theorem Fk {w0 : World} (h0 : Mem c ρ0 R0 nx0 w0) (hns : Region.noSelect ops = true) (hQ : ∀ p a w, ¬ Q (.panic p) a w) {K : St → Prop} (hK : ∀ S' ρ' a' w', K S' → S'.holds c ρ' a' w' → Q .normal a' w') :
    ∀ (it : IT) (t : DT) (listed : Array Bool) (rs : Option (List Nat)) (S : St) (ρ : Env) (a : Act) (w : World) (fuel : Nat), Of c.P c.nt ops U it = some t → okI ops U it listed rs = true → Tx nx0 ρ0 ρ → nx0 ≤ S.nx → S.holds c ρ a w → exD c R0 t S K →
      match rs with
      | none => it.depth ≤ fuel → S9 c.P .any ops Q (Sj c ρ0 R0 nx0 U) fuel listed a w
      | some l => it.depth ≤ fuel + 1 → ∀ i ∈ l, wpOp c.P ops Q i (fun a' w' => Sj c ρ0 R0 nx0 U i w' ∧ S9 c.P .any ops Q (Sj c ρ0 R0 nx0 U) fuel (listed.setIfInBounds i true) a' w') a w := by
  have h00 : Mem c ρ0 [] nx0 w0 := ⟨h0.os, h0.tape, h0.output, h0.size, h0.block, h0.one, List.nodup_nil, (fun n r h => nomatch h), (fun n r h => nomatch h), List.nodup_nil, (fun b hb => nomatch hb)⟩
  intro it
  induction it with
  | done =>
    intro t listed rs S ρ a w fuel hf hok hs hn hh he
    cases hf
    cases rs with
    | some l => simp [okI] at hok
    | none =>
      intro _
      simp only [okI, List.isEmpty_iff] at hok
      exact Jt hok (hK _ _ _ _ he hh) fuel
  | stop =>
    intro t listed rs S ρ a w fuel hf hok hs hn hh he
    match rs, hok with
    | some [], _ => intro _ i hi; cases hi
    | some (_ :: _), hok => simp [okI] at hok
    | none, hok => simp [okI] at hok
  | take i m D V r ih =>
    intro t listed rs S ρ a w fuel hf hok hs hn hh he
    cases rs with
    | some l => simp [okI] at hok
    | none =>
      intro hdep
      simp only [IT.depth] at hdep
      obtain ⟨fuel, rfl⟩ : ∃ f, fuel = f + 1 := ⟨fuel - 1, by omega⟩
      simp only [okI, Bool.and_eq_true] at hok
      obtain ⟨k1, k2, k3, k4, k5, k6, k7⟩ := hok
      simp only [Of] at hf
      split at hf
      · rename_i x t' hx ht'
        cases hf
        obtain ⟨o, ho, hx⟩ := Option.bind_eq_some_iff.1 hx
        obtain ⟨v, S', hy, hh', hn', he', hm⟩ := Kk (ops := ops) h0 hs hn hh hx he
        have hCw : Mem c ρ0 (bif m then R0 else []) nx0 w := by
          cases m with
          | true => exact h0.restrict hh.mem hs (Q7 (hm rfl))
          | false => exact h00.restrict hh.mem hs (fun p hp => nomatch hp)
        refine L9 (C := fun w' => Mem c ρ0 (bif m then R0 else []) nx0 w') (D := D) ho (Region.noSelect_spec hns) (fun p a w h => (hQ p _ w h).elim) (fun w' hw' => ?_) fuel listed a w (Region.free_spec ho k2) (fun j oj hoj hji hun hjD w' hw' => ?_) (fun d hd => ?_) (by simpa using k1) hy hCw ?_
        · cases m with
          | true => exact ⟨h00.restrict hw' (fun _ _ => rfl) (fun p hp => nomatch hp), fun _ => hw'⟩
          | false =>
            refine ⟨hw', fun hU => ?_⟩
            simp only [Bool.false_or, Bool.not_eq_true'] at k6
            rw [k6] at hU; cases hU
        · cases m with
          | false => exact hw'.1
          | true =>
            refine hw'.2 ?_
            have hlt : j < ops.size := (Array.getElem?_eq_some_iff.1 hoj).1
            have h4 := List.all_eq_true.1 k4 j (List.mem_range.2 hlt)
            simp only [Bool.or_eq_true, beq_iff_eq, hji, false_or, hun, Bool.false_eq_true] at h4
            rcases h4 with h4 | h4
            · exact absurd (by simpa using h4) hjD
            · simp only [Bool.not_true, Bool.false_or] at k5
              exact List.all_eq_true.1 k5 j (by simpa using h4)
        · have h3 := List.all_eq_true.1 k3 d hd
          simp only [Bool.and_eq_true, Bool.not_eq_true'] at h3
          refine ⟨h3.1, ?_⟩
          have h5 := h3.2
          split at h5
          · rename_i od hod
            obtain ⟨e, he1, he2⟩ := Array.any_eq_true'.1 h5
            simp only [Bool.and_eq_true, Bool.or_eq_true, beq_iff_eq] at he2
            exact ⟨od, hod, e, he1, he2.1, he2.2.imp id fun h => by simpa using h⟩
          · cases h5
        · exact ih _ _ none _ _ _ _ _ ht' k7 hs (by omega) hh' he' (by omega)
      · cases hf
  | alt i r rest ihr ihs =>
    intro t listed rs S ρ a w fuel hf hok hs hn hh he
    simp only [Of] at hf
    split at hf
    · rename_i x t1 t2 hx ht1 ht2
      cases hf
      obtain ⟨o, ho, hx⟩ := Option.bind_eq_some_iff.1 hx
      rw [Kg] at he
      have one : ∀ fuel, r.depth ≤ fuel → okI ops U r (listed.setIfInBounds i true) none = true → wpOp c.P ops Q i (fun a' w' => Sj c ρ0 R0 nx0 U i w' ∧ S9 c.P .any ops Q (Sj c ρ0 R0 nx0 U) fuel (listed.setIfInBounds i true) a' w') a w := by
        intro fuel hdep hok1
        unfold wpOp
        simp only [ho]
        refine G6 hx (fun S' ρ' a' w' hext hk hh' => ?_) he.1 hh
        have hs' : Tx nx0 ρ0 ρ' := fun n hn0 => (hext.same n (Nat.lt_of_lt_of_le hn0 hn)).trans (hs n hn0)
        have hn' : nx0 ≤ S'.nx := Nat.le_trans hn hext.le
        refine ⟨⟨h00.restrict hh'.mem hs' (fun p hp => nomatch hp), fun hU => h0.restrict hh'.mem hs' (Q7 (hk.1 hU))⟩, ?_⟩
        exact ihr _ _ none _ _ _ _ _ ht1 hok1 hs' hn' hh' hk.2 hdep
      match rs, hok with
      | none, hok =>
        intro hdep
        simp only [IT.depth] at hdep
        obtain ⟨fuel, rfl⟩ : ∃ f, fuel = f + 1 := ⟨fuel - 1, by omega⟩
        simp only [okI] at hok
        split at hok
        · rename_i i0 l hr
          simp only [Bool.and_eq_true, beq_iff_eq] at hok
          obtain ⟨rfl, k1, k2⟩ := hok
          have := ihs _ _ (some l) _ _ _ _ fuel ht2 k2 hs hn hh he.2 (by omega)
          refine ⟨fun h => (by rw [hr] at h; cases h), fun j hj => ?_⟩
          rw [hr] at hj
          rcases List.mem_cons.1 hj with rfl | hj
          · exact one fuel (by omega) k1
          · exact this j hj
        · cases hok
      | some (i0 :: l), hok =>
        intro hdep
        simp only [IT.depth] at hdep
        simp only [okI, Bool.and_eq_true, beq_iff_eq] at hok
        obtain ⟨rfl, k1, k2⟩ := hok
        have := ihs _ _ (some l) _ _ _ _ fuel ht2 k2 hs hn hh he.2 (by omega)
        intro j hj
        rcases List.mem_cons.1 hj with rfl | hj
        · exact one fuel (by omega) k1
        · exact this j hj
      | some [], hok => simp [okI] at hok
    · cases hf
end
end Vc
end Go.Proofs.YtjochhncheheaaaGreatDoor
