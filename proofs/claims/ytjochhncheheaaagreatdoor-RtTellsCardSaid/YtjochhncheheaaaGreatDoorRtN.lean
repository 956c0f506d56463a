/-
  A part of the proofs of this seat's laws: a step on the way. It has no conditions of its own.
-/
import Derived.Test.YtjochhncheheaaaGreatDoorRtK
import Derived.Test.YtjochhncheheaaaGreatDoorReadO
namespace Go.Proofs.YtjochhncheheaaaGreatDoor
open Go Go.RowKit Vc
set_option linter.unusedVariables false
set_option linter.unusedSimpArgs false
namespace Vc
theorem Ent.rowRo {c : Cx} {S : St} {m E : Nat} {k : Kd} {l : List k.ty} (hf : S.find m = some (.row E k l)) : Ent c S ⟨S.slots, (m, .ro k l) :: del S.res [m], S.nx⟩ := fun ρ a w hh => by
  have hm := hh.mem
  have hmem := Zd hf
  have hr := Res.row_own (hm.res _ _ hmem)
  have hro := V8 hr
  refine ⟨ρ, hh.nodef, hh.sz, hh.lown, hh.slot, hh.bds, ?_⟩
  refine hm.step (D := []) (ds := [m]) (fun n hn => rfl) (Nat.le_refl _) hm.one rfl rfl rfl (Nat.le_refl _) (fun b o hb _ => hb) (by simp) (hm.bdr m _ hmem).1 (.inl (by simp)) trivial (fun b hb => by simp [Res.block] at hb) (fun O' h1 h2 => ?_)
  refine RoO.holds ?_
  rcases hr.2 with ⟨hv, hn⟩ | ⟨g, cap, cur, hv, _, hh2, hn, _⟩
  · have : l = [] := List.eq_nil_of_length_eq_zero hn
    subst this
    rw [hv]; exact RoO.nil w O' k
  · obtain ⟨a, cap2, h1', h2', h3⟩ := hro
    refine ⟨a, cap2, h1', h2', fun ad had => ⟨(h3 ad had).1, fun i x hx j u hu => ⟨(h3 ad had).2 i x hx j u hu, fun hO => ?_⟩⟩⟩
    rw [hv] at h1'
    have : a = some ⟨g, 0, none⟩ := by have := h1'.1; injection this with e1 _ _; exact e1.symm
    rw [this] at had; cases had
    rcases h1 g hO with h4 | h4
    · exact Yb hm.keys hm.nodup hmem (by simp) (by simp [Res.block, hv, Value.ownBlock]) h4
    · simp [Res.block] at h4
theorem Ent.nilUrow {c : Cx} {S : St} {t : Nat} {base : Nat} (E : Nat) (ht : S.get t = some (.one (.a (.raw (.slice none 0 0))))) : Ent c S ⟨(t, .one (.a (.ref S.nx))) :: S.slots, (S.nx, (.urow base E [])) :: S.res, S.nx + 1⟩ := fun ρ a w hh => by
  have hmem : Mem c (Yg ρ S.nx (.slice none 0 0)) ((S.nx, (.urow base E [])) :: S.res) (S.nx + 1) w := by
    have h := hh.mem
    have := Mem.step (ρ' := Yg ρ S.nx (.slice none 0 0)) (nx' := S.nx + 1) (w' := w) (ds := []) (m := S.nx) (r := .urow base E []) (D := []) h
      (Ze ρ S.nx _) (by omega) (Xc h.one rfl) rfl rfl rfl (Nat.le_refl _) (fun b o hb _ => hb) (by simp) (by omega) (.inr (Nat.le_refl _)) trivial
      (fun b hb => by simp only [Res.block, Zj, Value.ownBlock] at hb; cases hb)
      (fun O' _ _ => by
        simp only [Res.holds, Zj]
        exact ⟨[], rfl, World.ownsRow_nil w 0 E Kd.unt.sz, fun i u x hu => by simp at hu⟩)
    rwa [Xv] at this
  refine ⟨Yg ρ S.nx (.slice none 0 0), hh.nodef, hh.sz, hh.lown, fun u v hu => ?_, fun u v hu => ?_, hmem⟩
  · rcases look_cons hu with ⟨rfl, rfl⟩ | ⟨hne, hu'⟩
    · rw [hh.slot _ _ ht]; simp only [SV.den, S1.den, At.den, Zj]
    · rw [SV.den_same (Ze ρ S.nx _) (hh.bds u v hu')]; exact hh.slot u v hu'
  · rcases look_cons hu with ⟨rfl, rfl⟩ | ⟨hne, hu'⟩
    · exact Nat.lt_succ_self _
    · exact SV.bd_mono (Nat.le_succ _) (hh.bds u v hu')
def UOwn (base : Nat) (w : World) (v : Value) (E : Nat) (l : List (List UInt8 × List Ln)) : Prop :=
  ∃ us : List Unt, us.length = l.length ∧ w.ownsRow base E Kd.unt.sz v us.length ((us.flatMap Kd.unt.enc).map (At.den fun _ => Xe)) ∧
    ∀ (i : Nat) (u : Unt) (x : List UInt8 × List Ln), us[i]? = some u → l[i]? = some x → u.name = x.1 ∧ (u.ln = x.2.length ∧ u.ln ≤ u.lc) ∧ W4 w v.ownBlock.toList base u.la x.2
def RuC (G : Nat) (H : Nat → Option Obj) (P : Program) (f : Nat) (E : Nat) (l : List (List UInt8 × List Ln)) : Prop :=
  ∀ w, X3 G H w [] → Calls P f #[] w fun e w' => ∃ r, e = .returned r ∧ Below w.heap.size w w' ∧ UOwn w.heap.size w' r E l
theorem Body.ru {G : Nat} {H : Nat → Option Obj} {P : Program} {f nt : Nat} {x : IC} {rl : List RV} (hF : Body P f nt x rl) {E : Nat} {l : List (List UInt8 × List Ln)}
    (hT : ∀ w, X3 G H w [] → T ⟨P, w, [], nt, []⟩ x (Sz ⟨P, w, [], nt, []⟩ rl fun v S => ∃ m, v = .one (.a (.ref m)) ∧ S.find m = some (.urow w.heap.size E l)) ⟨[], [], 0⟩) : RuC G H P f E l := fun w hg => by
  refine hF.plain (vs := []) (Nat.zero_le _) (by simp) (hT w hg) fun v S' ρ' w' hR _ hm => ?_
  obtain ⟨m, rfl, hf⟩ := hR
  obtain ⟨us, h0, hown, hl⟩ := hm.res m _ (Zd hf)
  refine ⟨ρ' m, rfl, hm.toBelow, us, h0, ⟨hown.1, ?_⟩, fun i u x hu hx => ?_⟩
  · rcases hown.2 with h | ⟨g, cap, cur, h3, _, h4⟩
    · exact .inl h
    · refine .inr ⟨g, cap, cur, h3, ?_, h4⟩
      have hb : g ∈ Zn ρ' S'.res := List.mem_filterMap.2 ⟨(m, _), Zd hf, by simp [Res.block, h3, Value.ownBlock]⟩
      rcases (hm.lt g hb).2 with h | h
      · exact h
      · cases h
  · obtain ⟨g1, g2, g3⟩ := hl i u x hu hx
    refine ⟨g1, g2, g3.sub fun b hb => List.mem_filterMap.2 ⟨(m, _), Zd hf, ?_⟩⟩
    show (ρ' m).ownBlock = some b
    simpa using hb
theorem Za.ru {G : Nat} {H : Nat → Option Obj} {c : Cx} (hglob : X3 G H c.w0 c.X) {f : Nat} {S : St} {K : SV → St → Prop} {E : Nat} {l : List (List UInt8 × List Ln)} (h : RuC G H c.P f E l)
    (hK : K (.one (.a (.ref S.nx))) ⟨S.slots, (S.nx, .urow 0 E l) :: S.res, S.nx + 1⟩) : Za c f [] S K := by
  intro ρ a w hh
  have hm := hh.mem
  have hglob' : X3 G H w [] := by
    obtain ⟨k1, k2, k3⟩ := hglob
    refine ⟨Nat.le_trans k1 hm.size, fun b hb => ?_, fun b hb => by cases hb⟩
    rw [hm.block b (by omega) (fun hX => by have := k3 b hX; omega)]; exact k2 b hb
  refine (h w hglob').mono fun e w' ⟨v, he, hb, us, h0, hown, hl⟩ => ⟨_, Yg ρ S.nx v, _, ⟨Ze _ _ _, Nat.le_succ _⟩, ?_, Nat.lt_succ_self _, hh.res (Ze ρ S.nx v) (Nat.le_succ _) ?_, hK⟩
  · rw [he]; simp only [SV.den, S1.den, At.den, Zj]
  have hvone : v.oneCell' = true := by rcases hown.2 with ⟨hv, _⟩ | ⟨g, cp, cur, hv, _⟩ <;> rw [hv] <;> rfl
  have := Mem.step (ρ' := Yg ρ S.nx v) (nx' := S.nx + 1) (w' := w') (ds := []) (m := S.nx) (r := .urow 0 E l) (D := []) hm
    (Ze ρ S.nx _) (by omega) (Xc hm.one hvone) hb.os hb.tape hb.output hb.size (fun b o ho _ => by rw [hb.block b (Array.getElem?_eq_some_iff.1 ho).1]; exact ho) (by simp) (by omega) (.inr (Nat.le_refl _)) trivial
    (fun b hbk => by
      simp only [Res.block, Zj] at hbk
      have := World.ownsRow.lt hown b hbk
      exact ⟨this.2, .inl this.1⟩)
    (fun O' hO _ => by
      refine ⟨us, h0, ?_, fun i u x hu hx => ?_⟩
      · simp only [Zj]
        obtain ⟨h1, h2⟩ := hown
        refine ⟨h1, ?_⟩
        rcases h2 with h2 | ⟨g, cap, cur, h3, _, h4⟩
        · exact .inl h2
        · exact .inr ⟨g, cap, cur, h3, Nat.zero_le _, h4⟩
      · obtain ⟨g1, g2, g3, g4⟩ := hl i u x hu hx
        refine ⟨g1, g2, g3, fun ad1 had1 => ⟨(g4 ad1 had1).1, fun j y hy q v' hv' => ?_⟩⟩
        obtain ⟨k1, k2, k3⟩ := (g4 ad1 had1).2 j y hy q v' hv'
        refine ⟨k1, fun hbO => ?_, Nat.zero_le _⟩
        rcases hO _ hbO with h5 | h5
        · rw [Xv] at h5
          have := (hm.lt _ h5).1; omega
        · simp only [Res.block, Zj] at h5
          exact k2 (by rw [h5]; simp))
  rwa [Xv] at this
end Vc
attribute [local irreducible] T Za Z2 Ent RdC RwC Xl Zc Zs
set_option maxHeartbeats 4000000 in
set_option maxRecDepth 100000 in
theorem Jm {G : Nat} {H : Nat → Option Obj} (hM : Xh G H) (hH : Y7 G H) : RuC G H Tryz.prog 10 36 (unitsTo 24) := by
  refine Body.ru Wl.fn fun w hglob => ?_
  have hnl : Ye.length = 24 := rfl
  repeat' (first | ((first | (with_reducible first | refine T.regs ?_ | refine T.cond ?_ | refine T.reg ?_ | refine T.ret ?_ | refine T.exit ?_ | refine T.skip ?_) | ((with_reducible first | refine T.dregs ?_ ?_ | refine T.dreg ?_ ?_ | refine T.dregts ?_ ?_ | refine T.dregt ?_ ?_ | refine T.danys ?_ ?_ | refine T.dany ?_ ?_); exact mix) | ((with_reducible refine Za.gc (Rg) ?_ ?_); (focus ((simp [Zm]); done)))); simp only [Zh, Zi, Int.reduceEq, Int.reduceNeg, Int.reduceLE, Int.reduceLT, Nat.reduceSub, ↓reduceIte, reduceCtorEq, Nat.reduceEqDiff, Nat.reduceAdd, Nat.reduceMul, Nat.reduceLeDiff, Nat.reduceLT, Nat.reduceBEq, Nat.reduceBNe, implies_true, Wl.rs, Wl.res, hnl]) | (with_reducible first | refine T.seq ?_ | refine T.block ?_ | assumption | refine And.intro ?_ ?_) | (intro h; first | (exfalso; omega) | exact (tf h ‹_›).elim | exact (tf ‹_› h).elim | skip))
  all_goals first | omega | skip
  refine T.weak (Ent.nilUrow (t := 1) (base := w.heap.size) 36 rfl) ?_
  refine T.loop (ι := { k : Nat // k ≤ 24 })
    (fun x => ⟨[(10, .one (.a (.int .i64 (x.1 : Int)))), (9, .one (.a (.int .i64 24))), (8, .one (.a (.ref 0))), (1, .one (.a (.ref 1)))],
      [(0, .row 9 .str Ye), (1, .urow w.heap.size 36 (unitsTo x.1))], 2⟩) (fun x => 24 - x.1) ⟨0, by simp⟩ (Ent.mk1 (id) (by simp [Z7, unitsTo])) ?_
  rintro ⟨k, hk⟩
  simp only
  by_cases hlt : k < 24
  · obtain ⟨hr1, hr2, hr3⟩ := Md k hlt
    have hT := Nm hM hH k hlt
    have hR := Oh hM (textAt k) (by omega)
    have hul := To k
    have hus := Kh k
    have hw : IntKind.i64.wrap ((k : Int) + 1) = ((k + 1 : Nat) : Int) := Z4 (by omega)
    have ht : ((k : Int)).toNat = k := by omega
    have hx : Ye.getD k (Kd.dflt .str) = nameAt k := rfl
    have hlt3 : (k : Int) < 24 := by omega
    have hll : (Pc (textAt k)).1 = linesAt k := rfl
    rw [hr1, hll] at hR
    generalize textAt k = tx at hT hR
    generalize linesAt k = ls at hR hus hr3
    generalize nameAt k = nm at hT hx hus
    generalize unitsTo k = us at hus hul
    have hb1 : (us.length + 1) * 40 ≤ 140737488355328 := by omega
    have hb2 : us.length + 1 ≤ 4611686018427387904 := by omega
    repeat' (first | ((first | (with_reducible first | refine T.regs ?_ | refine T.cond ?_ | refine T.reg ?_ | refine T.ret ?_ | refine T.exit ?_ | refine T.skip ?_) | ((with_reducible first | refine T.dregs ?_ ?_ | refine T.dreg ?_ ?_ | refine T.dregts ?_ ?_ | refine T.dregt ?_ ?_ | refine T.danys ?_ ?_ | refine T.dany ?_ ?_); exact mix) | ((with_reducible refine Za.gcp hglob (hT) ?_ ?_); (focus ((simp [Zm]); done))) | ((with_reducible refine Za.gcp hglob (hR) ?_ ?_); (focus ((simp [Zm]); done)))); simp only [Zh, Zi, Int.reduceEq, Int.reduceNeg, Int.reduceLE, Int.reduceLT, Nat.reduceSub, ↓reduceIte, reduceCtorEq, Nat.reduceEqDiff, Nat.reduceAdd, Nat.reduceMul, Nat.reduceLeDiff, Nat.reduceLT, Nat.reduceBEq, Nat.reduceBNe, implies_true, Wl.rs, Wl.res, hx, hlt3, ht, hnl, hw, Int.ofNat_lt]) | (with_reducible first | refine T.seq ?_ | refine T.block ?_ | assumption | refine And.intro ?_ ?_) | (intro h; first | (exfalso; omega) | exact (tf h ‹_›).elim | exact (tf ‹_› h).elim | skip))
    all_goals first | omega | exact .inr ⟨rfl, rfl⟩ | skip
    exact ⟨⟨k + 1, hlt⟩, (Ent.mk1 (fun n => if n = 1 then 5 else n) (by simp [Z7, hus, hw])), by simp only; omega⟩
  · have hk2 : k = 24 := by omega
    subst hk2
    repeat' (first | ((first | (with_reducible first | refine T.regs ?_ | refine T.cond ?_ | refine T.reg ?_ | refine T.ret ?_ | refine T.exit ?_ | refine T.skip ?_) | ((with_reducible first | refine T.dregs ?_ ?_ | refine T.dreg ?_ ?_ | refine T.dregts ?_ ?_ | refine T.dregt ?_ ?_ | refine T.danys ?_ ?_ | refine T.dany ?_ ?_); exact mix)); simp only [Zh, Zi, Int.reduceEq, Int.reduceNeg, Int.reduceLE, Int.reduceLT, Nat.reduceSub, ↓reduceIte, reduceCtorEq, Nat.reduceEqDiff, Nat.reduceAdd, Nat.reduceMul, Nat.reduceLeDiff, Nat.reduceLT, Nat.reduceBEq, Nat.reduceBNe, implies_true, Wl.rs, Wl.res]) | (with_reducible first | refine T.seq ?_ | refine T.block ?_ | assumption | refine And.intro ?_ ?_) | (intro h; first | (exfalso; omega) | exact (tf h ‹_›).elim | exact (tf ‹_› h).elim | skip))
    all_goals first | omega | exact ⟨1, rfl, rfl⟩
end Go.Proofs.YtjochhncheheaaaGreatDoor
