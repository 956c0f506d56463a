/-
  A part of the proofs of this seat's laws: a step on the way. It has no conditions of its own.
-/
import Derived.Test.YtibkcfpcfbodaaaLinkD
namespace Go.Proofs.Ytibkcfpcfbodaaa
open Go.RowKit Vc
set_option linter.unusedVariables false
set_option linter.unusedSimpArgs false
attribute [local irreducible] T CallVC QCallVC Ent RdC RwC Rw1C GCallVC GQCallVC

/-- what Link tells of a name, labels being laid down -/
def knOf (g : Own) (sp : List Spot) (s : List UInt8) : Int × Bool := if ownS s = true then ((sp.getD (idxP (fun y => decide (y.name = s)) sp 0).toNat spot0).at_, true) else ((g s).getD (0 : Int), true)
def kn2 (g : Own) (sp : List Spot) : List S1 → Option SV
  | [.a (.str s)] => if s ≠ [] ∧ s.length ≤ 32 ∧ (ownS s = true → sp.any (fun y => decide (y.name = s)) = true) then some (.tup [.a (.int .i64 (knOf g sp s).1), .a (.bool (knOf g sp s).2)]) else none
  | _ => none

theorem Link21_ok (R : List (Nat × Res)) (nx m : Nat) (s : List UInt8) (hm : Vc.look (roR R) m = some (Res.rocells [.str s])) : FnOk Try.prog R nx 28 [m] (nameIs s) := by
  refine ⟨F_link_Link_2_1.enters, _, _, _, F_link_Link_2_1.fn, fun args r hr => ?_⟩
  unfold nameIs at hr
  split at hr
  · rename_i t n
    cases hr
    refine ⟨by simp [bdAll, S1.bd, At.bd], by simp [SV.bd, S1.bd, At.bd], by simp, fun w => ?_⟩
    refine T.weak (S2 := ⟨[(0, .one (.agg [.str t, .int .i64 n])), (1, .one (.a (.loc 0 0)))], [(0, .rocells [.str s])], 1⟩) (Ent.mk (fun _ => m) (by simp [Vc.subSlots, Vc.subRes, Vc.bnd, Vc.St.get, Vc.St.find, Vc.look, Vc.SV.ren, Vc.S1.ren, Vc.At.ren, Vc.Res.ren, Vc.SV.bd, Vc.S1.bd, Vc.At.bd, Vc.Res.bd, Vc.upd, Vc.del, Vc.Kd.enc, Value.oneCell', hm, Vc.argSlots]) (by simp [Vc.subSlots, Vc.subRes, Vc.bnd, Vc.St.get, Vc.St.find, Vc.look, Vc.SV.ren, Vc.S1.ren, Vc.At.ren, Vc.Res.ren, Vc.SV.bd, Vc.S1.bd, Vc.At.bd, Vc.Res.bd, Vc.upd, Vc.del, Vc.Kd.enc, Value.oneCell', hm, Vc.argSlots]) (by simp [Vc.subSlots, Vc.subRes, Vc.bnd, Vc.St.get, Vc.St.find, Vc.look, Vc.SV.ren, Vc.S1.ren, Vc.At.ren, Vc.Res.ren, Vc.SV.bd, Vc.S1.bd, Vc.At.bd, Vc.Res.bd, Vc.upd, Vc.del, Vc.Kd.enc, Value.oneCell', hm, Vc.argSlots]) (by simp [Vc.subSlots, Vc.subRes, Vc.bnd, Vc.St.get, Vc.St.find, Vc.look, Vc.SV.ren, Vc.S1.ren, Vc.At.ren, Vc.Res.ren, Vc.SV.bd, Vc.S1.bd, Vc.At.bd, Vc.Res.bd, Vc.upd, Vc.del, Vc.Kd.enc, Value.oneCell', hm, Vc.argSlots])) ?_
    repeat' (first | ((first | (with_reducible refine T.regs ?_) | (with_reducible refine T.cond ?_) | (with_reducible refine T.reg ?_) | (with_reducible refine T.ret ?_) | (with_reducible refine T.exit ?_) | (with_reducible refine T.skip ?_) | ((with_reducible refine T.dregs ?_ ?_); exact mix) | ((with_reducible refine T.dreg ?_ ?_); exact mix) | ((with_reducible refine T.dregts ?_ ?_); exact mix) | ((with_reducible refine T.dregt ?_ ?_); exact mix) | ((with_reducible refine T.danys ?_ ?_); exact mix) | ((with_reducible refine T.dany ?_ ?_); exact mix)); simp only [Vc.ex_nil, Vc.ex_none, Vc.ex_some, Vc.exK, Vc.exD_done, Vc.exD_stop, Vc.exD_none, Vc.exD_some, Vc.exD_alt, Vc.exDK, Vc.subR, Vc.exh_nil, Vc.exh_none, Vc.exh_some, Vc.exq_nil, Vc.exq_none, Vc.exq_some, Vc.exqK, Vc.afterK, Vc.putK, Vc.ev, Vc.st, Vc.stq, Vc.gst, Vc.gstq, Vc.St.rd, Vc.St.get, Vc.St.put, Vc.St.find, Vc.look, Vc.St.new, Vc.gdc, Vc.ldCells, Vc.binAt, Vc.intOp, Vc.strOp, Vc.unAt, Vc.mergeAt, Vc.rdParts, Vc.rdAll, Vc.putAt, Vc.S1.cells, Vc.upd, Vc.del, Vc.appended, Vc.noV, Vc.Kd.enc, Vc.Kd.dec, Vc.Ins.cells, Vc.Ln.cells, Vc.castL, Vc.condVC, Vc.thenQ, Vc.blockQ, Vc.retQ, Vc.rvs, Vc.outV, Vc.argSlots, Vc.argS, Vc.argR, Vc.argN, Vc.patS, Vc.patR, Vc.patN, Vc.isRow, Vc.endV, Vc.endRow, Vc.endRow1, Vc.appended0, Vc.eqKs, Vc.eqAt, Vc.bdAll, Vc.SV.bd, Vc.S1.bd, Vc.At.bd, Value.oneCell', Int.reduceEq, Int.reduceNeg, Int.reduceLE, Int.reduceLT, Vc.lenOf, Vc.slSrc, Vc.bdOf, Vc.capsOf, Vc.atK, Vc.mlookV, Vc.unK, Vc.wfK, Vc.bindA, Vc.bindL, Vc.bindS, Vc.bindSs, Vc.bindSV, Vc.bindR, Vc.bindR1, Vc.bindK, Vc.sg, Vc.outS, Vc.outR, Vc.gcSt, Vc.nmOf, Vc.useds, Vc.Res.own, Vc.At.sub, Vc.S1.sub, Vc.SV.sub, Vc.Res.sub, Vc.endG, Vc.endP, Vc.keepG, Vc.endRs, Vc.endR1, Vc.frS, Vc.Kd.sz, Nat.reduceSub, ↓reduceIte, reduceCtorEq, Nat.reduceEqDiff, Nat.reduceAdd, Nat.reduceMul, Nat.reduceLeDiff, Nat.reduceLT, Nat.reduceBEq, Nat.reduceBNe, implies_true, Vc.lemL, F_link_Link_2_1.rs, F_link_Link_2_1.res]) | (with_reducible refine T.seq ?_) | (with_reducible refine T.block ?_) | (with_reducible assumption) | (with_reducible refine And.intro ?_ ?_) | (intro h; first | (exfalso; omega) | exact absurd (Eq.trans (Eq.symm h) (by assumption : _ = false)) (by decide) | exact absurd (Eq.trans (Eq.symm h) (by assumption : _ = true)) (by decide) | skip))
  · cases hr

theorem idxP_rng {α : Type} (p : α → Bool) : ∀ (l : List α) (k : Nat), l.any p = true → (k : Int) ≤ idxP p l k ∧ idxP p l k < k + l.length
  | [], k, h => by simp at h
  | x :: l, k, h => by
    simp only [idxP, List.length_cons]
    by_cases hp : p x = true
    · rw [if_pos hp]; omega
    · rw [if_neg hp]
      have := idxP_rng p l (k + 1) (by simpa [hp] using h)
      omega

set_option maxHeartbeats 4000000 in
theorem Link2_ok (R : List (Nat × Res)) (nx mg q ms r : Nat) (g : Own) (n : Nat) (sp : List Spot) (hsl : sp.length ≤ 40000) (h1 : Vc.look (roR R) mg = some (Res.rocells [.ref q])) (h2 : Vc.look (roR R) q = some (Res.rosmap Try.prog 9 3 (.int .i64) g n))
    (h3 : Vc.look (roR R) ms = some (Res.rocells [.ref r])) (h4 : Vc.look (roR R) r = some (Res.ro .spot sp)) (hne : [mg, q, ms, r].Nodup) : FnOk Try.prog R nx 26 [mg, ms] (kn2 g sp) := by
  refine ⟨F_link_Link_2.enters, _, _, _, F_link_Link_2.fn, fun args res hr => ?_⟩
  unfold kn2 at hr
  split at hr
  · rename_i s
    split at hr
    · rename_i hs
      cases hr
      obtain ⟨hs1, hs2, hs3⟩ := hs
      simp only [List.nodup_cons, List.mem_cons, List.not_mem_nil, or_false, not_or, List.nodup_nil, and_true, not_false_eq_true] at hne
      obtain ⟨⟨n1, n2, n3⟩, ⟨n4, n5⟩, n6⟩ := hne
      refine ⟨by simp [bdAll, S1.bd, At.bd], by simp [SV.bd, S1.bd, At.bd], by simp, fun w => ?_⟩
      refine T.weak (S2 := ⟨[(0, .one (.a (.str s))), (1, .one (.a (.loc 0 0))), (2, .one (.a (.loc 2 0)))], [(0, .rocells [.ref 1]), (1, .rosmap Try.prog 9 3 (.int .i64) g n), (2, .rocells [.ref 3]), (3, .ro .spot sp)], 4⟩)
        (Ent.mk (fun k => if k = 0 then mg else if k = 1 then q else if k = 2 then ms else r) (by simp [Vc.subSlots, Vc.subRes, Vc.bnd, Vc.St.get, Vc.St.find, Vc.look, Vc.SV.ren, Vc.S1.ren, Vc.At.ren, Vc.Res.ren, Vc.SV.bd, Vc.S1.bd, Vc.At.bd, Vc.Res.bd, Vc.upd, Vc.del, Vc.Kd.enc, Value.oneCell', h1, h2, h3, h4, Vc.argSlots, n1, n2, n3, n4, n5, n6]) (by simp [Vc.subSlots, Vc.subRes, Vc.bnd, Vc.St.get, Vc.St.find, Vc.look, Vc.SV.ren, Vc.S1.ren, Vc.At.ren, Vc.Res.ren, Vc.SV.bd, Vc.S1.bd, Vc.At.bd, Vc.Res.bd, Vc.upd, Vc.del, Vc.Kd.enc, Value.oneCell', h1, h2, h3, h4, Vc.argSlots, n1, n2, n3, n4, n5, n6]) (by simp [Vc.subSlots, Vc.subRes, Vc.bnd, Vc.St.get, Vc.St.find, Vc.look, Vc.SV.ren, Vc.S1.ren, Vc.At.ren, Vc.Res.ren, Vc.SV.bd, Vc.S1.bd, Vc.At.bd, Vc.Res.bd, Vc.upd, Vc.del, Vc.Kd.enc, Value.oneCell', h1, h2, h3, h4, Vc.argSlots, n1, n2, n3, n4, n5, n6]) (by simp [Vc.subSlots, Vc.subRes, Vc.bnd, Vc.St.get, Vc.St.find, Vc.look, Vc.SV.ren, Vc.S1.ren, Vc.At.ren, Vc.Res.ren, Vc.SV.bd, Vc.S1.bd, Vc.At.bd, Vc.Res.bd, Vc.upd, Vc.del, Vc.Kd.enc, Value.oneCell', h1, h2, h3, h4, Vc.argSlots, n1, n2, n3, n4, n5, n6])) ?_
      have hsl2 : s.length ≤ 9223372036854775807 := by omega
      have hgs : ∀ y ∈ sp, nameIs s [.agg [.str y.name, .int .i64 y.at_]] = some (.one (.a (.bool ((fun y : Spot => decide (y.name = s)) y)))) := fun y _ => rfl
      have hIF := IndexFunc_any sp (nameIs s) (fun y => decide (y.name = s)) hgs (by omega)
      cases hown : ownS s with
      | true =>
        have hr := idxP_rng (fun y : Spot => decide (y.name = s)) sp 0 (hs3 hown)
        generalize hI : idxP (fun y : Spot => decide (y.name = s)) sp 0 = I at hIF hr
        have hI2 : sp.getD I.toNat (Kd.dflt .spot) = sp.getD I.toNat spot0 := rfl
        repeat' (first | ((first | (with_reducible refine T.regs ?_) | (with_reducible refine T.cond ?_) | (with_reducible refine T.reg ?_) | (with_reducible refine T.ret ?_) | (with_reducible refine T.exit ?_) | (with_reducible refine T.skip ?_) | ((with_reducible refine T.dregs ?_ ?_); exact mix) | ((with_reducible refine T.dreg ?_ ?_); exact mix) | ((with_reducible refine T.dregts ?_ ?_); exact mix) | ((with_reducible refine T.dregt ?_ ?_); exact mix) | ((with_reducible refine T.danys ?_ ?_); exact mix) | ((with_reducible refine T.dany ?_ ?_); exact mix) | ((with_reducible apply CallVC.rd (local_any s hs1)); (focus ((repeat' (first | exact rfl | exact trivial | refine And.intro ?_ ?_ | (simp [Vc.SV.bd, Vc.S1.bd, Vc.At.bd, Vc.bdAll, Vc.patBd, Vc.Ins.cells, Vc.Ln.cells]; done))); done))) | ((with_reducible apply GCallVC.rd (local_any s hs1)); (focus ((repeat' (first | exact rfl | exact trivial | refine And.intro ?_ ?_ | (simp [Vc.SV.bd, Vc.S1.bd, Vc.At.bd, Vc.bdAll, Vc.patBd, Vc.Ins.cells, Vc.Ln.cells]; done))); done))) | ((with_reducible refine CallVC.gc (hIF) ?_ ?_); rotate_left)); simp only [Vc.ex_nil, Vc.ex_none, Vc.ex_some, Vc.exK, Vc.exD_done, Vc.exD_stop, Vc.exD_none, Vc.exD_some, Vc.exD_alt, Vc.exDK, Vc.subR, Vc.exh_nil, Vc.exh_none, Vc.exh_some, Vc.exq_nil, Vc.exq_none, Vc.exq_some, Vc.exqK, Vc.afterK, Vc.putK, Vc.ev, Vc.st, Vc.stq, Vc.gst, Vc.gstq, Vc.St.rd, Vc.St.get, Vc.St.put, Vc.St.find, Vc.look, Vc.St.new, Vc.gdc, Vc.ldCells, Vc.binAt, Vc.intOp, Vc.strOp, Vc.unAt, Vc.mergeAt, Vc.rdParts, Vc.rdAll, Vc.putAt, Vc.S1.cells, Vc.upd, Vc.del, Vc.appended, Vc.noV, Vc.Kd.enc, Vc.Kd.dec, Vc.Ins.cells, Vc.Ln.cells, Vc.castL, Vc.condVC, Vc.thenQ, Vc.blockQ, Vc.retQ, Vc.rvs, Vc.outV, Vc.argSlots, Vc.argS, Vc.argR, Vc.argN, Vc.patS, Vc.patR, Vc.patN, Vc.isRow, Vc.endV, Vc.endRow, Vc.endRow1, Vc.appended0, Vc.eqKs, Vc.eqAt, Vc.bdAll, Vc.SV.bd, Vc.S1.bd, Vc.At.bd, Value.oneCell', Int.reduceEq, Int.reduceNeg, Int.reduceLE, Int.reduceLT, Vc.lenOf, Vc.slSrc, Vc.bdOf, Vc.capsOf, Vc.atK, Vc.mlookV, Vc.unK, Vc.wfK, Vc.bindA, Vc.bindL, Vc.bindS, Vc.bindSs, Vc.bindSV, Vc.bindR, Vc.bindR1, Vc.bindK, Vc.sg, Vc.outS, Vc.outR, Vc.gcSt, Vc.nmOf, Vc.useds, Vc.Res.own, Vc.At.sub, Vc.S1.sub, Vc.SV.sub, Vc.Res.sub, Vc.endG, Vc.endP, Vc.keepG, Vc.endRs, Vc.endR1, Vc.frS, Vc.Kd.sz, Nat.reduceSub, ↓reduceIte, reduceCtorEq, Nat.reduceEqDiff, Nat.reduceAdd, Nat.reduceMul, Nat.reduceLeDiff, Nat.reduceLT, Nat.reduceBEq, Nat.reduceBNe, implies_true, Vc.lemL, F_link_Link_2.rs, F_link_Link_2.res, hown, hI2]) | (with_reducible refine T.seq ?_) | (with_reducible refine T.block ?_) | (with_reducible assumption) | (with_reducible refine And.intro ?_ ?_) | (intro h; first | (exfalso; omega) | exact absurd (Eq.trans (Eq.symm h) (by assumption : _ = false)) (by decide) | exact absurd (Eq.trans (Eq.symm h) (by assumption : _ = true)) (by decide) | skip))
        all_goals first | omega | skip
        · unfold knOf; rw [if_pos hown, hI]
        · exact ⟨rfl, ⟨rfl, ⟨rfl, by simp, Link21_ok _ _ _ s rfl⟩, trivial⟩, List.nodup_nil⟩
      | false =>
        have hd : (g s).getD (Kd.dflt (.int .i64)) = (g s).getD 0 := rfl
        repeat' (first | ((first | (with_reducible refine T.regs ?_) | (with_reducible refine T.cond ?_) | (with_reducible refine T.reg ?_) | (with_reducible refine T.ret ?_) | (with_reducible refine T.exit ?_) | (with_reducible refine T.skip ?_) | ((with_reducible refine T.dregs ?_ ?_); exact mix) | ((with_reducible refine T.dreg ?_ ?_); exact mix) | ((with_reducible refine T.dregts ?_ ?_); exact mix) | ((with_reducible refine T.dregt ?_ ?_); exact mix) | ((with_reducible refine T.danys ?_ ?_); exact mix) | ((with_reducible refine T.dany ?_ ?_); exact mix) | ((with_reducible apply CallVC.rd (local_any s hs1)); (focus ((repeat' (first | exact rfl | exact trivial | refine And.intro ?_ ?_ | (simp [Vc.SV.bd, Vc.S1.bd, Vc.At.bd, Vc.bdAll, Vc.patBd, Vc.Ins.cells, Vc.Ln.cells]; done))); done))) | ((with_reducible apply GCallVC.rd (local_any s hs1)); (focus ((repeat' (first | exact rfl | exact trivial | refine And.intro ?_ ?_ | (simp [Vc.SV.bd, Vc.S1.bd, Vc.At.bd, Vc.bdAll, Vc.patBd, Vc.Ins.cells, Vc.Ln.cells]; done))); done)))); simp only [Vc.ex_nil, Vc.ex_none, Vc.ex_some, Vc.exK, Vc.exD_done, Vc.exD_stop, Vc.exD_none, Vc.exD_some, Vc.exD_alt, Vc.exDK, Vc.subR, Vc.exh_nil, Vc.exh_none, Vc.exh_some, Vc.exq_nil, Vc.exq_none, Vc.exq_some, Vc.exqK, Vc.afterK, Vc.putK, Vc.ev, Vc.st, Vc.stq, Vc.gst, Vc.gstq, Vc.St.rd, Vc.St.get, Vc.St.put, Vc.St.find, Vc.look, Vc.St.new, Vc.gdc, Vc.ldCells, Vc.binAt, Vc.intOp, Vc.strOp, Vc.unAt, Vc.mergeAt, Vc.rdParts, Vc.rdAll, Vc.putAt, Vc.S1.cells, Vc.upd, Vc.del, Vc.appended, Vc.noV, Vc.Kd.enc, Vc.Kd.dec, Vc.Ins.cells, Vc.Ln.cells, Vc.castL, Vc.condVC, Vc.thenQ, Vc.blockQ, Vc.retQ, Vc.rvs, Vc.outV, Vc.argSlots, Vc.argS, Vc.argR, Vc.argN, Vc.patS, Vc.patR, Vc.patN, Vc.isRow, Vc.endV, Vc.endRow, Vc.endRow1, Vc.appended0, Vc.eqKs, Vc.eqAt, Vc.bdAll, Vc.SV.bd, Vc.S1.bd, Vc.At.bd, Value.oneCell', Int.reduceEq, Int.reduceNeg, Int.reduceLE, Int.reduceLT, Vc.lenOf, Vc.slSrc, Vc.bdOf, Vc.capsOf, Vc.atK, Vc.mlookV, Vc.unK, Vc.wfK, Vc.bindA, Vc.bindL, Vc.bindS, Vc.bindSs, Vc.bindSV, Vc.bindR, Vc.bindR1, Vc.bindK, Vc.sg, Vc.outS, Vc.outR, Vc.gcSt, Vc.nmOf, Vc.useds, Vc.Res.own, Vc.At.sub, Vc.S1.sub, Vc.SV.sub, Vc.Res.sub, Vc.endG, Vc.endP, Vc.keepG, Vc.endRs, Vc.endR1, Vc.frS, Vc.Kd.sz, Nat.reduceSub, ↓reduceIte, reduceCtorEq, Nat.reduceEqDiff, Nat.reduceAdd, Nat.reduceMul, Nat.reduceLeDiff, Nat.reduceLT, Nat.reduceBEq, Nat.reduceBNe, implies_true, Vc.lemL, F_link_Link_2.rs, F_link_Link_2.res, hown, hd]) | (with_reducible refine T.seq ?_) | (with_reducible refine T.block ?_) | (with_reducible assumption) | (with_reducible refine And.intro ?_ ?_) | (intro h; first | (exfalso; omega) | exact absurd (Eq.trans (Eq.symm h) (by assumption : _ = false)) (by decide) | exact absurd (Eq.trans (Eq.symm h) (by assumption : _ = true)) (by decide) | skip))
        all_goals first | omega | skip
        unfold knOf; rw [if_neg (by rw [hown]; decide)]
    · cases hr
  · cases hr

/-! ### plain laws of the first part -/
def sizeL : List Ln → Int
  | [] => 0
  | x :: l => longL x + sizeL l
def labelsL (l : List Ln) : List (List UInt8) := (l.filter fun x => decide (x.label ≠ [])).map Ln.label
theorem spotsL_end : ∀ (l : List Ln) (k : Nat) (a : Int) (seen : List (List UInt8)) (acc : List Spot), (spotsL l k a seen acc).2.2.1 = 0 → (spotsL l k a seen acc).2.1 = a + sizeL l ∧ (spotsL l k a seen acc).1.map Spot.name = acc.map Spot.name ++ labelsL l
  | [], k, a, seen, acc, h => by simp [spotsL, sizeL, labelsL]
  | x :: l, k, a, seen, acc, h => by
    unfold spotsL at h ⊢
    split at h
    · rename_i h1; exact absurd h h1
    · rename_i h1
      rw [if_neg h1]
      split at h
      · rename_i hl
        rw [if_pos hl]
        split at h
        · exact absurd h (by simp)
        · rename_i hs
          rw [if_neg hs]
          obtain ⟨g1, g2⟩ := spotsL_end l _ _ _ _ h
          refine ⟨by rw [g1, sizeL, longL_label hl]; omega, ?_⟩
          rw [g2]; simp [labelsL, hl]
      · rename_i hl
        rw [if_neg hl]
        split at h
        · exact absurd h (by simp)
        · rename_i hs
          rw [if_neg hs]
          obtain ⟨g1, g2⟩ := spotsL_end l _ _ _ _ h
          refine ⟨by rw [g1, sizeL]; omega, ?_⟩
          rw [g2]
          have hl' : x.label = [] := by simpa using hl
          simp [labelsL, hl']
theorem spots_end {l : List Ln} {a : Int} (h : (spotsS l a).2.2.1 = 0) : (spotsS l a).2.1 = a + sizeL l ∧ (spotsS l a).1.map Spot.name = labelsL l := by
  have := spotsL_end l 0 a [] [] h
  simpa [spotsS] using this
theorem any_names (sp : List Spot) (s : List UInt8) : sp.any (fun y => decide (y.name = s)) = decide (s ∈ sp.map Spot.name) := by
  rw [Bool.eq_iff_iff]; simp

@[reducible] def Units : Type := List (List UInt8 × List Ln)
def linesOf (l : Units) (u : Int) : List Ln := (l.getD u.toNat unt0).2
/-- where the units' words begin -/
def offs (l : Units) : List Int → Nat → Int
  | [], _ => 0
  | _, 0 => 0
  | u :: us, k + 1 => sizeL (linesOf l u) + offs l us k
theorem offs_append (l : Units) : ∀ (us vs : List Int) (k : Nat), k ≤ us.length → offs l (us ++ vs) k = offs l us k
  | [], vs, k, h => by
    have : k = 0 := by simpa using h
    subst this
    cases vs <;> rfl
  | u :: us, vs, 0, h => rfl
  | u :: us, vs, k + 1, h => by simp only [List.cons_append, offs, offs_append l us vs k (by simpa using h)]
theorem offs_succ (l : Units) : ∀ (us : List Int) (k : Nat), k < us.length → offs l us (k + 1) = offs l us k + sizeL (linesOf l (us.getD k 0))
  | u :: us, 0, h => by cases us <;> simp [offs]
  | u :: us, k + 1, h => by
    have := offs_succ l us k (by simpa using h)
    have e1 : offs l (u :: us) (k + 1 + 1) = sizeL (linesOf l u) + offs l us (k + 1) := rfl
    have e2 : offs l (u :: us) (k + 1) = sizeL (linesOf l u) + offs l us k := rfl
    rw [e1, e2, this]
    simp only [List.getD_cons_succ]; omega

/-- unit number k of the image is in order -/
def GoodU (l : Units) (own : Own) (us : List Int) (k : Nat) : Prop :=
  (spotsS (linesOf l (us.getD k 0)) (offs l us k)).2.2.1 = 0 ∧ ∀ x ∈ linesOf l (us.getD k 0), x.ref ≠ [] → if ownS x.ref = true then x.ref ∈ labelsL (linesOf l (us.getD k 0)) else ∃ v, own x.ref = some v ∧ v ∈ us

theorem refsL_prefix {own : Own} {u : Int} {sp : List Spot} : ∀ {ls : List Ln} {us us' : List Int}, refsL own u sp ls us = some us' → ∃ vs, us' = us ++ vs
  | [], us, us', h => by cases h; exact ⟨[], by simp⟩
  | x :: ls, us, us', h => by
    simp only [refsL] at h
    split at h
    · exact refsL_prefix h
    · split at h
      · cases h
      · split at h
        · exact refsL_prefix h
        · obtain ⟨vs, rfl⟩ := refsL_prefix h
          exact ⟨[_] ++ vs, List.append_assoc _ _ _⟩
theorem refsL_all {own : Own} {u : Int} {sp : List Spot} : ∀ {ls : List Ln} {us us' : List Int}, refsL own u sp ls us = some us' → ∀ x ∈ ls, x.ref ≠ [] → ∃ v, refOf own u sp x.ref = some v ∧ v ∈ us'
  | y :: ls, us, us', h, x, hx, hr => by
    simp only [refsL] at h
    by_cases hy : y.ref = []
    · rw [if_pos hy] at h
      rcases List.mem_cons.1 hx with rfl | hx
      · exact absurd hy hr
      · exact refsL_all h x hx hr
    · rw [if_neg hy] at h
      split at h
      · cases h
      · rename_i v hv
        rcases List.mem_cons.1 hx with rfl | hx
        · refine ⟨v, hv, ?_⟩
          obtain ⟨vs, rfl⟩ := refsL_prefix h
          split
          · exact List.mem_append_left _ (by assumption)
          · simp
        · exact refsL_all h x hx hr

theorem GoodU.mono {l : Units} {own : Own} {us : List Int} {k : Nat} (h : GoodU l own us k) (hk : k < us.length) (vs : List Int) : GoodU l own (us ++ vs) k := by
  unfold GoodU at h ⊢
  have e1 : (us ++ vs).getD k 0 = us.getD k 0 := by simp [List.getD, List.getElem?_append_left hk]
  rw [e1, offs_append l us vs k (by omega)]
  refine ⟨h.1, fun x hx hr => ?_⟩
  have := h.2 x hx hr
  split
  · rename_i ho; rwa [if_pos ho] at this
  · rename_i ho
    rw [if_neg ho] at this
    obtain ⟨v, h1, h2⟩ := this
    exact ⟨v, h1, List.mem_append_left _ h2⟩

theorem lk1_good {l : Units} {own : Own} : ∀ (f i : Nat) (us : List Int) (at_ : Int) (g : Own) (sps : List Spot), (lk1 l own f i us at_ g sps).2.1 = 0 → i ≤ us.length → at_ = offs l us i → (∀ k, k < i → GoodU l own us k) →
    (∀ k, k < (lk1 l own f i us at_ g sps).1.1.length → GoodU l own (lk1 l own f i us at_ g sps).1.1 k) ∧ ∃ vs, (lk1 l own f i us at_ g sps).1.1 = us ++ vs
  | 0, i, us, at_, g, sps, h, _, _, _ => by simp [lk1] at h
  | f + 1, i, us, at_, g, sps, h, hi, ha, hg => by
    unfold lk1 at h ⊢
    split at h
    · rename_i h1
      rw [if_pos h1]
      exact ⟨fun k hk => hg k (by simp only at hk; omega), [], by simp⟩
    · rename_i h1
      rw [if_neg h1]
      split at h
      · rename_i h2; exact absurd h h2
      · rename_i h2
        rw [if_neg h2]
        split at h
        · simp at h
        · rename_i us' hus'
          obtain ⟨vs, rfl⟩ := refsL_prefix hus'
          have hlt : i < us.length := by omega
          have hsp : (spotsS (l.getD (us.getD i 0).toNat unt0).2 at_).2.2.1 = 0 := by simpa using h2
          obtain ⟨hend, hnm⟩ := spots_end hsp
          have hgi : GoodU l own (us ++ vs) i := by
            unfold GoodU
            have e1 : (us ++ vs).getD i 0 = us.getD i 0 := by simp [List.getD, List.getElem?_append_left hlt]
            rw [e1, offs_append l us vs i (by omega), ← ha]
            refine ⟨hsp, fun x hx hr => ?_⟩
            obtain ⟨v, h3, h4⟩ := refsL_all hus' x hx hr
            unfold refOf at h3
            split
            · rename_i ho
              rw [if_pos ho] at h3
              split at h3
              · rename_i h5
                rw [any_names, hnm] at h5
                simpa [linesOf] using h5
              · cases h3
            · rename_i ho
              rw [if_neg ho] at h3
              exact ⟨v, h3, h4⟩
          obtain ⟨r1, vs2, r2⟩ := lk1_good f (i + 1) (us ++ vs) _ _ _ h (by simp; omega) (by
            rw [hend, offs_append l us vs (i + 1) (by omega), offs_succ l us i hlt, ha]; rfl) (fun k hk => by
              by_cases hki : k < i
              · exact (hg k hki).mono (by omega) vs
              · have : k = i := by omega
                subst this; exact hgi)
          refine ⟨by simpa [hus'] using r1, vs ++ vs2, ?_⟩
          simpa [hus', List.append_assoc] using r2
end Go.Proofs.Ytibkcfpcfbodaaa
