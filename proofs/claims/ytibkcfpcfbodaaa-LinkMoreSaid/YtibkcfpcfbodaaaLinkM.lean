/-
  A part of the proofs of this seat's laws: a step on the way. It has no conditions of its own.
-/
import Derived.Test.YtibkcfpcfbodaaaLinkSame
import Derived.Test.YtibkcfpcfbodaaaLinkU
namespace Go.Proofs.Ytibkcfpcfbodaaa
open Go.RowKit Vc
set_option linter.unusedVariables false
set_option linter.unusedSimpArgs false
attribute [local irreducible] T CallVC QCallVC Ent RdC RwC Rw1C GCallVC GQCallVC

theorem lk2_len {l : Units} {g : Own} : ∀ (us : List Int) (at_ : Int) (acc : List Int), (lk2 l g us at_ acc).length ≤ acc.length + 65536 * us.length
  | [], _, acc => by simp [lk2]
  | u :: us, at_, acc => by
    simp only [lk2]
    refine Nat.le_trans (lk2_len us _ _) ?_
    have := encS_max (resolveS (knOf g (spotsS (linesOf l u) at_).1) (linesOf l u)).1
    simp only [List.length_append, List.length_cons]
    omega
theorem spotsL_len : ∀ (l : List Ln) (k : Nat) (at_ : Int) (seen : List (List UInt8)) (acc : List Spot), (spotsL l k at_ seen acc).1.length ≤ acc.length + l.length
  | [], _, _, _, acc => by simp [spotsL]
  | x :: l, k, at_, seen, acc => by
    simp only [spotsL]
    split
    · simp
    · split
      · split
        · simp
        · have := spotsL_len l (k + 1) at_ (x.label :: seen) (acc ++ [⟨x.label, at_⟩])
          simp only [List.length_append, List.length_cons, List.length_nil] at this ⊢
          omega
      · split
        · simp
        · have := spotsL_len l (k + 1) (at_ + longL x) seen acc
          simp only [List.length_cons]; omega
theorem lk1_len {l : Units} {own : Own} (hu : ∀ u ∈ l, u.2.length ≤ 40000) : ∀ (f i : Nat) (us : List Int) (at_ : Int) (g : Own) (sps : List Spot), (lk1 l own f i us at_ g sps).1.2.2.length ≤ sps.length + 40000 * f
  | 0, _, _, _, _, _ => by simp [lk1]
  | f + 1, i, us, at_, g, sps => by
    rw [lk1_succ]
    split
    · simp only; omega
    · split
      · simp
      · split
        · simp
        · refine Nat.le_trans (lk1_len hu f _ _ _ _ _) ?_
          have h1 := spotsL_len (linesOf l (us.getD i 0)) 0 at_ [] []
          have h2 : (visF (spotsS (linesOf l (us.getD i 0)) at_).1).length ≤ (spotsS (linesOf l (us.getD i 0)) at_).1.length := List.length_filter_le ..
          have h3 : (linesOf l (us.getD i 0)).length ≤ 40000 := by
            unfold linesOf
            generalize (us.getD i 0).toNat = q
            by_cases hl : q < l.length
            · exact hu _ (by rw [List.getD_eq_getElem?_getD, List.getElem?_eq_getElem hl]; exact List.getElem_mem hl)
            · rw [List.getD_eq_getElem?_getD, List.getElem?_eq_none (by omega)]; simp [unt0]
          unfold spotsS at h2
          simp only [List.length_nil, Nat.zero_add] at h1
          rw [List.length_append]
          unfold spotsS
          omega
theorem image_max {l : Units} {entry : List UInt8} (h : (linkS l entry).2.1 = 0) : l.length ≤ 400 ∧ (linkS l entry).1.1.length ≤ 9223372036854775807 ∧ (linkS l entry).1.2.1.length ≤ 9223372036854775807 ∧ (linkS l entry).1.2.2.length ≤ 9223372036854775807 := by
  obtain ⟨hc, first, hf, hz, e⟩ := linkS_ok h
  obtain ⟨hl, hu, ho⟩ := checkedS_ok hc
  obtain ⟨_, hr, hn, _⟩ := image_units h
  have hul := nodup_range _ _ ⟨hn, hr⟩
  rw [e] at hul ⊢
  simp only at hul ⊢
  refine ⟨hl, ?_, by omega, ?_⟩
  · refine Nat.le_trans (lk2_len _ _ _) ?_
    simp only [List.length_nil]; omega
  · refine Nat.le_trans (lk1_len (fun u h => (hu u h).1) _ _ _ _ _ _) ?_
    simp

set_option maxHeartbeats 16000000 in
theorem LinkMore_gc (l : Units) (entry nm : List UInt8) (ls : List Ln) (hf : Fits l) (hen : entry.length ≤ 9223372036854775807) (hls : ls.length ≤ 9223372036854775807) :
    GC Try.prog 5 [.a (.ref 0), .a (.str entry), .agg [.str nm, .ref 1]] [(1, .ro .line ls), (0, .rou l)] 2 [] (.one (.a (.bool true))) [] 2 := by
  refine F_pairlegallaw5_LinkMore.fn.gc (by simp) (by simp [Vc.GcWf, Vc.allS, Vc.allR, Vc.outAll, Vc.keepAll, Vc.S1.okN, Vc.At.okN, Vc.SV.okN, Vc.Res.okN, Vc.Res.outOk, Vc.look, Vc.Res.own, Value.oneCell']) fun w X fr => ?_
  have hL := Link_gc l entry hf hen
  by_cases he : (linkS l entry).2.1 = 0
  · obtain ⟨e1, e2⟩ := lk_ok he
    obtain ⟨hl, m1, m2, m3⟩ := image_max he
    have hL2 := Link_gc (l ++ [(nm, ls)]) entry ⟨by simp; omega, fun u hu => by
      rcases List.mem_append.1 hu with h | h
      · exact hf.2 u h
      · simp only [List.mem_singleton] at h; subst h; exact hls⟩ hen
    by_cases he2 : (linkS (l ++ [(nm, ls)]) entry).2.1 = 0
    · obtain ⟨e3, e4⟩ := lk_ok he2
      have hlaw := more_law he he2
      rw [e1, e2] at hL
      rw [e3, e4, hlaw] at hL2
      generalize (linkS l entry).1.1 = ws at *
      generalize (linkS l entry).1.2.1 = us at *
      generalize (linkS l entry).1.2.2 = sps at *
      have hS := ref5Same_eq ws us sps m1 m2 m3
      repeat' (first | ((first | (with_reducible refine T.regs ?_) | (with_reducible refine T.cond ?_) | (with_reducible refine T.reg ?_) | (with_reducible refine T.ret ?_) | (with_reducible refine T.exit ?_) | (with_reducible refine T.skip ?_) | ((with_reducible refine T.dregs ?_ ?_); exact mix) | ((with_reducible refine T.dreg ?_ ?_); exact mix) | ((with_reducible refine T.dregts ?_ ?_); exact mix) | ((with_reducible refine T.dregt ?_ ?_); exact mix) | ((with_reducible refine T.danys ?_ ?_); exact mix) | ((with_reducible refine T.dany ?_ ?_); exact mix) | ((with_reducible apply CallVC.rd (linkAlive_any)); (focus ((repeat' (first | exact rfl | exact trivial | refine And.intro ?_ ?_ | (simp [Vc.SV.bd, Vc.S1.bd, Vc.At.bd, Vc.bdAll, Vc.patBd, Vc.Ins.cells, Vc.Ln.cells]; done))); done))) | ((with_reducible apply GCallVC.rd (linkAlive_any)); (focus ((repeat' (first | exact rfl | exact trivial | refine And.intro ?_ ?_ | (simp [Vc.SV.bd, Vc.S1.bd, Vc.At.bd, Vc.bdAll, Vc.patBd, Vc.Ins.cells, Vc.Ln.cells]; done))); done))) | ((with_reducible refine CallVC.gc (hL) ?_ ?_); (focus ((simp [Vc.gcPre, Vc.mtRs, Vc.mtR, Vc.roA, Vc.roM, Vc.rocM, Vc.romM, Vc.rouM, Vc.litU, Vc.ownM, Vc.fnM, Vc.castL, Vc.St.find, Vc.look, Vc.del, Vc.useds, Vc.Res.own, Vc.sg, Vc.bindA, Vc.bindL, Vc.bindS, Vc.bindSs, Vc.bindR, Vc.bindR1, Vc.At.sub, Vc.S1.sub, Vc.Res.sub, Vc.Kd.enc, Vc.Ins.cells, Vc.Ln.cells, Value.oneCell', Vc.nilP, List.nodup_cons]); done))) | ((with_reducible refine CallVC.gc (hL2) ?_ ?_); (focus ((simp [Vc.gcPre, Vc.mtRs, Vc.mtR, Vc.roA, Vc.roM, Vc.rocM, Vc.romM, Vc.rouM, Vc.litU, Vc.ownM, Vc.fnM, Vc.castL, Vc.St.find, Vc.look, Vc.del, Vc.useds, Vc.Res.own, Vc.sg, Vc.bindA, Vc.bindL, Vc.bindS, Vc.bindSs, Vc.bindR, Vc.bindR1, Vc.At.sub, Vc.S1.sub, Vc.Res.sub, Vc.Kd.enc, Vc.Ins.cells, Vc.Ln.cells, Value.oneCell', Vc.nilP, List.nodup_cons]); done))) | ((with_reducible refine CallVC.gc (hS) ?_ ?_); (focus ((simp [Vc.gcPre, Vc.mtRs, Vc.mtR, Vc.roA, Vc.roM, Vc.rocM, Vc.romM, Vc.rouM, Vc.litU, Vc.ownM, Vc.fnM, Vc.castL, Vc.St.find, Vc.look, Vc.del, Vc.useds, Vc.Res.own, Vc.sg, Vc.bindA, Vc.bindL, Vc.bindS, Vc.bindSs, Vc.bindR, Vc.bindR1, Vc.At.sub, Vc.S1.sub, Vc.Res.sub, Vc.Kd.enc, Vc.Ins.cells, Vc.Ln.cells, Value.oneCell', Vc.nilP, List.nodup_cons]))))); simp only [Vc.ex_nil, Vc.ex_none, Vc.ex_some, Vc.exK, Vc.exD_done, Vc.exD_stop, Vc.exD_none, Vc.exD_some, Vc.exD_alt, Vc.exDK, Vc.subR, Vc.exh_nil, Vc.exh_none, Vc.exh_some, Vc.exq_nil, Vc.exq_none, Vc.exq_some, Vc.exqK, Vc.afterK, Vc.putK, Vc.ev, Vc.st, Vc.stq, Vc.gst, Vc.gstq, Vc.St.rd, Vc.St.get, Vc.St.put, Vc.St.find, Vc.look, Vc.St.new, Vc.gdc, Vc.ldCells, Vc.binAt, Vc.intOp, Vc.strOp, Vc.unAt, Vc.mergeAt, Vc.rdParts, Vc.rdAll, Vc.putAt, Vc.S1.cells, Vc.upd, Vc.del, Vc.appended, Vc.noV, Vc.Kd.enc, Vc.Kd.dec, Vc.Ins.cells, Vc.Ln.cells, Vc.castL, Vc.condVC, Vc.thenQ, Vc.blockQ, Vc.retQ, Vc.rvs, Vc.outV, Vc.argSlots, Vc.argS, Vc.argR, Vc.argN, Vc.patS, Vc.patR, Vc.patN, Vc.isRow, Vc.endV, Vc.endRow, Vc.endRow1, Vc.appended0, Vc.unitsOf, Vc.eqKs, Vc.eqAt, Vc.bdAll, Vc.SV.bd, Vc.S1.bd, Vc.At.bd, Value.oneCell', Int.reduceEq, Int.reduceNeg, Int.reduceLE, Int.reduceLT, Vc.lenOf, Vc.slSrc, Vc.bdOf, Vc.capsOf, Vc.atK, Vc.mlookV, Vc.unK, Vc.wfK, Vc.bindA, Vc.bindL, Vc.bindS, Vc.bindSs, Vc.bindSV, Vc.bindR, Vc.bindR1, Vc.bindK, Vc.sg, Vc.outS, Vc.outR, Vc.gcSt, Vc.nmOf, Vc.useds, Vc.Res.own, Vc.At.sub, Vc.S1.sub, Vc.SV.sub, Vc.Res.sub, Vc.endG, Vc.endP, Vc.keepG, Vc.endRs, Vc.endR1, Vc.frS, Vc.Kd.sz, Nat.reduceSub, ↓reduceIte, reduceCtorEq, Nat.reduceEqDiff, Nat.reduceAdd, Nat.reduceMul, Nat.reduceLeDiff, Nat.reduceLT, Nat.reduceBEq, Nat.reduceBNe, implies_true, Vc.lemL, F_pairlegallaw5_LinkMore.rs, F_pairlegallaw5_LinkMore.res]) | (with_reducible refine T.seq ?_) | (with_reducible refine T.block ?_) | (with_reducible assumption) | (with_reducible refine And.intro ?_ ?_) | (intro h; first | (exfalso; omega) | exact absurd (Eq.trans (Eq.symm h) (by assumption : _ = false)) (by decide) | exact absurd (Eq.trans (Eq.symm h) (by assumption : _ = true)) (by decide) | skip))
      all_goals first | omega | skip
    · obtain ⟨e3, e4⟩ := lk_no he2
      rw [e1, e2] at hL
      rw [e3, e4] at hL2
      generalize (linkS l entry).1.1 = ws at *
      generalize (linkS l entry).1.2.1 = us at *
      generalize (linkS l entry).1.2.2 = sps at *
      repeat' (first | ((first | (with_reducible refine T.regs ?_) | (with_reducible refine T.cond ?_) | (with_reducible refine T.reg ?_) | (with_reducible refine T.ret ?_) | (with_reducible refine T.exit ?_) | (with_reducible refine T.skip ?_) | ((with_reducible refine T.dregs ?_ ?_); exact mix) | ((with_reducible refine T.dreg ?_ ?_); exact mix) | ((with_reducible refine T.dregts ?_ ?_); exact mix) | ((with_reducible refine T.dregt ?_ ?_); exact mix) | ((with_reducible refine T.danys ?_ ?_); exact mix) | ((with_reducible refine T.dany ?_ ?_); exact mix) | ((with_reducible apply CallVC.rd (linkAlive_any)); (focus ((repeat' (first | exact rfl | exact trivial | refine And.intro ?_ ?_ | (simp [Vc.SV.bd, Vc.S1.bd, Vc.At.bd, Vc.bdAll, Vc.patBd, Vc.Ins.cells, Vc.Ln.cells]; done))); done))) | ((with_reducible apply GCallVC.rd (linkAlive_any)); (focus ((repeat' (first | exact rfl | exact trivial | refine And.intro ?_ ?_ | (simp [Vc.SV.bd, Vc.S1.bd, Vc.At.bd, Vc.bdAll, Vc.patBd, Vc.Ins.cells, Vc.Ln.cells]; done))); done))) | ((with_reducible refine CallVC.gc (hL) ?_ ?_); (focus ((simp [Vc.gcPre, Vc.mtRs, Vc.mtR, Vc.roA, Vc.roM, Vc.rocM, Vc.romM, Vc.rouM, Vc.litU, Vc.ownM, Vc.fnM, Vc.castL, Vc.St.find, Vc.look, Vc.del, Vc.useds, Vc.Res.own, Vc.sg, Vc.bindA, Vc.bindL, Vc.bindS, Vc.bindSs, Vc.bindR, Vc.bindR1, Vc.At.sub, Vc.S1.sub, Vc.Res.sub, Vc.Kd.enc, Vc.Ins.cells, Vc.Ln.cells, Value.oneCell', Vc.nilP, List.nodup_cons]); done))) | ((with_reducible refine CallVC.gc (hL2) ?_ ?_); (focus ((simp [Vc.gcPre, Vc.mtRs, Vc.mtR, Vc.roA, Vc.roM, Vc.rocM, Vc.romM, Vc.rouM, Vc.litU, Vc.ownM, Vc.fnM, Vc.castL, Vc.St.find, Vc.look, Vc.del, Vc.useds, Vc.Res.own, Vc.sg, Vc.bindA, Vc.bindL, Vc.bindS, Vc.bindSs, Vc.bindR, Vc.bindR1, Vc.At.sub, Vc.S1.sub, Vc.Res.sub, Vc.Kd.enc, Vc.Ins.cells, Vc.Ln.cells, Value.oneCell', Vc.nilP, List.nodup_cons]); done)))); simp only [Vc.ex_nil, Vc.ex_none, Vc.ex_some, Vc.exK, Vc.exD_done, Vc.exD_stop, Vc.exD_none, Vc.exD_some, Vc.exD_alt, Vc.exDK, Vc.subR, Vc.exh_nil, Vc.exh_none, Vc.exh_some, Vc.exq_nil, Vc.exq_none, Vc.exq_some, Vc.exqK, Vc.afterK, Vc.putK, Vc.ev, Vc.st, Vc.stq, Vc.gst, Vc.gstq, Vc.St.rd, Vc.St.get, Vc.St.put, Vc.St.find, Vc.look, Vc.St.new, Vc.gdc, Vc.ldCells, Vc.binAt, Vc.intOp, Vc.strOp, Vc.unAt, Vc.mergeAt, Vc.rdParts, Vc.rdAll, Vc.putAt, Vc.S1.cells, Vc.upd, Vc.del, Vc.appended, Vc.noV, Vc.Kd.enc, Vc.Kd.dec, Vc.Ins.cells, Vc.Ln.cells, Vc.castL, Vc.condVC, Vc.thenQ, Vc.blockQ, Vc.retQ, Vc.rvs, Vc.outV, Vc.argSlots, Vc.argS, Vc.argR, Vc.argN, Vc.patS, Vc.patR, Vc.patN, Vc.isRow, Vc.endV, Vc.endRow, Vc.endRow1, Vc.appended0, Vc.unitsOf, Vc.eqKs, Vc.eqAt, Vc.bdAll, Vc.SV.bd, Vc.S1.bd, Vc.At.bd, Value.oneCell', Int.reduceEq, Int.reduceNeg, Int.reduceLE, Int.reduceLT, Vc.lenOf, Vc.slSrc, Vc.bdOf, Vc.capsOf, Vc.atK, Vc.mlookV, Vc.unK, Vc.wfK, Vc.bindA, Vc.bindL, Vc.bindS, Vc.bindSs, Vc.bindSV, Vc.bindR, Vc.bindR1, Vc.bindK, Vc.sg, Vc.outS, Vc.outR, Vc.gcSt, Vc.nmOf, Vc.useds, Vc.Res.own, Vc.At.sub, Vc.S1.sub, Vc.SV.sub, Vc.Res.sub, Vc.endG, Vc.endP, Vc.keepG, Vc.endRs, Vc.endR1, Vc.frS, Vc.Kd.sz, Nat.reduceSub, ↓reduceIte, reduceCtorEq, Nat.reduceEqDiff, Nat.reduceAdd, Nat.reduceMul, Nat.reduceLeDiff, Nat.reduceLT, Nat.reduceBEq, Nat.reduceBNe, implies_true, Vc.lemL, F_pairlegallaw5_LinkMore.rs, F_pairlegallaw5_LinkMore.res, he2]) | (with_reducible refine T.seq ?_) | (with_reducible refine T.block ?_) | (with_reducible assumption) | (with_reducible refine And.intro ?_ ?_) | (intro h; first | (exfalso; omega) | exact absurd (Eq.trans (Eq.symm h) (by assumption : _ = false)) (by decide) | exact absurd (Eq.trans (Eq.symm h) (by assumption : _ = true)) (by decide) | skip))
      all_goals first | omega | skip
  · obtain ⟨e1, e2⟩ := lk_no he
    rw [e1, e2] at hL
    repeat' (first | ((first | (with_reducible refine T.regs ?_) | (with_reducible refine T.cond ?_) | (with_reducible refine T.reg ?_) | (with_reducible refine T.ret ?_) | (with_reducible refine T.exit ?_) | (with_reducible refine T.skip ?_) | ((with_reducible refine T.dregs ?_ ?_); exact mix) | ((with_reducible refine T.dreg ?_ ?_); exact mix) | ((with_reducible refine T.dregts ?_ ?_); exact mix) | ((with_reducible refine T.dregt ?_ ?_); exact mix) | ((with_reducible refine T.danys ?_ ?_); exact mix) | ((with_reducible refine T.dany ?_ ?_); exact mix) | ((with_reducible apply CallVC.rd (linkAlive_any)); (focus ((repeat' (first | exact rfl | exact trivial | refine And.intro ?_ ?_ | (simp [Vc.SV.bd, Vc.S1.bd, Vc.At.bd, Vc.bdAll, Vc.patBd, Vc.Ins.cells, Vc.Ln.cells]; done))); done))) | ((with_reducible apply GCallVC.rd (linkAlive_any)); (focus ((repeat' (first | exact rfl | exact trivial | refine And.intro ?_ ?_ | (simp [Vc.SV.bd, Vc.S1.bd, Vc.At.bd, Vc.bdAll, Vc.patBd, Vc.Ins.cells, Vc.Ln.cells]; done))); done))) | ((with_reducible refine CallVC.gc (hL) ?_ ?_); (focus ((simp [Vc.gcPre, Vc.mtRs, Vc.mtR, Vc.roA, Vc.roM, Vc.rocM, Vc.romM, Vc.rouM, Vc.litU, Vc.ownM, Vc.fnM, Vc.castL, Vc.St.find, Vc.look, Vc.del, Vc.useds, Vc.Res.own, Vc.sg, Vc.bindA, Vc.bindL, Vc.bindS, Vc.bindSs, Vc.bindR, Vc.bindR1, Vc.At.sub, Vc.S1.sub, Vc.Res.sub, Vc.Kd.enc, Vc.Ins.cells, Vc.Ln.cells, Value.oneCell', Vc.nilP, List.nodup_cons]))))); simp only [Vc.ex_nil, Vc.ex_none, Vc.ex_some, Vc.exK, Vc.exD_done, Vc.exD_stop, Vc.exD_none, Vc.exD_some, Vc.exD_alt, Vc.exDK, Vc.subR, Vc.exh_nil, Vc.exh_none, Vc.exh_some, Vc.exq_nil, Vc.exq_none, Vc.exq_some, Vc.exqK, Vc.afterK, Vc.putK, Vc.ev, Vc.st, Vc.stq, Vc.gst, Vc.gstq, Vc.St.rd, Vc.St.get, Vc.St.put, Vc.St.find, Vc.look, Vc.St.new, Vc.gdc, Vc.ldCells, Vc.binAt, Vc.intOp, Vc.strOp, Vc.unAt, Vc.mergeAt, Vc.rdParts, Vc.rdAll, Vc.putAt, Vc.S1.cells, Vc.upd, Vc.del, Vc.appended, Vc.noV, Vc.Kd.enc, Vc.Kd.dec, Vc.Ins.cells, Vc.Ln.cells, Vc.castL, Vc.condVC, Vc.thenQ, Vc.blockQ, Vc.retQ, Vc.rvs, Vc.outV, Vc.argSlots, Vc.argS, Vc.argR, Vc.argN, Vc.patS, Vc.patR, Vc.patN, Vc.isRow, Vc.endV, Vc.endRow, Vc.endRow1, Vc.appended0, Vc.unitsOf, Vc.eqKs, Vc.eqAt, Vc.bdAll, Vc.SV.bd, Vc.S1.bd, Vc.At.bd, Value.oneCell', Int.reduceEq, Int.reduceNeg, Int.reduceLE, Int.reduceLT, Vc.lenOf, Vc.slSrc, Vc.bdOf, Vc.capsOf, Vc.atK, Vc.mlookV, Vc.unK, Vc.wfK, Vc.bindA, Vc.bindL, Vc.bindS, Vc.bindSs, Vc.bindSV, Vc.bindR, Vc.bindR1, Vc.bindK, Vc.sg, Vc.outS, Vc.outR, Vc.gcSt, Vc.nmOf, Vc.useds, Vc.Res.own, Vc.At.sub, Vc.S1.sub, Vc.SV.sub, Vc.Res.sub, Vc.endG, Vc.endP, Vc.keepG, Vc.endRs, Vc.endR1, Vc.frS, Vc.Kd.sz, Nat.reduceSub, ↓reduceIte, reduceCtorEq, Nat.reduceEqDiff, Nat.reduceAdd, Nat.reduceMul, Nat.reduceLeDiff, Nat.reduceLT, Nat.reduceBEq, Nat.reduceBNe, implies_true, Vc.lemL, F_pairlegallaw5_LinkMore.rs, F_pairlegallaw5_LinkMore.res, he]) | (with_reducible refine T.seq ?_) | (with_reducible refine T.block ?_) | (with_reducible assumption) | (with_reducible refine And.intro ?_ ?_) | (intro h; first | (exfalso; omega) | exact absurd (Eq.trans (Eq.symm h) (by assumption : _ = false)) (by decide) | exact absurd (Eq.trans (Eq.symm h) (by assumption : _ = true)) (by decide) | skip))
    all_goals first | omega | skip
end Go.Proofs.Ytibkcfpcfbodaaa
