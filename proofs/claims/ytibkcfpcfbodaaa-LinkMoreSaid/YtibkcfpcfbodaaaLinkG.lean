/-
  A part of the proofs of this seat's laws: a step on the way. It has no conditions of its own.
-/
import Derived.Test.YtibkcfpcfbodaaaLinkF
import Derived.Test.YtibkcfpcfbodaaaAsmE
import Derived.Test.YtibkcfpcfbodaaaRefS
namespace Go.Proofs.Ytibkcfpcfbodaaa
open Go.RowKit Vc
set_option linter.unusedVariables false
set_option linter.unusedSimpArgs false
attribute [local irreducible] T CallVC QCallVC Ent RdC RwC Rw1C GCallVC GQCallVC

def aliveU : Units := [([], [⟨[98], ⟨0, 0, 0, 0⟩, []⟩, ⟨[], ⟨27, 0, 0, 0⟩, []⟩]), ([], [⟨[97], ⟨0, 0, 0, 0⟩, []⟩, ⟨[], ⟨26, 0, 0, 0⟩, [98]⟩])]
theorem alive_link : ∃ a b c d, linkS aliveU [97] = (([a, 2, b], [1, 0], [c, d]), 0, 0) := ⟨_, _, _, _, by rfl⟩

set_option maxHeartbeats 4000000 in
theorem linkAlive_any : RdC Try.prog 11 [] (.one (.a (.bool true))) := by
  refine F_pairlegallaw5_alive.fn.rd (by simp) (by repeat' (first | exact rfl | exact trivial | refine And.intro ?_ ?_ | (simp [Vc.SV.bd, Vc.S1.bd, Vc.At.bd, Vc.bdAll, Vc.patBd, Vc.Ins.cells, Vc.Ln.cells]; done))) (by simp [SV.bd, S1.bd, At.bd]) fun w => ?_
  have hL := Link_gc aliveU [97] ⟨by decide, by decide⟩ (by decide)
  obtain ⟨a, b, c, d, e⟩ := alive_link
  obtain ⟨e1, e2⟩ := lk_ok (r := linkS aliveU [97]) (by rw [e])
  rw [e1, e2, e] at hL
  unfold aliveU at hL
  repeat' (first | ((first | (with_reducible refine T.regs ?_) | (with_reducible refine T.cond ?_) | (with_reducible refine T.reg ?_) | (with_reducible refine T.ret ?_) | (with_reducible refine T.exit ?_) | (with_reducible refine T.skip ?_) | ((with_reducible refine T.dregs ?_ ?_); exact mix) | ((with_reducible refine T.dreg ?_ ?_); exact mix) | ((with_reducible refine T.dregts ?_ ?_); exact mix) | ((with_reducible refine T.dregt ?_ ?_); exact mix) | ((with_reducible refine T.danys ?_ ?_); exact mix) | ((with_reducible refine T.dany ?_ ?_); exact mix) | ((with_reducible refine CallVC.gc (hL) ?_ ?_); (focus ((simp [Vc.gcPre, Vc.mtRs, Vc.mtR, Vc.roA, Vc.roM, Vc.rocM, Vc.romM, Vc.rouM, Vc.litU, Vc.ownM, Vc.fnM, Vc.castL, Vc.St.find, Vc.look, Vc.del, Vc.useds, Vc.Res.own, Vc.sg, Vc.bindA, Vc.bindL, Vc.bindS, Vc.bindSs, Vc.bindR, Vc.bindR1, Vc.At.sub, Vc.S1.sub, Vc.Res.sub, Vc.Kd.enc, Vc.Ins.cells, Vc.Ln.cells, Value.oneCell', Vc.nilP, List.nodup_cons]))))); simp only [Vc.ex_nil, Vc.ex_none, Vc.ex_some, Vc.exK, Vc.exD_done, Vc.exD_stop, Vc.exD_none, Vc.exD_some, Vc.exD_alt, Vc.exDK, Vc.subR, Vc.exh_nil, Vc.exh_none, Vc.exh_some, Vc.exq_nil, Vc.exq_none, Vc.exq_some, Vc.exqK, Vc.afterK, Vc.putK, Vc.ev, Vc.st, Vc.stq, Vc.gst, Vc.gstq, Vc.St.rd, Vc.St.get, Vc.St.put, Vc.St.find, Vc.look, Vc.St.new, Vc.gdc, Vc.ldCells, Vc.binAt, Vc.intOp, Vc.strOp, Vc.unAt, Vc.mergeAt, Vc.rdParts, Vc.rdAll, Vc.putAt, Vc.S1.cells, Vc.upd, Vc.del, Vc.appended, Vc.noV, Vc.Kd.enc, Vc.Kd.dec, Vc.Ins.cells, Vc.Ln.cells, Vc.castL, Vc.condVC, Vc.thenQ, Vc.blockQ, Vc.retQ, Vc.rvs, Vc.outV, Vc.argSlots, Vc.argS, Vc.argR, Vc.argN, Vc.patS, Vc.patR, Vc.patN, Vc.isRow, Vc.endV, Vc.endRow, Vc.endRow1, Vc.appended0, Vc.eqKs, Vc.eqAt, Vc.bdAll, Vc.SV.bd, Vc.S1.bd, Vc.At.bd, Value.oneCell', Int.reduceEq, Int.reduceNeg, Int.reduceLE, Int.reduceLT, Vc.lenOf, Vc.slSrc, Vc.bdOf, Vc.capsOf, Vc.atK, Vc.mlookV, Vc.unK, Vc.wfK, Vc.bindA, Vc.bindL, Vc.bindS, Vc.bindSs, Vc.bindSV, Vc.bindR, Vc.bindR1, Vc.bindK, Vc.sg, Vc.outS, Vc.outR, Vc.gcSt, Vc.nmOf, Vc.useds, Vc.Res.own, Vc.At.sub, Vc.S1.sub, Vc.SV.sub, Vc.Res.sub, Vc.endG, Vc.endP, Vc.keepG, Vc.endRs, Vc.endR1, Vc.frS, Vc.Kd.sz, Nat.reduceSub, ↓reduceIte, reduceCtorEq, Nat.reduceEqDiff, Nat.reduceAdd, Nat.reduceMul, Nat.reduceLeDiff, Nat.reduceLT, Nat.reduceBEq, Nat.reduceBNe, implies_true, Vc.lemL, F_pairlegallaw5_alive.rs, F_pairlegallaw5_alive.res]) | (with_reducible refine T.seq ?_) | (with_reducible refine T.block ?_) | (with_reducible assumption) | (with_reducible refine And.intro ?_ ?_) | (intro h; first | (exfalso; omega) | exact absurd (Eq.trans (Eq.symm h) (by assumption : _ = false)) (by decide) | exact absurd (Eq.trans (Eq.symm h) (by assumption : _ = true)) (by decide) | skip))
  all_goals first | omega | rfl | skip
end Go.Proofs.Ytibkcfpcfbodaaa
