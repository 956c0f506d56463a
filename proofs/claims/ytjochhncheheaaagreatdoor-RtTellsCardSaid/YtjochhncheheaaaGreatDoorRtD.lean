/-
  A part of the proofs of this seat's laws: a step on the way. It has no conditions of its own.
-/
import Derived.Test.YtjochhncheheaaaGreatDoorLibC
import Derived.Test.YtjochhncheheaaaGreatDoorIrX
namespace Go.Proofs.YtjochhncheheaaaGreatDoor
open Go Go.RowKit Vc
set_option linter.unusedVariables false
set_option linter.unusedSimpArgs false
attribute [local irreducible] T Za Z2 Ent RdC RwC Xl Zc Zs
set_option maxHeartbeats 1000000 in
set_option maxRecDepth 100000 in
theorem K6 (b : Nat) (w : World) (h0 : w.cell? ⟨b, 0, none⟩ = some (.pointer none)) (hsh : w.shape? b = some (64, 3)) (hfz : w.frozen? ⟨b, 0, none⟩ = false) :
    Calls Tryz.prog 112 #[.pointer (some ⟨b, 0, none⟩)] w fun e w' => e = .returned (.tuple #[]) ∧ w' = w.setCell ⟨b, 0, none⟩ (.pointer (some ⟨b, 0, none⟩)) := by
  obtain ⟨j, hj, hjs⟩ : ∃ j, Tryz.prog.info? 62 = some j ∧ j.size = 2 := Option.map_eq_some_iff.1 (by kernel_rfl : (Tryz.prog.info? 62).map (·.size) = some 2)
  go_enter Tryz.func112, Tryz.ntmps112
  go_wp2
  rw [Lib.run_to_unsafe w ⟨b, 0, none⟩ Tryz.underlying59 Tryz.underlying205 hj (by rw [hjs]; decide) hsh (Nat.zero_lt_succ 2)]
  simp only [Result.andThen]
  rw [Oper.upon_value]
  go_wp2
  rw [run_callFunc_extern Tryz.func152 (by kernel_rfl) (by kernel_rfl) (by kernel_rfl) (e := Extern.AbiNoEscape.same) (by kernel_rfl)]
  rw [Lib.run_noEscape]
  simp only [Result.andThen]
  rw [Oper.upon_value]
  go_wp2
  rw [Lib.run_from_unsafe w ⟨b, 0, none⟩ Tryz.underlying205 Tryz.underlying59 hj hsh (by kernel_rfl)]
  simp only [Result.andThen]
  rw [Oper.upon_value]
  go_wp2
  go_end0
  exact ⟨rfl, rfl⟩
@[reducible] def WT : Nat := 64
theorem Ma (n : Int) (l : Dc) :
    GC Tryz.prog 112 [.a (.loc 0 0)] [(0, .cells 64 [.loc 0 0, .ref 1, .int .i64 n]), (1, .row 5 (.int .u8) l)] 2 [0, 1] (.tup []) [(0, .cells 64 [.loc 0 0, .ref 1, .int .i64 n]), (1, .row 5 (.int .u8) l)] 2 := by
  refine ⟨(by simp [Yo, Yr, Yp, Zw, Zp, Vc.S1.okN, At.okN, SV.okN, Res.okN, Res.outOk, Z1, Res.own, Value.oneCell']), fun ρ w hm => ?_⟩
  obtain ⟨b, hb, hcell⟩ := hm.res 0 _ (List.mem_cons_self ..)
  have h1 : S1.den ρ (.a (.loc 0 0)) = .pointer (some ⟨b, 0, none⟩) := by simp [S1.den, At.den, X1, hb]
  simp only [List.map_cons, List.map_nil, h1]
  refine (Th b w ?_).mono fun e w' ⟨he, hw⟩ => ⟨ρ, fun _ _ => rfl, he, hw ▸ hm⟩
  rw [Lib.cell_of_heap hcell]
  show some (X1 (ρ 0) 0) = _
  rw [hb]; rfl
theorem Jl (n : Int) :
    GC Tryz.prog 112 [.a (.loc 0 0)] [(0, .cells 64 [.raw (.pointer none), .raw (.slice none 0 0), .int .i64 n])] 1 [0] (.tup []) [(0, .cells 64 [.loc 0 0, .raw (.slice none 0 0), .int .i64 n])] 1 := by
  refine ⟨(by simp [Yo, Yr, Yp, Zw, Zp, Vc.S1.okN, At.okN, SV.okN, Res.okN, Res.outOk, Z1, Res.own, Value.oneCell']), fun ρ w hm => ?_⟩
  obtain ⟨b, hb, hcell⟩ := hm.res 0 _ (List.mem_cons_self ..)
  have h1 : S1.den ρ (.a (.loc 0 0)) = .pointer (some ⟨b, 0, none⟩) := by simp [S1.den, At.den, X1, hb]
  simp only [List.map_cons, List.map_nil, h1]
  refine (K6 b w ?_ ?_ ?_).mono fun e w' ⟨he, hw⟩ => ⟨ρ, fun _ _ => rfl, he, hw ▸ ?_⟩
  · rw [Lib.cell_of_heap hcell]; rfl
  · simp [World.shape?, hcell]
  · simp [World.frozen?, hcell]
  · have hh : (w.setCell ⟨b, 0, none⟩ (.pointer (some ⟨b, 0, none⟩))).heap[b]? = some (.cells #[.pointer (some ⟨b, 0, none⟩), .slice none 0 0, .int .i64 n] 64 (0, 0)) := by
      simp only [World.setCell, Array.getElem?_modify, hcell, if_true, Option.map_some]
      rfl
    have := hm.rewrite (w' := w.setCell ⟨b, 0, none⟩ (.pointer (some ⟨b, 0, none⟩))) (r' := .cells 64 [.loc 0 0, .raw (.slice none 0 0), .int .i64 n]) (g := b) (List.mem_cons_self ..) (by simp [Res.block, hb]) (by simp [Res.block, hb]) rfl rfl rfl
      (by simp [World.setCell]) (fun k hk => by simp only [World.setCell, Array.getElem?_modify]; rw [if_neg (fun e => hk e.symm)]) (by simp [Res.bd, At.bd, Value.oneCell']) (fun O' => ⟨b, hb, by rw [hh]; simp [At.den, X1, hb]⟩)
    simpa [upd, del] using this
theorem Pb (n : Int) (a s : List UInt8) (h : a.length + s.length ≤ 140737488355328) :
    GC Tryz.prog 62 [.a (.loc 0 0), .a (.str s)] [(0, .cells 64 [.loc 0 0, .ref 1, .int .i64 n]), (1, .row 5 (.int .u8) (bytesI a))] 2 [0] (.tup [.a (.int .i64 s.length), .a (.raw .nilIface)]) [(0, .cells 64 [.loc 0 0, .ref 2, .int .i64 n]), (2, .row 5 (.int .u8) (bytesI (a ++ s)))] 3 := by
  rw [← N8]
  have hl := Si a
  generalize bytesI a = l at *
  refine Zt.fn.gc (by simp) (by simp [Yo, Yr, Yp, Zw, Zp, Vc.S1.okN, At.okN, SV.okN, Res.okN, Res.outOk, Z1, Res.own, Value.oneCell']) fun w X fr => ?_
  repeat' (first | ((first | (with_reducible first | refine T.regs ?_ | refine T.cond ?_ | refine T.reg ?_ | refine T.ret ?_ | refine T.exit ?_ | refine T.skip ?_) | ((with_reducible first | refine T.dregs ?_ ?_ | refine T.dreg ?_ ?_ | refine T.dregts ?_ ?_ | refine T.dregt ?_ ?_ | refine T.danys ?_ ?_ | refine T.dany ?_ ?_); exact mix) | ((with_reducible refine Za.gc (Ma n l) ?_ ?_); (focus ((simp [Zm]))))); simp only [Zh, Zi, Int.reduceEq, Int.reduceNeg, Int.reduceLE, Int.reduceLT, Nat.reduceSub, ↓reduceIte, reduceCtorEq, Nat.reduceEqDiff, Nat.reduceAdd, Nat.reduceMul, Nat.reduceLeDiff, Nat.reduceLT, Nat.reduceBEq, Nat.reduceBNe, implies_true, Zt.rs, Zt.res]) | (with_reducible first | refine T.seq ?_ | refine T.block ?_ | assumption | refine And.intro ?_ ?_) | (intro h; first | (exfalso; omega) | exact (tf h ‹_›).elim | exact (tf ‹_› h).elim | skip))
  all_goals first | omega | skip
theorem R9 (n : Int) (s : List UInt8) (h : s.length ≤ 140737488355328) :
    GC Tryz.prog 62 [.a (.loc 0 0), .a (.str s)] [(0, .cells 64 [.raw (.pointer none), .raw (.slice none 0 0), .int .i64 n])] 1 [0] (.tup [.a (.int .i64 s.length), .a (.raw .nilIface)]) [(0, .cells 64 [.loc 0 0, .ref 1, .int .i64 n]), (1, .row 5 (.int .u8) (bytesI s))] 2 := by
  refine Zt.fn.gc (by simp) (by simp [Yo, Yr, Yp, Zw, Zp, Vc.S1.okN, At.okN, SV.okN, Res.okN, Res.outOk, Z1, Res.own, Value.oneCell']) fun w X fr => ?_
  repeat' (first | ((first | (with_reducible first | refine T.regs ?_ | refine T.cond ?_ | refine T.reg ?_ | refine T.ret ?_ | refine T.exit ?_ | refine T.skip ?_) | ((with_reducible first | refine T.dregs ?_ ?_ | refine T.dreg ?_ ?_ | refine T.dregts ?_ ?_ | refine T.dregt ?_ ?_ | refine T.danys ?_ ?_ | refine T.dany ?_ ?_); exact mix) | ((with_reducible refine Za.gc (Jl n) ?_ ?_); (focus ((simp [Zm]))))); simp only [Zh, Zi, Int.reduceEq, Int.reduceNeg, Int.reduceLE, Int.reduceLT, Nat.reduceSub, ↓reduceIte, reduceCtorEq, Nat.reduceEqDiff, Nat.reduceAdd, Nat.reduceMul, Nat.reduceLeDiff, Nat.reduceLT, Nat.reduceBEq, Nat.reduceBNe, implies_true, Zt.rs, Zt.res]) | (with_reducible first | refine T.seq ?_ | refine T.block ?_ | assumption | refine And.intro ?_ ?_) | (intro h; first | (exfalso; omega) | exact (tf h ‹_›).elim | exact (tf ‹_› h).elim | skip))
  all_goals first | omega | skip
theorem Hb (n : Int) (a : List UInt8) (h : a.length + 1 ≤ 140737488355328) :
    GC Tryz.prog 61 [.a (.loc 0 0), .a (.int .u8 9)] [(0, .cells 64 [.loc 0 0, .ref 1, .int .i64 n]), (1, .row 5 (.int .u8) (bytesI a))] 2 [0] (.one (.a (.raw .nilIface))) [(0, .cells 64 [.loc 0 0, .ref 2, .int .i64 n]), (2, .row 5 (.int .u8) (bytesI (a ++ [9])))] 3 := by
  have e : bytesI (a ++ [9]) = bytesI a ++ [9] := (P9 a 9).symm
  rw [e]
  have hl := Si a
  generalize bytesI a = l at *
  refine Z3.fn.gc (by simp) (by simp [Yo, Yr, Yp, Zw, Zp, Vc.S1.okN, At.okN, SV.okN, Res.okN, Res.outOk, Z1, Res.own, Value.oneCell']) fun w X fr => ?_
  repeat' (first | ((first | (with_reducible first | refine T.regs ?_ | refine T.cond ?_ | refine T.reg ?_ | refine T.ret ?_ | refine T.exit ?_ | refine T.skip ?_) | ((with_reducible first | refine T.dregs ?_ ?_ | refine T.dreg ?_ ?_ | refine T.dregts ?_ ?_ | refine T.dregt ?_ ?_ | refine T.danys ?_ ?_ | refine T.dany ?_ ?_); exact mix) | ((with_reducible refine Za.gc (Ma n l) ?_ ?_); (focus ((simp [Zm]))))); simp only [Zh, Zi, Int.reduceEq, Int.reduceNeg, Int.reduceLE, Int.reduceLT, Nat.reduceSub, ↓reduceIte, reduceCtorEq, Nat.reduceEqDiff, Nat.reduceAdd, Nat.reduceMul, Nat.reduceLeDiff, Nat.reduceLT, Nat.reduceBEq, Nat.reduceBNe, implies_true, Z3.rs, Z3.res]) | (with_reducible first | refine T.seq ?_ | refine T.block ?_ | assumption | refine And.intro ?_ ?_) | (intro h; first | (exfalso; omega) | exact (tf h ‹_›).elim | exact (tf ‹_› h).elim | skip))
  all_goals first | omega | skip
end Go.Proofs.YtjochhncheheaaaGreatDoor
