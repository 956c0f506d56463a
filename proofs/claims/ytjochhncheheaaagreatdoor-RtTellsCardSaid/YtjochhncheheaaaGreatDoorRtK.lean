/-
  A part of the proofs of this seat's laws: a step on the way. It has no conditions of its own.
-/
import Derived.Test.YtjochhncheheaaaGreatDoorRtI
import Derived.Test.YtjochhncheheaaaGreatDoorRtJ
import Derived.Test.YtjochhncheheaaaGreatDoorRtA
import Derived.Test.YtjochhncheheaaaGreatDoorReadF
import Derived.Test.YtjochhncheheaaaGreatDoorIrX
import Derived.Test.YtjochhncheheaaaGreatDoorReadP
namespace Go.Proofs.YtjochhncheheaaaGreatDoor
open Go Go.RowKit Vc
set_option linter.unusedVariables false
set_option linter.unusedSimpArgs false
attribute [local irreducible] T Za Z2 Ent RdC RwC Xl Zc Zs
set_option maxHeartbeats 1000000 in
set_option maxRecDepth 100000 in
theorem Oj (b g cap : Nat) (p q : Value) (l : List UInt8) (w : World) (hbk : w.heap[b]? = some (.cells #[p, .slice (some ⟨g, 0, none⟩) l.length cap, q] 64 (0, 0)))
    (hown : w.ownsRow 0 5 1 (.slice (some ⟨g, 0, none⟩) l.length cap) l.length (Lib.byteCells l)) (h0 : l ≠ []) :
    Calls Tryz.prog 19 #[.pointer (some ⟨b, 0, none⟩)] w fun e w' => e = .returned (.string ⟨l.toArray⟩) ∧ w' = w.drew.freeze ⟨g, 0, none⟩ l.length := by
  have hl0 : l.length ≠ 0 := by simpa using h0
  obtain ⟨cur, hg, hnc, hcm, hcs, htake⟩ : ∃ cur, w.heap[g]? = some (.cells cur 5 (0, 0)) ∧ l.length ≤ cap ∧ cap ≤ maxLen ∧ cur.size = cap * 1 ∧ cur.toList.take (l.length * 1) = Lib.byteCells l := by
    rcases hown.2 with ⟨hv, hz⟩ | ⟨g', cap', cur, hv, _, r⟩
    · exact absurd hz hl0
    · cases hv; exact ⟨cur, r⟩
  have c1 : w.drew.cell? ⟨b, 1, none⟩ = some (.slice (some ⟨g, 0, none⟩) l.length cap) := by
    have : w.drew.heap[b]? = some (.cells #[p, .slice (some ⟨g, 0, none⟩) l.length cap, q] 64 (0, 0)) := hbk
    rw [Lib.cell_of_heap this]; rfl
  have hSD : (Builtin.unsafeSliceData_ #[60] 128 #[.slice (some ⟨g, 0, none⟩) l.length cap]).run Tryz.prog w.drew = .ok (.pointer (some ⟨g, 0, none⟩)) w.drew :=
    Lib.run_unsafeSliceData_row _ _ _ _ _ _ (by omega)
  have hUS : (Builtin.unsafeString_ #[128, 3] 9 #[.pointer (some ⟨g, 0, none⟩), .int .i64 l.length]).run Tryz.prog w.drew = .ok (.string ⟨l.toArray⟩) (w.drew.freeze ⟨g, 0, none⟩ l.length) := by
    refine Lib.run_unsafeString_row w.drew 128 3 9 5 Tryz.underlying128 (by kernel_rfl) g cur.size (by have hg' : w.drew.heap[g]? = some (.cells cur 5 (0, 0)) := hg; simp [World.shape?, hg']) l h0 (by omega) (by unfold maxLen at hcm; omega) ?_
    intro j x hx
    have := hown.cells (g := g) rfl j (.int .u8 x.toNat) (by simp [Lib.byteCells, hx])
    exact this
  go_enter Tryz.func19, Tryz.ntmps19
  go_wp2
  go_region
  all_goals (go_wp2; go_ret; exact ⟨rfl, rfl⟩)
theorem Eg (n : Int) (l : List UInt8) (hne : l ≠ []) :
    GC Tryz.prog 19 [.a (.loc 0 0)] [(0, .cells 64 [.loc 0 0, .ref 1, .int .i64 n]), (1, .row 5 (.int .u8) (bytesI l))] 2 [] (.one (.a (.str l))) [] 2 := by
  refine ⟨(by simp [Yo, Yr, Yp, Zw, Zp, Vc.S1.okN, At.okN, SV.okN, Res.okN, Res.outOk, Z1, Res.own, Value.oneCell']), fun ρ w hm => ?_⟩
  obtain ⟨b, hb, hcell⟩ := hm.res 0 _ (List.mem_cons_self ..)
  have hown := hm.res 1 _ (List.mem_cons_of_mem _ (List.mem_cons_self ..))
  simp only [Res.holds] at hown
  have h1 : S1.den ρ (.a (.loc 0 0)) = .pointer (some ⟨b, 0, none⟩) := by simp [S1.den, At.den, X1, hb]
  simp only [List.map_cons, List.map_nil, h1]
  have hbl : (bytesI l).length = l.length := by simp [bytesI]
  rw [hbl, Ut] at hown
  have hsz : Kd.sz (.int .u8) = 1 := rfl
  rw [hsz] at hown
  have hcl : w.heap[b]? = some (.cells #[X1 (ρ 0) 0, ρ 1, .int .i64 n] 64 (0, 0)) := hcell
  have hnone : ∀ w' : World, w'.os = w.os → w'.tape = w.tape → w'.output = w.output → w.heap.size ≤ w'.heap.size → (∀ k, k < w.heap.size → k ∉ Zn ρ [(0, Res.cells 64 [.loc 0 0, .ref 1, .int .i64 n]), (1, .row 5 (.int .u8) (bytesI l))] → w'.heap[k]? = w.heap[k]?) → Mem ⟨Tryz.prog, w, Zn ρ [(0, Res.cells 64 [.loc 0 0, .ref 1, .int .i64 n]), (1, .row 5 (.int .u8) (bytesI l))], 0, []⟩ ρ [] 2 w' :=
    fun w' a1 a2 a3 a4 a5 => ⟨a1, a2, a3, a4, a5, hm.one, by simp, by simp, by simp, by simp [Zn], by simp [Zn]⟩
  cases l with
  | nil => exact absurd rfl hne
  | cons x l =>
    have hown2 := hown
    rcases hown.2 with ⟨_, hz⟩ | ⟨g, cap, cur, hv, r⟩
    · simp at hz
    rw [hv] at hcl hown2
    refine (Oj b g cap _ _ (x :: l) w hcl hown2 (by simp)).mono fun e w' ⟨he, hw⟩ => ⟨ρ, by simp, he, ?_⟩
    subst hw
    obtain ⟨f1, f2, f3⟩ := Ob w.drew g (x :: l).length
    refine hnone _ f1 f2 f3 (by rw [P0]; exact Nat.le_refl _) fun k hk hko => ?_
    rw [Oe k (fun e => hko ?_)]
    · rfl
    · subst e
      simp [Zn, Res.block, hb, hv, Value.ownBlock]
set_option maxHeartbeats 4000000 in
theorem G3 (n : Int) (x : List UInt8) (hx : x.length ≤ 1000) (hsf : Lib.hasSuffix x [58] = true) :
    GC Tryz.prog 18 [.a (.loc 0 0), .a (.ref 1)] [(0, .cells 64 [.raw (.pointer none), .raw (.slice none 0 0), .int .i64 n]), (1, .ro .str [x])] 2 [0] (.tup []) [(0, .cells 64 [.loc 0 0, .ref 2, .int .i64 n]), (2, .row 5 (.int .u8) (bytesI (x ++ [10])))] 3 := by
  have hS := Qu x [58] (by omega)
  rw [hsf] at hS
  have hW := R9 n (x ++ [10]) (by simp only [List.length_append, List.length_cons, List.length_nil]; omega)
  refine Z8.fn.gc (by simp) (by simp [Yo, Yr, Yp, Zw, Zp, Vc.S1.okN, At.okN, SV.okN, Res.okN, Res.outOk, Z1, Res.own, Value.oneCell']) fun w X fr => ?_
  repeat' (first | ((first | (with_reducible first | refine T.regs ?_ | refine T.cond ?_ | refine T.reg ?_ | refine T.ret ?_ | refine T.exit ?_ | refine T.skip ?_) | ((with_reducible first | refine T.dregs ?_ ?_ | refine T.dreg ?_ ?_ | refine T.dregts ?_ ?_ | refine T.dregt ?_ ?_ | refine T.danys ?_ ?_ | refine T.dany ?_ ?_); exact mix)); simp only [Zh, Zi, Int.reduceEq, Int.reduceNeg, Int.reduceLE, Int.reduceLT, Nat.reduceSub, ↓reduceIte, reduceCtorEq, Nat.reduceEqDiff, Nat.reduceAdd, Nat.reduceMul, Nat.reduceLeDiff, Nat.reduceLT, Nat.reduceBEq, Nat.reduceBNe, implies_true, Z8.rs, Z8.res]) | (with_reducible first | refine T.seq ?_ | refine T.block ?_ | assumption | refine And.intro ?_ ?_) | (intro h; first | (exfalso; omega) | exact (tf h ‹_›).elim | exact (tf ‹_› h).elim | skip))
  all_goals first | omega | skip
  refine T.loop (ι := Bool)
    (fun b => match b with
      | false => ⟨[(8, .one (.a (.int .i64 0))), (7, .one (.a (.int .i64 1))), (6, .one (.a (.ref 1))), (0, .one (.a (.loc 0 0))), (1000000, .one (.a (.ref 0)))],
          [(0, .cells 64 [.raw (.pointer none), .raw (.slice none 0 0), .int .i64 n]), (1, .ro .str [x])], 2⟩
      | true => ⟨[(8, .one (.a (.int .i64 1))), (7, .one (.a (.int .i64 1))), (6, .one (.a (.ref 1))), (0, .one (.a (.loc 0 0))), (1000000, .one (.a (.ref 0)))],
          [(0, .cells 64 [.loc 0 0, .ref 2, .int .i64 n]), (2, .row 5 (.int .u8) (bytesI (x ++ [10]))), (1, .ro .str [x])], 3⟩) (fun b => if b = true then 0 else 1) false (Ent.mk1 (id) (by simp [Z7])) ?_
  rintro (_ | _)
  · have hw : IntKind.i64.wrap (0 + 1) = 1 := by decide
    have hx' : [x].getD 0 (Kd.dflt .str) = x := rfl
    repeat' (first | ((first | (with_reducible first | refine T.regs ?_ | refine T.cond ?_ | refine T.reg ?_ | refine T.ret ?_ | refine T.exit ?_ | refine T.skip ?_) | ((with_reducible first | refine T.dregs ?_ ?_ | refine T.dreg ?_ ?_ | refine T.dregts ?_ ?_ | refine T.dregt ?_ ?_ | refine T.danys ?_ ?_ | refine T.dany ?_ ?_); exact mix) | ((with_reducible refine Za.gc (hS) ?_ ?_); (focus ((simp [Zm]); done))) | ((with_reducible refine Za.gc (hW) ?_ ?_); (focus ((simp [Zm]); done)))); simp only [Zh, Zi, Int.reduceEq, Int.reduceNeg, Int.reduceLE, Int.reduceLT, Nat.reduceSub, ↓reduceIte, reduceCtorEq, Nat.reduceEqDiff, Nat.reduceAdd, Nat.reduceMul, Nat.reduceLeDiff, Nat.reduceLT, Nat.reduceBEq, Nat.reduceBNe, implies_true, Z8.rs, Z8.res, hx', hw, Int.toNat_zero, List.length_cons, List.length_nil]) | (with_reducible first | refine T.seq ?_ | refine T.block ?_ | assumption | refine And.intro ?_ ?_) | (intro h; first | (exfalso; omega) | exact (tf h ‹_›).elim | exact (tf ‹_› h).elim | skip))
    all_goals first | omega | skip
    exact ⟨true, (Ent.mk1 (id) (by simp [Z7, hw])), by decide⟩
  · repeat' (first | ((first | (with_reducible first | refine T.regs ?_ | refine T.cond ?_ | refine T.reg ?_ | refine T.ret ?_ | refine T.exit ?_ | refine T.skip ?_) | ((with_reducible first | refine T.dregs ?_ ?_ | refine T.dreg ?_ ?_ | refine T.dregts ?_ ?_ | refine T.dregt ?_ ?_ | refine T.danys ?_ ?_ | refine T.dany ?_ ?_); exact mix)); simp only [Zh, Zi, Int.reduceEq, Int.reduceNeg, Int.reduceLE, Int.reduceLT, Nat.reduceSub, ↓reduceIte, reduceCtorEq, Nat.reduceEqDiff, Nat.reduceAdd, Nat.reduceMul, Nat.reduceLeDiff, Nat.reduceLT, Nat.reduceBEq, Nat.reduceBNe, implies_true, Z8.rs, Z8.res, List.length_cons, List.length_nil]) | (with_reducible first | refine T.seq ?_ | refine T.block ?_ | assumption | refine And.intro ?_ ?_) | (intro h; first | (exfalso; omega) | exact (tf h ‹_›).elim | exact (tf ‹_› h).elim | skip))
    all_goals first | omega | skip
theorem E6 (l : List (List UInt8)) (v : List UInt8) : decide (0 ≤ Wz l v 0) = decide (v ∈ l) := by
  by_cases h : v ∈ l
  · have : ∀ (l : List (List UInt8)) (k : Nat), v ∈ l → 0 ≤ Wz l v k := by
      intro l
      induction l with
      | nil => intro k h; cases h
      | cons x l ih =>
        intro k h
        unfold Wz
        by_cases e : x = v
        · rw [if_pos e]; omega
        · rw [if_neg e]
          rcases List.mem_cons.1 h with h | h
          · exact absurd h.symm e
          · exact ih _ h
    rw [decide_eq_true (this l 0 h), decide_eq_true h]
  · rw [Ot l v 0 h, decide_eq_false h]; rfl
theorem Mp (l : List (List UInt8)) (v : List UInt8) (hlen : l.length ≤ 9223372036854775807) :
    RdC Tryz.prog 17 [.ro .str l, .v (.a (.str v))] (.one (.a (.bool (decide (v ∈ l))))) := by
  refine Yv.fn.rd (by simp) (by repeat' (first | exact rfl | exact trivial | refine And.intro ?_ ?_ | (simp [SV.bd, Vc.S1.bd, At.bd, Zq, Zr, Ins.cells, Ln.cells]; done))) (by repeat' (first | exact rfl | exact trivial | refine And.intro ?_ ?_ | (simp [SV.bd, Vc.S1.bd, At.bd, Zq, Zr, Ins.cells, Ln.cells]; done))) fun w => ?_
  have h1 := E6 l v
  repeat' (first | ((first | (with_reducible first | refine T.regs ?_ | refine T.cond ?_ | refine T.reg ?_ | refine T.ret ?_ | refine T.exit ?_ | refine T.skip ?_) | ((with_reducible first | refine T.dregs ?_ ?_ | refine T.dreg ?_ ?_ | refine T.dregts ?_ ?_ | refine T.dregt ?_ ?_ | refine T.danys ?_ ?_ | refine T.dany ?_ ?_); exact mix) | ((with_reducible first | apply Za.rd (Qe l v hlen) | apply Zc.rd (Qe l v hlen)); (focus ((repeat' (first | exact rfl | exact trivial | refine And.intro ?_ ?_ | (simp [SV.bd, Vc.S1.bd, At.bd, Zq, Zr, Ins.cells, Ln.cells]; done))); done)))); simp only [Zh, Zi, Int.reduceEq, Int.reduceNeg, Int.reduceLE, Int.reduceLT, Nat.reduceSub, ↓reduceIte, reduceCtorEq, Nat.reduceEqDiff, Nat.reduceAdd, Nat.reduceMul, Nat.reduceLeDiff, Nat.reduceLT, Nat.reduceBEq, Nat.reduceBNe, implies_true, Yv.rs, Yv.res, h1]) | (with_reducible first | refine T.seq ?_ | refine T.block ?_ | assumption | refine And.intro ?_ ?_) | (intro h; first | (exfalso; omega) | exact (tf h ‹_›).elim | exact (tf ‹_› h).elim | skip))
end Go.Proofs.YtjochhncheheaaaGreatDoor
namespace Go.Proofs.YtjochhncheheaaaGreatDoor
open Go Go.RowKit Vc
set_option linter.unusedVariables false
set_option linter.unusedSimpArgs false
attribute [local irreducible] T Za Z2 Ent RdC RwC Xl Zc Zs
theorem Hz {G : Nat} {H : Nat → Option Obj} (hM : Xh G H) (hH : Y7 G H) (n : Nat) (hn : 1 ≤ n ∧ n ≤ 100) (acc : List UInt8) (hb : acc.length + (O5 n).length ≤ 100000) :
    GCp G H Tryz.prog 47 [.a (.loc 0 0)] [(0, .cells 64 [.loc 0 0, .ref 1, .int .i64 (n : Int)]), (1, .row 5 (.int .u8) (bytesI (acc)))] 2 [0] (.tup []) [(0, .cells 64 [.loc 0 0, .ref 2, .int .i64 (n : Int)]), (2, .row 5 (.int .u8) (bytesI (acc ++ O5 n)))] 3 := by
  have hC := E8 hM hH n hn acc hb
  generalize acc ++ O5 n = z at *
  refine Vm.fn.gcp (by simp) (by simp [Yo, Yr, Yp, Zw, Zp, Vc.S1.okN, At.okN, SV.okN, Res.okN, Res.outOk, Z1, Res.own, Value.oneCell']) fun w X fr hglob => ?_
  repeat' (first | ((first | (with_reducible first | refine T.regs ?_ | refine T.cond ?_ | refine T.reg ?_ | refine T.ret ?_ | refine T.exit ?_ | refine T.skip ?_) | ((with_reducible first | refine T.dregs ?_ ?_ | refine T.dreg ?_ ?_ | refine T.dregts ?_ ?_ | refine T.dregt ?_ ?_ | refine T.danys ?_ ?_ | refine T.dany ?_ ?_); exact mix) | ((with_reducible refine Za.gcp hglob (hC) ?_ ?_); (focus ((simp [Zm]); done)))); simp only [Zh, Zi, Int.reduceEq, Int.reduceNeg, Int.reduceLE, Int.reduceLT, Nat.reduceSub, ↓reduceIte, reduceCtorEq, Nat.reduceEqDiff, Nat.reduceAdd, Nat.reduceMul, Nat.reduceLeDiff, Nat.reduceLT, Nat.reduceBEq, Nat.reduceBNe, implies_true, Vm.rs, Vm.res]) | (with_reducible first | refine T.seq ?_ | refine T.block ?_ | assumption | refine And.intro ?_ ?_) | (intro h; first | (exfalso; omega) | exact (tf h ‹_›).elim | exact (tf ‹_› h).elim | skip))
  all_goals first | omega | skip
theorem Ha {G : Nat} {H : Nat → Option Obj} (hM : Xh G H) (hH : Y7 G H) (n : Nat) (hn : 1 ≤ n ∧ n ≤ 100) (acc : List UInt8) (hb : acc.length + (Nk n).length ≤ 100000) :
    GCp G H Tryz.prog 49 [.a (.loc 0 0)] [(0, .cells 64 [.loc 0 0, .ref 1, .int .i64 (n : Int)]), (1, .row 5 (.int .u8) (bytesI (acc)))] 2 [0] (.tup []) [(0, .cells 64 [.loc 0 0, .ref 2, .int .i64 (n : Int)]), (2, .row 5 (.int .u8) (bytesI (acc ++ Nk n)))] 3 := by
  have hC := Dp hM hH n hn acc hb
  generalize acc ++ Nk n = z at *
  refine Vl.fn.gcp (by simp) (by simp [Yo, Yr, Yp, Zw, Zp, Vc.S1.okN, At.okN, SV.okN, Res.okN, Res.outOk, Z1, Res.own, Value.oneCell']) fun w X fr hglob => ?_
  repeat' (first | ((first | (with_reducible first | refine T.regs ?_ | refine T.cond ?_ | refine T.reg ?_ | refine T.ret ?_ | refine T.exit ?_ | refine T.skip ?_) | ((with_reducible first | refine T.dregs ?_ ?_ | refine T.dreg ?_ ?_ | refine T.dregts ?_ ?_ | refine T.dregt ?_ ?_ | refine T.danys ?_ ?_ | refine T.dany ?_ ?_); exact mix) | ((with_reducible refine Za.gcp hglob (hC) ?_ ?_); (focus ((simp [Zm]); done)))); simp only [Zh, Zi, Int.reduceEq, Int.reduceNeg, Int.reduceLE, Int.reduceLT, Nat.reduceSub, ↓reduceIte, reduceCtorEq, Nat.reduceEqDiff, Nat.reduceAdd, Nat.reduceMul, Nat.reduceLeDiff, Nat.reduceLT, Nat.reduceBEq, Nat.reduceBNe, implies_true, Vl.rs, Vl.res]) | (with_reducible first | refine T.seq ?_ | refine T.block ?_ | assumption | refine And.intro ?_ ?_) | (intro h; first | (exfalso; omega) | exact (tf h ‹_›).elim | exact (tf ‹_› h).elim | skip))
  all_goals first | omega | skip
theorem I0 {G : Nat} {H : Nat → Option Obj} (hM : Xh G H) (hH : Y7 G H) (n : Nat) (hn : 1 ≤ n ∧ n ≤ 100) (acc : List UInt8) (hb : acc.length + (Tf n).length ≤ 100000) :
    GCp G H Tryz.prog 50 [.a (.loc 0 0)] [(0, .cells 64 [.loc 0 0, .ref 1, .int .i64 (n : Int)]), (1, .row 5 (.int .u8) (bytesI (acc)))] 2 [0] (.tup []) [(0, .cells 64 [.loc 0 0, .ref 2, .int .i64 (n : Int)]), (2, .row 5 (.int .u8) (bytesI (acc ++ Tf n)))] 3 := by
  have hC := K5 hM hH n hn acc hb
  generalize acc ++ Tf n = z at *
  refine Vn.fn.gcp (by simp) (by simp [Yo, Yr, Yp, Zw, Zp, Vc.S1.okN, At.okN, SV.okN, Res.okN, Res.outOk, Z1, Res.own, Value.oneCell']) fun w X fr hglob => ?_
  repeat' (first | ((first | (with_reducible first | refine T.regs ?_ | refine T.cond ?_ | refine T.reg ?_ | refine T.ret ?_ | refine T.exit ?_ | refine T.skip ?_) | ((with_reducible first | refine T.dregs ?_ ?_ | refine T.dreg ?_ ?_ | refine T.dregts ?_ ?_ | refine T.dregt ?_ ?_ | refine T.danys ?_ ?_ | refine T.dany ?_ ?_); exact mix) | ((with_reducible refine Za.gcp hglob (hC) ?_ ?_); (focus ((simp [Zm]); done)))); simp only [Zh, Zi, Int.reduceEq, Int.reduceNeg, Int.reduceLE, Int.reduceLT, Nat.reduceSub, ↓reduceIte, reduceCtorEq, Nat.reduceEqDiff, Nat.reduceAdd, Nat.reduceMul, Nat.reduceLeDiff, Nat.reduceLT, Nat.reduceBEq, Nat.reduceBNe, implies_true, Vn.rs, Vn.res]) | (with_reducible first | refine T.seq ?_ | refine T.block ?_ | assumption | refine And.intro ?_ ?_) | (intro h; first | (exfalso; omega) | exact (tf h ‹_›).elim | exact (tf ‹_› h).elim | skip))
  all_goals first | omega | skip
theorem I5 {G : Nat} {H : Nat → Option Obj} (hM : Xh G H) (hH : Y7 G H) (n : Nat) (hn : 1 ≤ n ∧ n ≤ 100) (acc : List UInt8) (hb : acc.length + (U6 n).length ≤ 100000) :
    GCp G H Tryz.prog 52 [.a (.loc 0 0)] [(0, .cells 64 [.loc 0 0, .ref 1, .int .i64 (n : Int)]), (1, .row 5 (.int .u8) (bytesI (acc)))] 2 [0] (.tup []) [(0, .cells 64 [.loc 0 0, .ref 2, .int .i64 (n : Int)]), (2, .row 5 (.int .u8) (bytesI (acc ++ U6 n)))] 3 := by
  have hC := Km hM hH n hn acc hb
  generalize acc ++ U6 n = z at *
  refine Vi.fn.gcp (by simp) (by simp [Yo, Yr, Yp, Zw, Zp, Vc.S1.okN, At.okN, SV.okN, Res.okN, Res.outOk, Z1, Res.own, Value.oneCell']) fun w X fr hglob => ?_
  repeat' (first | ((first | (with_reducible first | refine T.regs ?_ | refine T.cond ?_ | refine T.reg ?_ | refine T.ret ?_ | refine T.exit ?_ | refine T.skip ?_) | ((with_reducible first | refine T.dregs ?_ ?_ | refine T.dreg ?_ ?_ | refine T.dregts ?_ ?_ | refine T.dregt ?_ ?_ | refine T.danys ?_ ?_ | refine T.dany ?_ ?_); exact mix) | ((with_reducible refine Za.gcp hglob (hC) ?_ ?_); (focus ((simp [Zm]); done)))); simp only [Zh, Zi, Int.reduceEq, Int.reduceNeg, Int.reduceLE, Int.reduceLT, Nat.reduceSub, ↓reduceIte, reduceCtorEq, Nat.reduceEqDiff, Nat.reduceAdd, Nat.reduceMul, Nat.reduceLeDiff, Nat.reduceLT, Nat.reduceBEq, Nat.reduceBNe, implies_true, Vi.rs, Vi.res]) | (with_reducible first | refine T.seq ?_ | refine T.block ?_ | assumption | refine And.intro ?_ ?_) | (intro h; first | (exfalso; omega) | exact (tf h ‹_›).elim | exact (tf ‹_› h).elim | skip))
  all_goals first | omega | skip
theorem Is {G : Nat} {H : Nat → Option Obj} (hM : Xh G H) (hH : Y7 G H) (n : Nat) (hn : 1 ≤ n ∧ n ≤ 100) (acc : List UInt8) (hb : acc.length + (I1 n).length ≤ 100000) :
    GCp G H Tryz.prog 53 [.a (.loc 0 0)] [(0, .cells 64 [.loc 0 0, .ref 1, .int .i64 (n : Int)]), (1, .row 5 (.int .u8) (bytesI (acc)))] 2 [0] (.tup []) [(0, .cells 64 [.loc 0 0, .ref 2, .int .i64 (n : Int)]), (2, .row 5 (.int .u8) (bytesI (acc ++ I1 n)))] 3 := by
  have hC := shl_gcp hM hH n hn acc hb
  generalize acc ++ I1 n = z at *
  refine Vr.fn.gcp (by simp) (by simp [Yo, Yr, Yp, Zw, Zp, Vc.S1.okN, At.okN, SV.okN, Res.okN, Res.outOk, Z1, Res.own, Value.oneCell']) fun w X fr hglob => ?_
  repeat' (first | ((first | (with_reducible first | refine T.regs ?_ | refine T.cond ?_ | refine T.reg ?_ | refine T.ret ?_ | refine T.exit ?_ | refine T.skip ?_) | ((with_reducible first | refine T.dregs ?_ ?_ | refine T.dreg ?_ ?_ | refine T.dregts ?_ ?_ | refine T.dregt ?_ ?_ | refine T.danys ?_ ?_ | refine T.dany ?_ ?_); exact mix) | ((with_reducible refine Za.gcp hglob (hC) ?_ ?_); (focus ((simp [Zm]); done)))); simp only [Zh, Zi, Int.reduceEq, Int.reduceNeg, Int.reduceLE, Int.reduceLT, Nat.reduceSub, ↓reduceIte, reduceCtorEq, Nat.reduceEqDiff, Nat.reduceAdd, Nat.reduceMul, Nat.reduceLeDiff, Nat.reduceLT, Nat.reduceBEq, Nat.reduceBNe, implies_true, Vr.rs, Vr.res]) | (with_reducible first | refine T.seq ?_ | refine T.block ?_ | assumption | refine And.intro ?_ ?_) | (intro h; first | (exfalso; omega) | exact (tf h ‹_›).elim | exact (tf ‹_› h).elim | skip))
  all_goals first | omega | skip
theorem Iy {G : Nat} {H : Nat → Option Obj} (hM : Xh G H) (hH : Y7 G H) (n : Nat) (hn : 1 ≤ n ∧ n ≤ 100) (acc : List UInt8) (hb : acc.length + (Hj n).length ≤ 100000) :
    GCp G H Tryz.prog 55 [.a (.loc 0 0)] [(0, .cells 64 [.loc 0 0, .ref 1, .int .i64 (n : Int)]), (1, .row 5 (.int .u8) (bytesI (acc)))] 2 [0] (.tup []) [(0, .cells 64 [.loc 0 0, .ref 2, .int .i64 (n : Int)]), (2, .row 5 (.int .u8) (bytesI (acc ++ Hj n)))] 3 := by
  have hC := shr_gcp hM hH n hn acc hb
  generalize acc ++ Hj n = z at *
  refine Vf.fn.gcp (by simp) (by simp [Yo, Yr, Yp, Zw, Zp, Vc.S1.okN, At.okN, SV.okN, Res.okN, Res.outOk, Z1, Res.own, Value.oneCell']) fun w X fr hglob => ?_
  repeat' (first | ((first | (with_reducible first | refine T.regs ?_ | refine T.cond ?_ | refine T.reg ?_ | refine T.ret ?_ | refine T.exit ?_ | refine T.skip ?_) | ((with_reducible first | refine T.dregs ?_ ?_ | refine T.dreg ?_ ?_ | refine T.dregts ?_ ?_ | refine T.dregt ?_ ?_ | refine T.danys ?_ ?_ | refine T.dany ?_ ?_); exact mix) | ((with_reducible refine Za.gcp hglob (hC) ?_ ?_); (focus ((simp [Zm]); done)))); simp only [Zh, Zi, Int.reduceEq, Int.reduceNeg, Int.reduceLE, Int.reduceLT, Nat.reduceSub, ↓reduceIte, reduceCtorEq, Nat.reduceEqDiff, Nat.reduceAdd, Nat.reduceMul, Nat.reduceLeDiff, Nat.reduceLT, Nat.reduceBEq, Nat.reduceBNe, implies_true, Vf.rs, Vf.res]) | (with_reducible first | refine T.seq ?_ | refine T.block ?_ | assumption | refine And.intro ?_ ?_) | (intro h; first | (exfalso; omega) | exact (tf h ‹_›).elim | exact (tf ‹_› h).elim | skip))
  all_goals first | omega | skip
theorem Iu {G : Nat} {H : Nat → Option Obj} (hM : Xh G H) (hH : Y7 G H) (n : Nat) (hn : 1 ≤ n ∧ n ≤ 100) (acc : List UInt8) (hb : acc.length + (Ir n).length ≤ 100000) :
    GCp G H Tryz.prog 56 [.a (.loc 0 0)] [(0, .cells 64 [.loc 0 0, .ref 1, .int .i64 (n : Int)]), (1, .row 5 (.int .u8) (bytesI (acc)))] 2 [0] (.tup []) [(0, .cells 64 [.loc 0 0, .ref 2, .int .i64 (n : Int)]), (2, .row 5 (.int .u8) (bytesI (acc ++ Ir n)))] 3 := by
  have hC := sar_gcp hM hH n hn acc hb
  generalize acc ++ Ir n = z at *
  refine Vo.fn.gcp (by simp) (by simp [Yo, Yr, Yp, Zw, Zp, Vc.S1.okN, At.okN, SV.okN, Res.okN, Res.outOk, Z1, Res.own, Value.oneCell']) fun w X fr hglob => ?_
  repeat' (first | ((first | (with_reducible first | refine T.regs ?_ | refine T.cond ?_ | refine T.reg ?_ | refine T.ret ?_ | refine T.exit ?_ | refine T.skip ?_) | ((with_reducible first | refine T.dregs ?_ ?_ | refine T.dreg ?_ ?_ | refine T.dregts ?_ ?_ | refine T.dregt ?_ ?_ | refine T.danys ?_ ?_ | refine T.dany ?_ ?_); exact mix) | ((with_reducible refine Za.gcp hglob (hC) ?_ ?_); (focus ((simp [Zm]); done)))); simp only [Zh, Zi, Int.reduceEq, Int.reduceNeg, Int.reduceLE, Int.reduceLT, Nat.reduceSub, ↓reduceIte, reduceCtorEq, Nat.reduceEqDiff, Nat.reduceAdd, Nat.reduceMul, Nat.reduceLeDiff, Nat.reduceLT, Nat.reduceBEq, Nat.reduceBNe, implies_true, Vo.rs, Vo.res]) | (with_reducible first | refine T.seq ?_ | refine T.block ?_ | assumption | refine And.intro ?_ ?_) | (intro h; first | (exfalso; omega) | exact (tf h ‹_›).elim | exact (tf ‹_› h).elim | skip))
  all_goals first | omega | skip
set_option maxHeartbeats 4000000 in
set_option maxRecDepth 100000 in
theorem Dm {G : Nat} {H : Nat → Option Obj} (s : List UInt8) (f : Nat) (d : UInt8) (n : Nat) (nm hd body : List UInt8) (hnm : nm = s ++ [d]) (hhd : hd = nm ++ [58] ++ [10]) (hf : flk S5 s = some f) (hd1 : IntKind.u8.wrap (((d.toNat : Nat) : Int) - 48) = (n : Int)) (hn : n ≤ 100) (hs : s.length ≤ 10) (hin : nm ∈ Ye)
    (hent : Zu Tryz.prog f = true) (hC : GCp G H Tryz.prog f [.a (.loc 0 0)] [(0, .cells 64 [.loc 0 0, .ref 1, .int .i64 (n : Int)]), (1, .row 5 (.int .u8) (bytesI (hd)))] 2 [0] (.tup []) [(0, .cells 64 [.loc 0 0, .ref 2, .int .i64 (n : Int)]), (2, .row 5 (.int .u8) (bytesI (hd ++ body)))] 3) :
    GCp G H Tryz.prog 9 [.a (.str nm)] [] 0 [] (.tup [.a (.str (hd ++ body)), .a (.int .i64 0)]) [] 0 := by
  have hlen : nm.length = s.length + 1 := by rw [hnm]; simp
  have hCon := Mp Ye nm (by decide)
  rw [decide_eq_true hin] at hCon
  have hput := G3 (n : Int) (nm ++ [58]) (by simp only [List.length_append, List.length_cons, List.length_nil]; omega) (by rw [hnm]; simp [Lib.hasSuffix, List.isSuffixOf, List.isPrefixOf])
  rw [← hhd] at hput
  have hstr := Eg (n : Int) (hd ++ body) (by rw [hhd]; simp)
  have hk : IntKind.i64.wrap ((nm.length : Int) - 1) = (s.length : Int) := by rw [Ya (by omega) (by omega)]; omega
  have hkt : ((s.length : Int)).toNat = s.length := by omega
  have htake : nm.take s.length = s := by rw [hnm]; simp
  have hget : Y8 nm s.length = ((d.toNat : Nat) : Int) := by rw [hnm]; simp [Y8]
  have hwn : IntKind.i64.wrap (n : Int) = (n : Int) := Ya (by omega) (by omega)
  generalize hd ++ body = tx at *
  refine V5.fn.gcp (by simp) (by simp [Yo, Yr, Yp, Zw, Zp, Vc.S1.okN, At.okN, SV.okN, Res.okN, Res.outOk, Z1, Res.own, Value.oneCell']) fun w X fr hglob => ?_
  repeat' (first | ((first | (with_reducible first | refine T.regs ?_ | refine T.cond ?_ | refine T.reg ?_ | refine T.ret ?_ | refine T.exit ?_ | refine T.skip ?_) | ((with_reducible first | refine T.dregs ?_ ?_ | refine T.dreg ?_ ?_ | refine T.dregts ?_ ?_ | refine T.dregt ?_ ?_ | refine T.danys ?_ ?_ | refine T.dany ?_ ?_); exact mix) | ((with_reducible refine Za.gc (Rg) ?_ ?_); (focus ((simp [Zm]); done))) | ((with_reducible first | apply Za.rd (hCon) | apply Zc.rd (hCon)); (focus ((repeat' (first | exact rfl | exact trivial | refine And.intro ?_ ?_ | (simp [SV.bd, Vc.S1.bd, At.bd, Zq, Zr, Ins.cells, Ln.cells]; done))); done))) | ((with_reducible refine Za.gc (hput) ?_ ?_); (focus ((simp [Zm]); done))) | ((with_reducible refine Za.gc (J8) ?_ ?_); (focus ((simp [Zm]); done))) | ((with_reducible refine Za.gcp hglob (hC) ?_ ?_); (focus ((simp [Zm]); done))) | ((with_reducible refine Za.gc (hstr) ?_ ?_); (focus ((simp [Zm]); done)))); simp only [Zh, Zi, Int.reduceEq, Int.reduceNeg, Int.reduceLE, Int.reduceLT, Nat.reduceSub, ↓reduceIte, reduceCtorEq, Nat.reduceEqDiff, Nat.reduceAdd, Nat.reduceMul, Nat.reduceLeDiff, Nat.reduceLT, Nat.reduceBEq, Nat.reduceBNe, implies_true, V5.rs, V5.res, hf, hk, hkt, htake, hget, hd1, hwn, hent, Int.toNat_zero, List.drop_zero, Bool.not_true, Bool.not_false]) | (with_reducible first | refine T.seq ?_ | refine T.block ?_ | assumption | refine And.intro ?_ ?_) | (intro h; first | (exfalso; omega) | exact (tf h ‹_›).elim | exact (tf ‹_› h).elim | skip))
  all_goals first | omega | skip
end Go.Proofs.YtjochhncheheaaaGreatDoor
namespace Go.Proofs.YtjochhncheheaaaGreatDoor
open Go Go.RowKit Vc
set_option linter.unusedVariables false
set_option linter.unusedSimpArgs false
attribute [local irreducible] T Za Z2 Ent RdC RwC Xl Zc Zs
def kindN : List (List UInt8) := [[109, 117, 108], [115, 97, 114], [115, 100, 105, 118], [115, 104, 108], [115, 104, 114], [115, 114, 101, 109], [117, 100, 105, 118], [117, 114, 101, 109]]
def Ga : List Nat := [46, 56, 50, 53, 55, 52, 47, 49]
def Ov : Nat → Nat → List UInt8
  | 0, n => mulS n
  | 1, n => Ir n
  | 2, n => Tf n
  | 3, n => I1 n
  | 4, n => Hj n
  | 5, n => U6 n
  | 6, n => O5 n
  | _, n => Nk n
def Rj : Nat → Nat
  | 0 => 1
  | 1 => 2
  | _ => 4
def L0 : Nat → UInt8
  | 0 => 49
  | 1 => 50
  | _ => 52
def nameAt (i : Nat) : List UInt8 := Ye.getD i []
def textAt (i : Nat) : List UInt8 := (nameAt i ++ [58] ++ [10]) ++ Ov (i / 3) (Rj (i % 3))
theorem name_of : ∀ k, k < 8 → ∀ j, j < 3 → nameAt (3 * k + j) = kindN.getD k [] ++ [L0 j] := by decide +kernel
theorem flk_of : ∀ k, k < 8 → flk S5 (kindN.getD k []) = some (Ga.getD k 0) := by decide +kernel
theorem Em : ∀ k, k < 8 → ∀ j, j < 3 → (Ov k (Rj j)).length ≤ 2000 := by decide +kernel
theorem name_in : ∀ k, k < 8 → ∀ j, j < 3 → nameAt (3 * k + j) ∈ Ye := by decide +kernel
theorem Lb : ∀ k, k < 8 → (kindN.getD k []).length ≤ 10 := by decide +kernel
theorem Ei : ∀ k, k < 8 → ∀ j, j < 3 → (3 * k + j) / 3 = k ∧ (3 * k + j) % 3 = j := by omega
theorem Ew : ∀ j, j < 3 → IntKind.u8.wrap (((L0 j).toNat : Int) - 48) = (Rj j : Int) ∧ 1 ≤ Rj j ∧ Rj j ≤ 100 := by decide +kernel
theorem Kr : ∀ i, i < 24 → (nameAt i).length ≤ 5 := by decide +kernel
theorem W6 {G : Nat} {H : Nat → Option Obj} (k : Nat) (hk : k < 8) (hent : Zu Tryz.prog (Ga.getD k 0) = true)
    (hC : ∀ n : Nat, 1 ≤ n ∧ n ≤ 100 → ∀ acc : List UInt8, acc.length + (Ov k n).length ≤ 100000 →
      GCp G H Tryz.prog (Ga.getD k 0) [.a (.loc 0 0)] [(0, .cells 64 [.loc 0 0, .ref 1, .int .i64 (n : Int)]), (1, .row 5 (.int .u8) (bytesI acc))] 2 [0] (.tup []) [(0, .cells 64 [.loc 0 0, .ref 2, .int .i64 (n : Int)]), (2, .row 5 (.int .u8) (bytesI (acc ++ Ov k n)))] 3) (j : Nat) (hj : j < 3) :
    GCp G H Tryz.prog 9 [.a (.str (nameAt (3 * k + j)))] [] 0 [] (.tup [.a (.str (textAt (3 * k + j))), .a (.int .i64 0)]) [] 0 := by
  have hnl := Kr (3 * k + j) (by omega)
  obtain ⟨h1, h2⟩ := Ei k hk j hj
  obtain ⟨h3, h4, h5⟩ := Ew j hj
  unfold textAt
  rw [h1, h2]
  exact Dm (kindN.getD k []) (Ga.getD k 0) (L0 j) (Rj j) (nameAt (3 * k + j)) (nameAt (3 * k + j) ++ [58] ++ [10]) (Ov k (Rj j)) (name_of k hk j hj) rfl (flk_of k hk) h3 h5 (Lb k hk) (name_in k hk j hj) hent
    (hC (Rj j) ⟨h4, h5⟩ _ (by have := Em k hk j hj; simp only [List.length_append, List.length_cons, List.length_nil]; omega))
theorem Nm {G : Nat} {H : Nat → Option Obj} (hM : Xh G H) (hH : Y7 G H) (i : Nat) (hi : i < 24) :
    GCp G H Tryz.prog 9 [.a (.str (nameAt i))] [] 0 [] (.tup [.a (.str (textAt i)), .a (.int .i64 0)]) [] 0 := by
  have e : i = 3 * (i / 3) + i % 3 := by omega
  have hj : i % 3 < 3 := by omega
  have hk : i / 3 = 0 ∨ i / 3 = 1 ∨ i / 3 = 2 ∨ i / 3 = 3 ∨ i / 3 = 4 ∨ i / 3 = 5 ∨ i / 3 = 6 ∨ i / 3 = 7 := by omega
  rw [e]
  generalize i % 3 = j at hj
  generalize i / 3 = k at hk
  clear e hi
  rcases hk with rfl | rfl | rfl | rfl | rfl | rfl | rfl | rfl
  · exact W6 0 (by decide) Y6.enters (fun n hn acc hb => mul_gcp hM hH n hn acc hb) j hj
  · exact W6 1 (by decide) Vo.enters (fun n hn acc hb => Iu hM hH n hn acc hb) j hj
  · exact W6 2 (by decide) Vn.enters (fun n hn acc hb => I0 hM hH n hn acc hb) j hj
  · exact W6 3 (by decide) Vr.enters (fun n hn acc hb => Is hM hH n hn acc hb) j hj
  · exact W6 4 (by decide) Vf.enters (fun n hn acc hb => Iy hM hH n hn acc hb) j hj
  · exact W6 5 (by decide) Vi.enters (fun n hn acc hb => I5 hM hH n hn acc hb) j hj
  · exact W6 6 (by decide) Vm.enters (fun n hn acc hb => Hz hM hH n hn acc hb) j hj
  · exact W6 7 (by decide) Vl.enters (fun n hn acc hb => Ha hM hH n hn acc hb) j hj
def linesAt (i : Nat) : List Ln := (Pc (textAt i)).1
theorem Md : ∀ i, i < 24 → (Pc (textAt i)).2 = (0, 0) ∧ (textAt i).length ≤ 2000 ∧ (linesAt i).length ≤ 100 := by decide +kernel
def unitsTo (i : Nat) : List (List UInt8 × List Ln) := (List.range i).map fun k => (nameAt k, linesAt k)
theorem Kh (i : Nat) : unitsTo (i + 1) = unitsTo i ++ [(nameAt i, linesAt i)] := by simp [unitsTo, List.range_succ]
theorem To (i : Nat) : (unitsTo i).length = i := by simp [unitsTo]
end Go.Proofs.YtjochhncheheaaaGreatDoor
