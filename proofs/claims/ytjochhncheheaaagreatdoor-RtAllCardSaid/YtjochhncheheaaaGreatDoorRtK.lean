/-
  A part of the proofs of this seat's laws: a step on the way. It has no conditions of its own.
-/
import Derived.Test.YtjochhncheheaaaGreatDoorRtI
import Derived.Test.YtjochhncheheaaaGreatDoorRtJ
import Derived.Test.YtjochhncheheaaaGreatDoorRtA
import Derived.Test.YtjochhncheheaaaGreatDoorReadF
import Derived.Test.YtjochhncheheaaaGreatDoorIrX
import Derived.Test.YtjochhncheheaaaGreatDoorReadP
namespace Go.Proofs.YtjochhncheheaaaGreatDoor
open Go Go.RowKit Vc
set_option linter.unusedVariables false
set_option linter.unusedSimpArgs false
attribute [local irreducible] T Za Z2 Ent RdC RwC Xm Zc Zs
set_option maxHeartbeats 1000000 in
set_option maxRecDepth 100000 in
theorem Oh (b g cap : Nat) (p q : Value) (l : List UInt8) (w : World) (hbk : w.heap[b]? = some (.cells #[p, .slice (some ⟨g, 0, none⟩) l.length cap, q] 64 (0, 0)))
    (hown : w.ownsRow 0 5 1 (.slice (some ⟨g, 0, none⟩) l.length cap) l.length (Lib.byteCells l)) (h0 : l ≠ []) :
    Calls Tryz.prog 19 #[.pointer (some ⟨b, 0, none⟩)] w fun e w' => e = .returned (.string ⟨l.toArray⟩) ∧ w' = w.drew.freeze ⟨g, 0, none⟩ l.length := by
  have hl0 : l.length ≠ 0 := by simpa using h0
  obtain ⟨cur, hg, hnc, hcm, hcs, htake⟩ : ∃ cur, w.heap[g]? = some (.cells cur 5 (0, 0)) ∧ l.length ≤ cap ∧ cap ≤ maxLen ∧ cur.size = cap * 1 ∧ cur.toList.take (l.length * 1) = Lib.byteCells l := by
    rcases hown.2 with ⟨hv, hz⟩ | ⟨g', cap', cur, hv, _, r⟩
    · exact absurd hz hl0
    · cases hv; exact ⟨cur, r⟩
  have c1 : w.drew.cell? ⟨b, 1, none⟩ = some (.slice (some ⟨g, 0, none⟩) l.length cap) := by
    have : w.drew.heap[b]? = some (.cells #[p, .slice (some ⟨g, 0, none⟩) l.length cap, q] 64 (0, 0)) := hbk
    rw [Lib.cell_of_heap this]; rfl
  have hSD : (Builtin.unsafeSliceData_ #[60] 128 #[.slice (some ⟨g, 0, none⟩) l.length cap]).run Tryz.prog w.drew = .ok (.pointer (some ⟨g, 0, none⟩)) w.drew :=
    Lib.run_unsafeSliceData_row _ _ _ _ _ _ (by omega)
  have hUS : (Builtin.unsafeString_ #[128, 3] 9 #[.pointer (some ⟨g, 0, none⟩), .int .i64 l.length]).run Tryz.prog w.drew = .ok (.string ⟨l.toArray⟩) (w.drew.freeze ⟨g, 0, none⟩ l.length) := by
    refine Lib.run_unsafeString_row w.drew 128 3 9 5 Tryz.underlying128 (by kernel_rfl) g cur.size (by have hg' : w.drew.heap[g]? = some (.cells cur 5 (0, 0)) := hg; simp [World.shape?, hg']) l h0 (by omega) (by unfold maxLen at hcm; omega) ?_
    intro j x hx
    have := hown.cells (g := g) rfl j (.int .u8 x.toNat) (by simp [Lib.byteCells, hx])
    exact this
  go_enter Tryz.func19, Tryz.ntmps19
  go_wp2
  go_region
  all_goals (go_wp2; go_ret; exact ⟨rfl, rfl⟩)
theorem Em (n : Int) (l : List UInt8) (hne : l ≠ []) :
    GC Tryz.prog 19 [.a (.loc 0 0)] [(0, .cells 64 [.loc 0 0, .ref 1, .int .i64 n]), (1, .row 5 (.int .u8) (bytesI l))] 2 [] (.one (.a (.str l))) [] 2 := by
  refine ⟨(by simp [Yn, Yp, Yo, Zw, Zq, Vc.S1.okN, At.okN, SV.okN, Res.okN, Res.outOk, Z1, Res.own, Value.oneCell']), fun ρ w hm => ?_⟩
  obtain ⟨b, hb, hcell⟩ := hm.res 0 _ (List.mem_cons_self ..)
  have hown := hm.res 1 _ (List.mem_cons_of_mem _ (List.mem_cons_self ..))
  simp only [Res.holds] at hown
  have h1 : S1.den ρ (.a (.loc 0 0)) = .pointer (some ⟨b, 0, none⟩) := by simp [S1.den, At.den, Xv, hb]
  simp only [List.map_cons, List.map_nil, h1]
  have hbl : (bytesI l).length = l.length := by simp [bytesI]
  rw [hbl, Uk] at hown
  have hsz : Kd.sz (.int .u8) = 1 := rfl
  rw [hsz] at hown
  have hcl : w.heap[b]? = some (.cells #[Xv (ρ 0) 0, ρ 1, .int .i64 n] 64 (0, 0)) := hcell
  have hnone : ∀ w' : World, w'.os = w.os → w'.tape = w.tape → w'.output = w.output → w.heap.size ≤ w'.heap.size → (∀ k, k < w.heap.size → k ∉ Zm ρ [(0, Res.cells 64 [.loc 0 0, .ref 1, .int .i64 n]), (1, .row 5 (.int .u8) (bytesI l))] → w'.heap[k]? = w.heap[k]?) → Mem ⟨Tryz.prog, w, Zm ρ [(0, Res.cells 64 [.loc 0 0, .ref 1, .int .i64 n]), (1, .row 5 (.int .u8) (bytesI l))], 0, []⟩ ρ [] 2 w' :=
    fun w' a1 a2 a3 a4 a5 => ⟨a1, a2, a3, a4, a5, hm.one, by simp, by simp, by simp, by simp [Zm], by simp [Zm]⟩
  cases l with
  | nil => exact absurd rfl hne
  | cons x l =>
    have hown2 := hown
    rcases hown.2 with ⟨_, hz⟩ | ⟨g, cap, cur, hv, r⟩
    · simp at hz
    rw [hv] at hcl hown2
    refine (Oh b g cap _ _ (x :: l) w hcl hown2 (by simp)).mono fun e w' ⟨he, hw⟩ => ⟨ρ, by simp, he, ?_⟩
    subst hw
    obtain ⟨f1, f2, f3⟩ := Px w.drew g (x :: l).length
    refine hnone _ f1 f2 f3 (by rw [Oc]; exact Nat.le_refl _) fun k hk hko => ?_
    rw [P2 k (fun e => hko ?_)]
    · rfl
    · subst e
      simp [Zm, Res.block, hb, hv, Value.ownBlock]
set_option maxHeartbeats 4000000 in
theorem Gv (n : Int) (x : List UInt8) (hx : x.length ≤ 1000) (hsf : Lib.hasSuffix x [58] = true) :
    GC Tryz.prog 18 [.a (.loc 0 0), .a (.ref 1)] [(0, .cells 64 [.raw (.pointer none), .raw (.slice none 0 0), .int .i64 n]), (1, .ro .str [x])] 2 [0] (.tup []) [(0, .cells 64 [.loc 0 0, .ref 2, .int .i64 n]), (2, .row 5 (.int .u8) (bytesI (x ++ [10])))] 3 := by
  have hS := Qw x [58] (by omega)
  rw [hsf] at hS
  have hW := Qd n (x ++ [10]) (by simp only [List.length_append, List.length_cons, List.length_nil]; omega)
  refine Z4.fn.gc (by simp) (by simp [Yn, Yp, Yo, Zw, Zq, Vc.S1.okN, At.okN, SV.okN, Res.okN, Res.outOk, Z1, Res.own, Value.oneCell']) fun w X fr => ?_
  repeat' (first | ((first | (with_reducible first | refine T.regs ?_ | refine T.cond ?_ | refine T.reg ?_ | refine T.ret ?_ | refine T.exit ?_ | refine T.skip ?_) | ((with_reducible first | refine T.dregs ?_ ?_ | refine T.dreg ?_ ?_ | refine T.dregts ?_ ?_ | refine T.dregt ?_ ?_ | refine T.danys ?_ ?_ | refine T.dany ?_ ?_); exact mix)); simp only [Zj, Zk, Int.reduceEq, Int.reduceNeg, Int.reduceLE, Int.reduceLT, Nat.reduceSub, ↓reduceIte, reduceCtorEq, Nat.reduceEqDiff, Nat.reduceAdd, Nat.reduceMul, Nat.reduceLeDiff, Nat.reduceLT, Nat.reduceBEq, Nat.reduceBNe, implies_true, Z4.rs, Z4.res]) | (with_reducible first | refine T.seq ?_ | refine T.block ?_ | assumption | refine And.intro ?_ ?_) | (intro h; first | (exfalso; omega) | exact (tf h ‹_›).elim | exact (tf ‹_› h).elim | skip))
  all_goals first | omega | skip
  refine T.loop (ι := Bool)
    (fun b => match b with
      | false => ⟨[(8, .one (.a (.int .i64 0))), (7, .one (.a (.int .i64 1))), (6, .one (.a (.ref 1))), (0, .one (.a (.loc 0 0))), (1000000, .one (.a (.ref 0)))],
          [(0, .cells 64 [.raw (.pointer none), .raw (.slice none 0 0), .int .i64 n]), (1, .ro .str [x])], 2⟩
      | true => ⟨[(8, .one (.a (.int .i64 1))), (7, .one (.a (.int .i64 1))), (6, .one (.a (.ref 1))), (0, .one (.a (.loc 0 0))), (1000000, .one (.a (.ref 0)))],
          [(0, .cells 64 [.loc 0 0, .ref 2, .int .i64 n]), (2, .row 5 (.int .u8) (bytesI (x ++ [10]))), (1, .ro .str [x])], 3⟩) (fun b => if b = true then 0 else 1) false (Ent.mk1 (id) (by simp [Z8])) ?_
  rintro (_ | _)
  · have hw : IntKind.i64.wrap (0 + 1) = 1 := by decide
    have hx' : [x].getD 0 (Kd.dflt .str) = x := rfl
    repeat' (first | ((first | (with_reducible first | refine T.regs ?_ | refine T.cond ?_ | refine T.reg ?_ | refine T.ret ?_ | refine T.exit ?_ | refine T.skip ?_) | ((with_reducible first | refine T.dregs ?_ ?_ | refine T.dreg ?_ ?_ | refine T.dregts ?_ ?_ | refine T.dregt ?_ ?_ | refine T.danys ?_ ?_ | refine T.dany ?_ ?_); exact mix) | ((with_reducible refine Za.gc (hS) ?_ ?_); (focus ((simp [Zl]); done))) | ((with_reducible refine Za.gc (hW) ?_ ?_); (focus ((simp [Zl]); done)))); simp only [Zj, Zk, Int.reduceEq, Int.reduceNeg, Int.reduceLE, Int.reduceLT, Nat.reduceSub, ↓reduceIte, reduceCtorEq, Nat.reduceEqDiff, Nat.reduceAdd, Nat.reduceMul, Nat.reduceLeDiff, Nat.reduceLT, Nat.reduceBEq, Nat.reduceBNe, implies_true, Z4.rs, Z4.res, hx', hw, Int.toNat_zero, List.length_cons, List.length_nil]) | (with_reducible first | refine T.seq ?_ | refine T.block ?_ | assumption | refine And.intro ?_ ?_) | (intro h; first | (exfalso; omega) | exact (tf h ‹_›).elim | exact (tf ‹_› h).elim | skip))
    all_goals first | omega | skip
    exact ⟨true, (Ent.mk1 (id) (by simp [Z8, hw])), by decide⟩
  · repeat' (first | ((first | (with_reducible first | refine T.regs ?_ | refine T.cond ?_ | refine T.reg ?_ | refine T.ret ?_ | refine T.exit ?_ | refine T.skip ?_) | ((with_reducible first | refine T.dregs ?_ ?_ | refine T.dreg ?_ ?_ | refine T.dregts ?_ ?_ | refine T.dregt ?_ ?_ | refine T.danys ?_ ?_ | refine T.dany ?_ ?_); exact mix)); simp only [Zj, Zk, Int.reduceEq, Int.reduceNeg, Int.reduceLE, Int.reduceLT, Nat.reduceSub, ↓reduceIte, reduceCtorEq, Nat.reduceEqDiff, Nat.reduceAdd, Nat.reduceMul, Nat.reduceLeDiff, Nat.reduceLT, Nat.reduceBEq, Nat.reduceBNe, implies_true, Z4.rs, Z4.res, List.length_cons, List.length_nil]) | (with_reducible first | refine T.seq ?_ | refine T.block ?_ | assumption | refine And.intro ?_ ?_) | (intro h; first | (exfalso; omega) | exact (tf h ‹_›).elim | exact (tf ‹_› h).elim | skip))
    all_goals first | omega | skip
theorem El (l : List (List UInt8)) (v : List UInt8) : decide (0 ≤ Wt l v 0) = decide (v ∈ l) := by
  by_cases h : v ∈ l
  · have : ∀ (l : List (List UInt8)) (k : Nat), v ∈ l → 0 ≤ Wt l v k := by
      intro l
      induction l with
      | nil => intro k h; cases h
      | cons x l ih =>
        intro k h
        unfold Wt
        by_cases e : x = v
        · rw [if_pos e]; omega
        · rw [if_neg e]
          rcases List.mem_cons.1 h with h | h
          · exact absurd h.symm e
          · exact ih _ h
    rw [decide_eq_true (this l 0 h), decide_eq_true h]
  · rw [Na l v 0 h, decide_eq_false h]; rfl
theorem Fj (l : List (List UInt8)) (v : List UInt8) (hlen : l.length ≤ 9223372036854775807) :
    RdC Tryz.prog 17 [.ro .str l, .v (.a (.str v))] (.one (.a (.bool (decide (v ∈ l))))) := by
  refine Yr.fn.rd (by simp) (by repeat' (first | exact rfl | exact trivial | refine And.intro ?_ ?_ | (simp [SV.bd, Vc.S1.bd, At.bd, Zo, Zr, Ins.cells, Ln.cells]; done))) (by repeat' (first | exact rfl | exact trivial | refine And.intro ?_ ?_ | (simp [SV.bd, Vc.S1.bd, At.bd, Zo, Zr, Ins.cells, Ln.cells]; done))) fun w => ?_
  have h1 := El l v
  repeat' (first | ((first | (with_reducible first | refine T.regs ?_ | refine T.cond ?_ | refine T.reg ?_ | refine T.ret ?_ | refine T.exit ?_ | refine T.skip ?_) | ((with_reducible first | refine T.dregs ?_ ?_ | refine T.dreg ?_ ?_ | refine T.dregts ?_ ?_ | refine T.dregt ?_ ?_ | refine T.danys ?_ ?_ | refine T.dany ?_ ?_); exact mix) | ((with_reducible first | apply Za.rd (Qi l v hlen) | apply Zc.rd (Qi l v hlen)); (focus ((repeat' (first | exact rfl | exact trivial | refine And.intro ?_ ?_ | (simp [SV.bd, Vc.S1.bd, At.bd, Zo, Zr, Ins.cells, Ln.cells]; done))); done)))); simp only [Zj, Zk, Int.reduceEq, Int.reduceNeg, Int.reduceLE, Int.reduceLT, Nat.reduceSub, ↓reduceIte, reduceCtorEq, Nat.reduceEqDiff, Nat.reduceAdd, Nat.reduceMul, Nat.reduceLeDiff, Nat.reduceLT, Nat.reduceBEq, Nat.reduceBNe, implies_true, Yr.rs, Yr.res, h1]) | (with_reducible first | refine T.seq ?_ | refine T.block ?_ | assumption | refine And.intro ?_ ?_) | (intro h; first | (exfalso; omega) | exact (tf h ‹_›).elim | exact (tf ‹_› h).elim | skip))
end Go.Proofs.YtjochhncheheaaaGreatDoor
namespace Go.Proofs.YtjochhncheheaaaGreatDoor
open Go Go.RowKit Vc
set_option linter.unusedVariables false
set_option linter.unusedSimpArgs false
attribute [local irreducible] T Za Z2 Ent RdC RwC Xm Zc Zs
theorem I2 {G : Nat} {H : Nat → Option Obj} (hM : Xg G H) (hH : Y6 G H) (n : Nat) (hn : 1 ≤ n ∧ n ≤ 100) (acc : List UInt8) (hb : acc.length + (N3 n).length ≤ 100000) :
    GCp G H Tryz.prog 47 [.a (.loc 0 0)] [(0, .cells 64 [.loc 0 0, .ref 1, .int .i64 (n : Int)]), (1, .row 5 (.int .u8) (bytesI (acc)))] 2 [0] (.tup []) [(0, .cells 64 [.loc 0 0, .ref 2, .int .i64 (n : Int)]), (2, .row 5 (.int .u8) (bytesI (acc ++ N3 n)))] 3 := by
  have hC := F4 hM hH n hn acc hb
  generalize acc ++ N3 n = z at *
  refine Vr.fn.gcp (by simp) (by simp [Yn, Yp, Yo, Zw, Zq, Vc.S1.okN, At.okN, SV.okN, Res.okN, Res.outOk, Z1, Res.own, Value.oneCell']) fun w X fr hglob => ?_
  repeat' (first | ((first | (with_reducible first | refine T.regs ?_ | refine T.cond ?_ | refine T.reg ?_ | refine T.ret ?_ | refine T.exit ?_ | refine T.skip ?_) | ((with_reducible first | refine T.dregs ?_ ?_ | refine T.dreg ?_ ?_ | refine T.dregts ?_ ?_ | refine T.dregt ?_ ?_ | refine T.danys ?_ ?_ | refine T.dany ?_ ?_); exact mix) | ((with_reducible refine Za.gcp hglob (hC) ?_ ?_); (focus ((simp [Zl]); done)))); simp only [Zj, Zk, Int.reduceEq, Int.reduceNeg, Int.reduceLE, Int.reduceLT, Nat.reduceSub, ↓reduceIte, reduceCtorEq, Nat.reduceEqDiff, Nat.reduceAdd, Nat.reduceMul, Nat.reduceLeDiff, Nat.reduceLT, Nat.reduceBEq, Nat.reduceBNe, implies_true, Vr.rs, Vr.res]) | (with_reducible first | refine T.seq ?_ | refine T.block ?_ | assumption | refine And.intro ?_ ?_) | (intro h; first | (exfalso; omega) | exact (tf h ‹_›).elim | exact (tf ‹_› h).elim | skip))
  all_goals first | omega | skip
theorem I0 {G : Nat} {H : Nat → Option Obj} (hM : Xg G H) (hH : Y6 G H) (n : Nat) (hn : 1 ≤ n ∧ n ≤ 100) (acc : List UInt8) (hb : acc.length + (Np n).length ≤ 100000) :
    GCp G H Tryz.prog 49 [.a (.loc 0 0)] [(0, .cells 64 [.loc 0 0, .ref 1, .int .i64 (n : Int)]), (1, .row 5 (.int .u8) (bytesI (acc)))] 2 [0] (.tup []) [(0, .cells 64 [.loc 0 0, .ref 2, .int .i64 (n : Int)]), (2, .row 5 (.int .u8) (bytesI (acc ++ Np n)))] 3 := by
  have hC := Eb hM hH n hn acc hb
  generalize acc ++ Np n = z at *
  refine Vo.fn.gcp (by simp) (by simp [Yn, Yp, Yo, Zw, Zq, Vc.S1.okN, At.okN, SV.okN, Res.okN, Res.outOk, Z1, Res.own, Value.oneCell']) fun w X fr hglob => ?_
  repeat' (first | ((first | (with_reducible first | refine T.regs ?_ | refine T.cond ?_ | refine T.reg ?_ | refine T.ret ?_ | refine T.exit ?_ | refine T.skip ?_) | ((with_reducible first | refine T.dregs ?_ ?_ | refine T.dreg ?_ ?_ | refine T.dregts ?_ ?_ | refine T.dregt ?_ ?_ | refine T.danys ?_ ?_ | refine T.dany ?_ ?_); exact mix) | ((with_reducible refine Za.gcp hglob (hC) ?_ ?_); (focus ((simp [Zl]); done)))); simp only [Zj, Zk, Int.reduceEq, Int.reduceNeg, Int.reduceLE, Int.reduceLT, Nat.reduceSub, ↓reduceIte, reduceCtorEq, Nat.reduceEqDiff, Nat.reduceAdd, Nat.reduceMul, Nat.reduceLeDiff, Nat.reduceLT, Nat.reduceBEq, Nat.reduceBNe, implies_true, Vo.rs, Vo.res]) | (with_reducible first | refine T.seq ?_ | refine T.block ?_ | assumption | refine And.intro ?_ ?_) | (intro h; first | (exfalso; omega) | exact (tf h ‹_›).elim | exact (tf ‹_› h).elim | skip))
  all_goals first | omega | skip
theorem He {G : Nat} {H : Nat → Option Obj} (hM : Xg G H) (hH : Y6 G H) (n : Nat) (hn : 1 ≤ n ∧ n ≤ 100) (acc : List UInt8) (hb : acc.length + (Uy n).length ≤ 100000) :
    GCp G H Tryz.prog 50 [.a (.loc 0 0)] [(0, .cells 64 [.loc 0 0, .ref 1, .int .i64 (n : Int)]), (1, .row 5 (.int .u8) (bytesI (acc)))] 2 [0] (.tup []) [(0, .cells 64 [.loc 0 0, .ref 2, .int .i64 (n : Int)]), (2, .row 5 (.int .u8) (bytesI (acc ++ Uy n)))] 3 := by
  have hC := J9 hM hH n hn acc hb
  generalize acc ++ Uy n = z at *
  refine Vt.fn.gcp (by simp) (by simp [Yn, Yp, Yo, Zw, Zq, Vc.S1.okN, At.okN, SV.okN, Res.okN, Res.outOk, Z1, Res.own, Value.oneCell']) fun w X fr hglob => ?_
  repeat' (first | ((first | (with_reducible first | refine T.regs ?_ | refine T.cond ?_ | refine T.reg ?_ | refine T.ret ?_ | refine T.exit ?_ | refine T.skip ?_) | ((with_reducible first | refine T.dregs ?_ ?_ | refine T.dreg ?_ ?_ | refine T.dregts ?_ ?_ | refine T.dregt ?_ ?_ | refine T.danys ?_ ?_ | refine T.dany ?_ ?_); exact mix) | ((with_reducible refine Za.gcp hglob (hC) ?_ ?_); (focus ((simp [Zl]); done)))); simp only [Zj, Zk, Int.reduceEq, Int.reduceNeg, Int.reduceLE, Int.reduceLT, Nat.reduceSub, ↓reduceIte, reduceCtorEq, Nat.reduceEqDiff, Nat.reduceAdd, Nat.reduceMul, Nat.reduceLeDiff, Nat.reduceLT, Nat.reduceBEq, Nat.reduceBNe, implies_true, Vt.rs, Vt.res]) | (with_reducible first | refine T.seq ?_ | refine T.block ?_ | assumption | refine And.intro ?_ ?_) | (intro h; first | (exfalso; omega) | exact (tf h ‹_›).elim | exact (tf ‹_› h).elim | skip))
  all_goals first | omega | skip
theorem Hj {G : Nat} {H : Nat → Option Obj} (hM : Xg G H) (hH : Y6 G H) (n : Nat) (hn : 1 ≤ n ∧ n ≤ 100) (acc : List UInt8) (hb : acc.length + (U4 n).length ≤ 100000) :
    GCp G H Tryz.prog 52 [.a (.loc 0 0)] [(0, .cells 64 [.loc 0 0, .ref 1, .int .i64 (n : Int)]), (1, .row 5 (.int .u8) (bytesI (acc)))] 2 [0] (.tup []) [(0, .cells 64 [.loc 0 0, .ref 2, .int .i64 (n : Int)]), (2, .row 5 (.int .u8) (bytesI (acc ++ U4 n)))] 3 := by
  have hC := Ko hM hH n hn acc hb
  generalize acc ++ U4 n = z at *
  refine Vm.fn.gcp (by simp) (by simp [Yn, Yp, Yo, Zw, Zq, Vc.S1.okN, At.okN, SV.okN, Res.okN, Res.outOk, Z1, Res.own, Value.oneCell']) fun w X fr hglob => ?_
  repeat' (first | ((first | (with_reducible first | refine T.regs ?_ | refine T.cond ?_ | refine T.reg ?_ | refine T.ret ?_ | refine T.exit ?_ | refine T.skip ?_) | ((with_reducible first | refine T.dregs ?_ ?_ | refine T.dreg ?_ ?_ | refine T.dregts ?_ ?_ | refine T.dregt ?_ ?_ | refine T.danys ?_ ?_ | refine T.dany ?_ ?_); exact mix) | ((with_reducible refine Za.gcp hglob (hC) ?_ ?_); (focus ((simp [Zl]); done)))); simp only [Zj, Zk, Int.reduceEq, Int.reduceNeg, Int.reduceLE, Int.reduceLT, Nat.reduceSub, ↓reduceIte, reduceCtorEq, Nat.reduceEqDiff, Nat.reduceAdd, Nat.reduceMul, Nat.reduceLeDiff, Nat.reduceLT, Nat.reduceBEq, Nat.reduceBNe, implies_true, Vm.rs, Vm.res]) | (with_reducible first | refine T.seq ?_ | refine T.block ?_ | assumption | refine And.intro ?_ ?_) | (intro h; first | (exfalso; omega) | exact (tf h ‹_›).elim | exact (tf ‹_› h).elim | skip))
  all_goals first | omega | skip
theorem I8 {G : Nat} {H : Nat → Option Obj} (hM : Xg G H) (hH : Y6 G H) (n : Nat) (hn : 1 ≤ n ∧ n ≤ 100) (acc : List UInt8) (hb : acc.length + (Ia n).length ≤ 100000) :
    GCp G H Tryz.prog 53 [.a (.loc 0 0)] [(0, .cells 64 [.loc 0 0, .ref 1, .int .i64 (n : Int)]), (1, .row 5 (.int .u8) (bytesI (acc)))] 2 [0] (.tup []) [(0, .cells 64 [.loc 0 0, .ref 2, .int .i64 (n : Int)]), (2, .row 5 (.int .u8) (bytesI (acc ++ Ia n)))] 3 := by
  have hC := shl_gcp hM hH n hn acc hb
  generalize acc ++ Ia n = z at *
  refine W9.fn.gcp (by simp) (by simp [Yn, Yp, Yo, Zw, Zq, Vc.S1.okN, At.okN, SV.okN, Res.okN, Res.outOk, Z1, Res.own, Value.oneCell']) fun w X fr hglob => ?_
  repeat' (first | ((first | (with_reducible first | refine T.regs ?_ | refine T.cond ?_ | refine T.reg ?_ | refine T.ret ?_ | refine T.exit ?_ | refine T.skip ?_) | ((with_reducible first | refine T.dregs ?_ ?_ | refine T.dreg ?_ ?_ | refine T.dregts ?_ ?_ | refine T.dregt ?_ ?_ | refine T.danys ?_ ?_ | refine T.dany ?_ ?_); exact mix) | ((with_reducible refine Za.gcp hglob (hC) ?_ ?_); (focus ((simp [Zl]); done)))); simp only [Zj, Zk, Int.reduceEq, Int.reduceNeg, Int.reduceLE, Int.reduceLT, Nat.reduceSub, ↓reduceIte, reduceCtorEq, Nat.reduceEqDiff, Nat.reduceAdd, Nat.reduceMul, Nat.reduceLeDiff, Nat.reduceLT, Nat.reduceBEq, Nat.reduceBNe, implies_true, W9.rs, W9.res]) | (with_reducible first | refine T.seq ?_ | refine T.block ?_ | assumption | refine And.intro ?_ ?_) | (intro h; first | (exfalso; omega) | exact (tf h ‹_›).elim | exact (tf ‹_› h).elim | skip))
  all_goals first | omega | skip
theorem Hd {G : Nat} {H : Nat → Option Obj} (hM : Xg G H) (hH : Y6 G H) (n : Nat) (hn : 1 ≤ n ∧ n ≤ 100) (acc : List UInt8) (hb : acc.length + (I9 n).length ≤ 100000) :
    GCp G H Tryz.prog 55 [.a (.loc 0 0)] [(0, .cells 64 [.loc 0 0, .ref 1, .int .i64 (n : Int)]), (1, .row 5 (.int .u8) (bytesI (acc)))] 2 [0] (.tup []) [(0, .cells 64 [.loc 0 0, .ref 2, .int .i64 (n : Int)]), (2, .row 5 (.int .u8) (bytesI (acc ++ I9 n)))] 3 := by
  have hC := shr_gcp hM hH n hn acc hb
  generalize acc ++ I9 n = z at *
  refine Va.fn.gcp (by simp) (by simp [Yn, Yp, Yo, Zw, Zq, Vc.S1.okN, At.okN, SV.okN, Res.okN, Res.outOk, Z1, Res.own, Value.oneCell']) fun w X fr hglob => ?_
  repeat' (first | ((first | (with_reducible first | refine T.regs ?_ | refine T.cond ?_ | refine T.reg ?_ | refine T.ret ?_ | refine T.exit ?_ | refine T.skip ?_) | ((with_reducible first | refine T.dregs ?_ ?_ | refine T.dreg ?_ ?_ | refine T.dregts ?_ ?_ | refine T.dregt ?_ ?_ | refine T.danys ?_ ?_ | refine T.dany ?_ ?_); exact mix) | ((with_reducible refine Za.gcp hglob (hC) ?_ ?_); (focus ((simp [Zl]); done)))); simp only [Zj, Zk, Int.reduceEq, Int.reduceNeg, Int.reduceLE, Int.reduceLT, Nat.reduceSub, ↓reduceIte, reduceCtorEq, Nat.reduceEqDiff, Nat.reduceAdd, Nat.reduceMul, Nat.reduceLeDiff, Nat.reduceLT, Nat.reduceBEq, Nat.reduceBNe, implies_true, Va.rs, Va.res]) | (with_reducible first | refine T.seq ?_ | refine T.block ?_ | assumption | refine And.intro ?_ ?_) | (intro h; first | (exfalso; omega) | exact (tf h ‹_›).elim | exact (tf ‹_› h).elim | skip))
  all_goals first | omega | skip
theorem Iz {G : Nat} {H : Nat → Option Obj} (hM : Xg G H) (hH : Y6 G H) (n : Nat) (hn : 1 ≤ n ∧ n ≤ 100) (acc : List UInt8) (hb : acc.length + (Iv n).length ≤ 100000) :
    GCp G H Tryz.prog 56 [.a (.loc 0 0)] [(0, .cells 64 [.loc 0 0, .ref 1, .int .i64 (n : Int)]), (1, .row 5 (.int .u8) (bytesI (acc)))] 2 [0] (.tup []) [(0, .cells 64 [.loc 0 0, .ref 2, .int .i64 (n : Int)]), (2, .row 5 (.int .u8) (bytesI (acc ++ Iv n)))] 3 := by
  have hC := sar_gcp hM hH n hn acc hb
  generalize acc ++ Iv n = z at *
  refine W7.fn.gcp (by simp) (by simp [Yn, Yp, Yo, Zw, Zq, Vc.S1.okN, At.okN, SV.okN, Res.okN, Res.outOk, Z1, Res.own, Value.oneCell']) fun w X fr hglob => ?_
  repeat' (first | ((first | (with_reducible first | refine T.regs ?_ | refine T.cond ?_ | refine T.reg ?_ | refine T.ret ?_ | refine T.exit ?_ | refine T.skip ?_) | ((with_reducible first | refine T.dregs ?_ ?_ | refine T.dreg ?_ ?_ | refine T.dregts ?_ ?_ | refine T.dregt ?_ ?_ | refine T.danys ?_ ?_ | refine T.dany ?_ ?_); exact mix) | ((with_reducible refine Za.gcp hglob (hC) ?_ ?_); (focus ((simp [Zl]); done)))); simp only [Zj, Zk, Int.reduceEq, Int.reduceNeg, Int.reduceLE, Int.reduceLT, Nat.reduceSub, ↓reduceIte, reduceCtorEq, Nat.reduceEqDiff, Nat.reduceAdd, Nat.reduceMul, Nat.reduceLeDiff, Nat.reduceLT, Nat.reduceBEq, Nat.reduceBNe, implies_true, W7.rs, W7.res]) | (with_reducible first | refine T.seq ?_ | refine T.block ?_ | assumption | refine And.intro ?_ ?_) | (intro h; first | (exfalso; omega) | exact (tf h ‹_›).elim | exact (tf ‹_› h).elim | skip))
  all_goals first | omega | skip
set_option maxHeartbeats 4000000 in
set_option maxRecDepth 100000 in
theorem Ec {G : Nat} {H : Nat → Option Obj} (s : List UInt8) (f : Nat) (d : UInt8) (n : Nat) (nm hd body : List UInt8) (hnm : nm = s ++ [d]) (hhd : hd = nm ++ [58] ++ [10]) (hf : flk Rc s = some f) (hd1 : IntKind.u8.wrap (((d.toNat : Nat) : Int) - 48) = (n : Int)) (hn : n ≤ 100) (hs : s.length ≤ 10) (hin : nm ∈ Xk)
    (hent : Zt Tryz.prog f = true) (hC : GCp G H Tryz.prog f [.a (.loc 0 0)] [(0, .cells 64 [.loc 0 0, .ref 1, .int .i64 (n : Int)]), (1, .row 5 (.int .u8) (bytesI (hd)))] 2 [0] (.tup []) [(0, .cells 64 [.loc 0 0, .ref 2, .int .i64 (n : Int)]), (2, .row 5 (.int .u8) (bytesI (hd ++ body)))] 3) :
    GCp G H Tryz.prog 9 [.a (.str nm)] [] 0 [] (.tup [.a (.str (hd ++ body)), .a (.int .i64 0)]) [] 0 := by
  have hlen : nm.length = s.length + 1 := by rw [hnm]; simp
  have hCon := Fj Xk nm (by decide)
  rw [decide_eq_true hin] at hCon
  have hput := Gv (n : Int) (nm ++ [58]) (by simp only [List.length_append, List.length_cons, List.length_nil]; omega) (by rw [hnm]; simp [Lib.hasSuffix, List.isSuffixOf, List.isPrefixOf])
  rw [← hhd] at hput
  have hstr := Em (n : Int) (hd ++ body) (by rw [hhd]; simp)
  have hk : IntKind.i64.wrap ((nm.length : Int) - 1) = (s.length : Int) := by rw [Z7 (by omega) (by omega)]; omega
  have hkt : ((s.length : Int)).toNat = s.length := by omega
  have htake : nm.take s.length = s := by rw [hnm]; simp
  have hget : Y3 nm s.length = ((d.toNat : Nat) : Int) := by rw [hnm]; simp [Y3]
  have hwn : IntKind.i64.wrap (n : Int) = (n : Int) := Z7 (by omega) (by omega)
  generalize hd ++ body = tx at *
  refine Ro.fn.gcp (by simp) (by simp [Yn, Yp, Yo, Zw, Zq, Vc.S1.okN, At.okN, SV.okN, Res.okN, Res.outOk, Z1, Res.own, Value.oneCell']) fun w X fr hglob => ?_
  repeat' (first | ((first | (with_reducible first | refine T.regs ?_ | refine T.cond ?_ | refine T.reg ?_ | refine T.ret ?_ | refine T.exit ?_ | refine T.skip ?_) | ((with_reducible first | refine T.dregs ?_ ?_ | refine T.dreg ?_ ?_ | refine T.dregts ?_ ?_ | refine T.dregt ?_ ?_ | refine T.danys ?_ ?_ | refine T.dany ?_ ?_); exact mix) | ((with_reducible refine Za.gc (Ot) ?_ ?_); (focus ((simp [Zl]); done))) | ((with_reducible first | apply Za.rd (hCon) | apply Zc.rd (hCon)); (focus ((repeat' (first | exact rfl | exact trivial | refine And.intro ?_ ?_ | (simp [SV.bd, Vc.S1.bd, At.bd, Zo, Zr, Ins.cells, Ln.cells]; done))); done))) | ((with_reducible refine Za.gc (hput) ?_ ?_); (focus ((simp [Zl]); done))) | ((with_reducible refine Za.gc (K1) ?_ ?_); (focus ((simp [Zl]); done))) | ((with_reducible refine Za.gcp hglob (hC) ?_ ?_); (focus ((simp [Zl]); done))) | ((with_reducible refine Za.gc (hstr) ?_ ?_); (focus ((simp [Zl]); done)))); simp only [Zj, Zk, Int.reduceEq, Int.reduceNeg, Int.reduceLE, Int.reduceLT, Nat.reduceSub, ↓reduceIte, reduceCtorEq, Nat.reduceEqDiff, Nat.reduceAdd, Nat.reduceMul, Nat.reduceLeDiff, Nat.reduceLT, Nat.reduceBEq, Nat.reduceBNe, implies_true, Ro.rs, Ro.res, hf, hk, hkt, htake, hget, hd1, hwn, hent, Int.toNat_zero, List.drop_zero, Bool.not_true, Bool.not_false]) | (with_reducible first | refine T.seq ?_ | refine T.block ?_ | assumption | refine And.intro ?_ ?_) | (intro h; first | (exfalso; omega) | exact (tf h ‹_›).elim | exact (tf ‹_› h).elim | skip))
  all_goals first | omega | skip
end Go.Proofs.YtjochhncheheaaaGreatDoor
namespace Go.Proofs.YtjochhncheheaaaGreatDoor
open Go Go.RowKit Vc
set_option linter.unusedVariables false
set_option linter.unusedSimpArgs false
attribute [local irreducible] T Za Z2 Ent RdC RwC Xm Zc Zs
def H6 : List (List UInt8) := [[109, 117, 108], [115, 97, 114], [115, 100, 105, 118], [115, 104, 108], [115, 104, 114], [115, 114, 101, 109], [117, 100, 105, 118], [117, 114, 101, 109]]
def H7 : List Nat := [46, 56, 50, 53, 55, 52, 47, 49]
def Nq : Nat → Nat → List UInt8
  | 0, n => mulS n
  | 1, n => Iv n
  | 2, n => Uy n
  | 3, n => Ia n
  | 4, n => I9 n
  | 5, n => U4 n
  | 6, n => N3 n
  | _, n => Np n
def Rn : Nat → Nat
  | 0 => 1
  | 1 => 2
  | _ => 4
def L6 : Nat → UInt8
  | 0 => 49
  | 1 => 50
  | _ => 52
def nameAt (i : Nat) : List UInt8 := Xk.getD i []
def textAt (i : Nat) : List UInt8 := (nameAt i ++ [58] ++ [10]) ++ Nq (i / 3) (Rn (i % 3))
theorem name_of : ∀ k, k < 8 → ∀ j, j < 3 → nameAt (3 * k + j) = H6.getD k [] ++ [L6 j] := by decide +kernel
theorem flk_of : ∀ k, k < 8 → flk Rc (H6.getD k []) = some (H7.getD k 0) := by decide +kernel
theorem E1 : ∀ k, k < 8 → ∀ j, j < 3 → (Nq k (Rn j)).length ≤ 2000 := by decide +kernel
theorem name_in : ∀ k, k < 8 → ∀ j, j < 3 → nameAt (3 * k + j) ∈ Xk := by decide +kernel
theorem Fh : ∀ k, k < 8 → (H6.getD k []).length ≤ 10 := by decide +kernel
theorem F7 : ∀ k, k < 8 → ∀ j, j < 3 → (3 * k + j) / 3 = k ∧ (3 * k + j) % 3 = j := by omega
theorem Ej : ∀ j, j < 3 → IntKind.u8.wrap (((L6 j).toNat : Int) - 48) = (Rn j : Int) ∧ 1 ≤ Rn j ∧ Rn j ≤ 100 := by decide +kernel
theorem Ea : ∀ i, i < 24 → (nameAt i).length ≤ 5 := by decide +kernel
theorem W5 {G : Nat} {H : Nat → Option Obj} (k : Nat) (hk : k < 8) (hent : Zt Tryz.prog (H7.getD k 0) = true)
    (hC : ∀ n : Nat, 1 ≤ n ∧ n ≤ 100 → ∀ acc : List UInt8, acc.length + (Nq k n).length ≤ 100000 →
      GCp G H Tryz.prog (H7.getD k 0) [.a (.loc 0 0)] [(0, .cells 64 [.loc 0 0, .ref 1, .int .i64 (n : Int)]), (1, .row 5 (.int .u8) (bytesI acc))] 2 [0] (.tup []) [(0, .cells 64 [.loc 0 0, .ref 2, .int .i64 (n : Int)]), (2, .row 5 (.int .u8) (bytesI (acc ++ Nq k n)))] 3) (j : Nat) (hj : j < 3) :
    GCp G H Tryz.prog 9 [.a (.str (nameAt (3 * k + j)))] [] 0 [] (.tup [.a (.str (textAt (3 * k + j))), .a (.int .i64 0)]) [] 0 := by
  have hnl := Ea (3 * k + j) (by omega)
  obtain ⟨h1, h2⟩ := F7 k hk j hj
  obtain ⟨h3, h4, h5⟩ := Ej j hj
  unfold textAt
  rw [h1, h2]
  exact Ec (H6.getD k []) (H7.getD k 0) (L6 j) (Rn j) (nameAt (3 * k + j)) (nameAt (3 * k + j) ++ [58] ++ [10]) (Nq k (Rn j)) (name_of k hk j hj) rfl (flk_of k hk) h3 h5 (Fh k hk) (name_in k hk j hj) hent
    (hC (Rn j) ⟨h4, h5⟩ _ (by have := E1 k hk j hj; simp only [List.length_append, List.length_cons, List.length_nil]; omega))
theorem Fw {G : Nat} {H : Nat → Option Obj} (hM : Xg G H) (hH : Y6 G H) (i : Nat) (hi : i < 24) :
    GCp G H Tryz.prog 9 [.a (.str (nameAt i))] [] 0 [] (.tup [.a (.str (textAt i)), .a (.int .i64 0)]) [] 0 := by
  have e : i = 3 * (i / 3) + i % 3 := by omega
  have hj : i % 3 < 3 := by omega
  have hk : i / 3 = 0 ∨ i / 3 = 1 ∨ i / 3 = 2 ∨ i / 3 = 3 ∨ i / 3 = 4 ∨ i / 3 = 5 ∨ i / 3 = 6 ∨ i / 3 = 7 := by omega
  rw [e]
  generalize i % 3 = j at hj
  generalize i / 3 = k at hk
  clear e hi
  rcases hk with rfl | rfl | rfl | rfl | rfl | rfl | rfl | rfl
  · exact W5 0 (by decide) Y2.enters (fun n hn acc hb => mul_gcp hM hH n hn acc hb) j hj
  · exact W5 1 (by decide) W7.enters (fun n hn acc hb => Iz hM hH n hn acc hb) j hj
  · exact W5 2 (by decide) Vt.enters (fun n hn acc hb => He hM hH n hn acc hb) j hj
  · exact W5 3 (by decide) W9.enters (fun n hn acc hb => I8 hM hH n hn acc hb) j hj
  · exact W5 4 (by decide) Va.enters (fun n hn acc hb => Hd hM hH n hn acc hb) j hj
  · exact W5 5 (by decide) Vm.enters (fun n hn acc hb => Hj hM hH n hn acc hb) j hj
  · exact W5 6 (by decide) Vr.enters (fun n hn acc hb => I2 hM hH n hn acc hb) j hj
  · exact W5 7 (by decide) Vo.enters (fun n hn acc hb => I0 hM hH n hn acc hb) j hj
def linesAt (i : Nat) : List Ln := (P0 (textAt i)).1
theorem Jv : ∀ i, i < 24 → (P0 (textAt i)).2 = (0, 0) ∧ (textAt i).length ≤ 2000 ∧ (linesAt i).length ≤ 100 := by decide +kernel
def unitsTo (i : Nat) : List (List UInt8 × List Ln) := (List.range i).map fun k => (nameAt k, linesAt k)
theorem Kb (i : Nat) : unitsTo (i + 1) = unitsTo i ++ [(nameAt i, linesAt i)] := by simp [unitsTo, List.range_succ]
theorem Rk (i : Nat) : (unitsTo i).length = i := by simp [unitsTo]
end Go.Proofs.YtjochhncheheaaaGreatDoor
