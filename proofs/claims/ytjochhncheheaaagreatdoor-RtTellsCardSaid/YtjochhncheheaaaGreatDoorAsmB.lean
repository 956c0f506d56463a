/-
  A part of the proofs of this seat's laws: a step on the way. It has no conditions of its own.
-/
import Derived.Test.YtjochhncheheaaaGreatDoorAsmA
import Derived.Test.YtjochhncheheaaaGreatDoorIrA
namespace Go.Proofs.YtjochhncheheaaaGreatDoor
open Go.RowKit Vc
set_option linter.unusedVariables false
set_option linter.unusedSimpArgs false
attribute [local irreducible] T Za Z2 Ent RdC RwC Xl Zc Zs
def Wf : List Ln → Nat → Int → List (List UInt8) → List Spot → List Spot × Int × Int × Int
  | [], _, at_, _, acc => (acc, at_, 0, 0)
  | x :: l, k, at_, seen, acc => if Ve x ≠ 0 then ([], 0, Ve x, k) else
      if x.label ≠ [] then (if x.label ∈ seen then ([], 0, 7, k) else Wf l (k + 1) at_ (x.label :: seen) (acc ++ [⟨x.label, at_⟩]))
      else if 65536 < at_ + Sw x then ([], 0, 4, k) else Wf l (k + 1) (at_ + Sw x) seen acc
def Yf (l : List Ln) (at_ : Int) : List Spot × Int × Int × Int := Wf l 0 at_ [] []
def Oq (seen : List (List UInt8)) : List UInt8 → Option (Kd.ty .bool) := fun s => if s ∈ seen then some true else none
theorem Fh : Oq [] = fun _ => none := by funext s; simp [Oq]
theorem Hf (s : List UInt8) (seen : List (List UInt8)) : (fun t => if t = s then some true else Oq seen t) = Oq (s :: seen) := by
  funext t; simp only [Oq, List.mem_cons]
  by_cases h : t = s <;> simp [h]
theorem Rk {s : List UInt8} (h : Xo s = true) : s.length ≤ 32 := by
  simp only [Xo, Bool.and_eq_true, decide_eq_true_eq] at h; omega
theorem T7 {x : Ln} (h : Ve x = 0) (hl : x.label ≠ []) : Xo x.label = true ∧ x.ref = [] ∧ x.ins = W1 := by
  unfold Ve at h
  rw [if_pos hl] at h
  split at h
  · omega
  · rename_i hn
    split at h
    · omega
    · rename_i h2
      simp only [not_or, ne_eq, Decidable.not_not] at h2
      exact ⟨by simpa using hn, h2⟩
theorem Qa {x : Ln} (h : Ve x = 0) (hl : x.label = []) : Xp x.ins = 0 ∧ (x.ref ≠ [] → Xo x.ref = true ∧ Vh x.ins.op = true ∧ x.ins.imm = 0) := by
  unfold Ve at h
  rw [if_neg (by simpa using hl)] at h
  split at h
  · rename_i h1; exact absurd h h1
  · rename_i h1
    refine ⟨by simpa using h1, fun hr => ?_⟩
    rw [if_neg hr] at h
    split at h
    · omega
    · rename_i hn
      split at h
      · omega
      · rename_i h2
        simp only [not_or, ne_eq, Decidable.not_not, Bool.not_eq_false] at h2
        exact ⟨by simpa using hn, h2⟩
theorem Lq {x : Ins} (h : Xp x = 0) : Wb x.op = true := by
  unfold Xp at h
  split at h
  · omega
  · rename_i hk; simpa using hk
theorem Fa {x : Ln} (h : x.label = []) : Sw x = O3 x.ins.op := by
  unfold Sw O3; rw [if_neg (by simpa using h)]
theorem Ks (x : Ln) : 0 ≤ Sw x ∧ Sw x ≤ 2 := by
  unfold Sw; repeat' split
  all_goals omega
theorem dfltB : Kd.dflt .bool = false := rfl
set_option maxHeartbeats 2000000 in
theorem Rt (l : List Ln) (at_ : Int) (hlen : l.length ≤ 40000) (h0 : 0 ≤ at_) (h1 : at_ ≤ 65536) :
    RwC Tryz.prog 23 [.ro .line l, .v (.a (.int .i64 at_))] 79 .spot (Yf l at_).1 [.a (.int .i64 (Yf l at_).2.1), .agg [.int .i64 (Yf l at_).2.2.1, .int .i64 (Yf l at_).2.2.2]] := by
  refine Y4.fn.rw (by simp) (by repeat' (first | exact rfl | exact trivial | refine And.intro ?_ ?_ | (simp [SV.bd, Vc.S1.bd, At.bd, Zq, Zr, Ins.cells, Ln.cells]; done))) (by simp [S1.bd, At.bd]) fun w => ?_
  repeat' (first | ((first | (with_reducible first | refine T.regs ?_ | refine T.cond ?_ | refine T.reg ?_ | refine T.ret ?_ | refine T.exit ?_ | refine T.skip ?_) | ((with_reducible first | refine T.dregs ?_ ?_ | refine T.dreg ?_ ?_ | refine T.dregts ?_ ?_ | refine T.dregt ?_ ?_ | refine T.danys ?_ ?_ | refine T.dany ?_ ?_); exact mix)); simp only [Zh, Zi, Int.reduceEq, Int.reduceNeg, Int.reduceLE, Int.reduceLT, Nat.reduceSub, ↓reduceIte, reduceCtorEq, Nat.reduceEqDiff, Nat.reduceAdd, Nat.reduceMul, Nat.reduceLeDiff, Nat.reduceLT, Nat.reduceBEq, Nat.reduceBNe, implies_true, Y4.rs, Y4.res]) | (with_reducible first | refine T.seq ?_ | refine T.block ?_ | assumption | refine And.intro ?_ ?_) | (intro h; first | (exfalso; omega) | exact (tf h ‹_›).elim | exact (tf ‹_› h).elim | skip))
  refine T.weak (Ent.nilRow (t := 7) 79 .spot rfl) ?_
  simp only [Zh, Zi, Int.reduceEq, Int.reduceNeg, Int.reduceLE, Int.reduceLT, Nat.reduceSub, ↓reduceIte, reduceCtorEq, Nat.reduceEqDiff, Nat.reduceAdd, Nat.reduceMul, Nat.reduceLeDiff, Nat.reduceLT, Nat.reduceBEq, Nat.reduceBNe, implies_true]
  refine T.loop (ι := { p : Nat × Int × List (List UInt8) × List Spot // p.1 ≤ l.length ∧ Wf (l.drop p.1) p.1 p.2.1 p.2.2.1 p.2.2.2 = Yf l at_ ∧ 0 ≤ p.2.1 ∧ p.2.1 ≤ 65536 ∧ p.2.2.1.length ≤ p.1 ∧ p.2.2.2.length ≤ p.1 })
    (fun x => ⟨[(17, .one (.a (.int .i64 (x.1.1 : Int)))), (16, .one (.a (.int .i64 l.length))), (15, .one (.a (.ref 0))), (8, .one (.a (.ref 2))), (7, .one (.a (.ref 3))), (6, .one (.a (.loc 1 0))), (1, .one (.a (.int .i64 x.1.2.1)))],
      [(3, .row 79 .spot x.1.2.2.2), (2, .smap Tryz.prog 9 4 .bool (Oq x.1.2.2.1) x.1.2.2.1.length), (1, .cells 32 [.int .i64 0, .int .i64 0]), (0, .ro .line l)], 4⟩)
    (fun x => l.length - x.1.1) ⟨(0, at_, [], []), by simp, by simp [Yf], h0, h1, by simp, by simp⟩ (Ent.mk1 (id) (by simp [Z7, Fh])) ?_
  rintro ⟨⟨k, a, seen, acc⟩, hk, hrun, ha0, ha1, hs, hacc⟩
  simp only at hk hrun ha0 ha1 hs hacc
  by_cases hlt : k < l.length
  · have hdrop : l.drop k = l.getD k ln0 :: l.drop (k + 1) := by
      rw [List.drop_eq_getElem_cons hlt]; simp [List.getD, hlt]
    generalize hx : l.getD k ln0 = x at hdrop
    have hx' : l.getD k (Kd.dflt .line) = x := hx
    rw [hdrop] at hrun
    simp only [Wf] at hrun
    have hw : IntKind.i64.wrap ((k : Int) + 1) = ((k + 1 : Nat) : Int) := Z4 (by omega)
    have ht : ((k : Int)).toNat = k := by omega
    by_cases hwr : Ve x = 0
    · rw [if_neg (by simpa using hwr)] at hrun
      by_cases hlb : x.label = []
      · rw [if_neg (by simpa using hlb)] at hrun
        have hkn := Lq (Qa hwr hlb).1
        have hlg := Fa hlb
        have hle := Ks x
        rw [hlg] at hrun hle
        have hwa : IntKind.i64.wrap (a + O3 x.ins.op) = a + O3 x.ins.op := Ya (by omega) (by omega)
        have hlbd : decide (x.label = []) = true := decide_eq_true hlb
        repeat' (first | ((first | (with_reducible first | refine T.regs ?_ | refine T.cond ?_ | refine T.reg ?_ | refine T.ret ?_ | refine T.exit ?_ | refine T.skip ?_) | ((with_reducible first | refine T.dregs ?_ ?_ | refine T.dreg ?_ ?_ | refine T.dregts ?_ ?_ | refine T.dregt ?_ ?_ | refine T.danys ?_ ?_ | refine T.dany ?_ ?_); exact mix) | ((with_reducible first | apply Za.rd (Xy _) | apply Zc.rd (Xy _)); (focus ((repeat' (first | exact rfl | exact trivial | refine And.intro ?_ ?_ | (simp [SV.bd, Vc.S1.bd, At.bd, Zq, Zr, Ins.cells, Ln.cells]; done))); done))) | ((with_reducible first | apply Za.rd (Je _ hkn) | apply Zc.rd (Je _ hkn)); (focus ((repeat' (first | exact rfl | exact trivial | refine And.intro ?_ ?_ | (simp [SV.bd, Vc.S1.bd, At.bd, Zq, Zr, Ins.cells, Ln.cells]; done))); done)))); simp only [Zh, Zi, Int.reduceEq, Int.reduceNeg, Int.reduceLE, Int.reduceLT, Nat.reduceSub, ↓reduceIte, reduceCtorEq, Nat.reduceEqDiff, Nat.reduceAdd, Nat.reduceMul, Nat.reduceLeDiff, Nat.reduceLT, Nat.reduceBEq, Nat.reduceBNe, implies_true, Y4.rs, Y4.res, hx', hw, ht, hwr, hlbd, hwa, Int.ofNat_lt]) | (with_reducible first | refine T.seq ?_ | refine T.block ?_ | assumption | refine And.intro ?_ ?_) | (intro h; first | (exfalso; omega) | exact (tf h ‹_›).elim | exact (tf ‹_› h).elim | skip))
        all_goals first | omega | (rw [if_pos (by assumption)] at hrun; rw [← hrun]; done) | skip
        · rw [if_neg (by assumption)] at hrun
          exact ⟨⟨(k + 1, a + O3 x.ins.op, seen, acc), hlt, hrun, by simp only; omega, by simp only; omega, by simp only; omega, by simp only; omega⟩, (Ent.mk1 (id) (by simp [Z7, hw])), by simp only; omega⟩
      · rw [if_pos hlb] at hrun
        have hnm := Rk (T7 hwr hlb).1
        have hseen : (Oq seen x.label) = if x.label ∈ seen then some true else none := rfl
        by_cases hin : x.label ∈ seen
        · rw [if_pos hin] at hrun
          rw [if_pos hin] at hseen
          repeat' (first | ((first | (with_reducible first | refine T.regs ?_ | refine T.cond ?_ | refine T.reg ?_ | refine T.ret ?_ | refine T.exit ?_ | refine T.skip ?_) | ((with_reducible first | refine T.dregs ?_ ?_ | refine T.dreg ?_ ?_ | refine T.dregts ?_ ?_ | refine T.dregt ?_ ?_ | refine T.danys ?_ ?_ | refine T.dany ?_ ?_); exact mix) | ((with_reducible first | apply Za.rd (Xy _) | apply Zc.rd (Xy _)); (focus ((repeat' (first | exact rfl | exact trivial | refine And.intro ?_ ?_ | (simp [SV.bd, Vc.S1.bd, At.bd, Zq, Zr, Ins.cells, Ln.cells]; done))); done)))); simp only [Zh, Zi, Int.reduceEq, Int.reduceNeg, Int.reduceLE, Int.reduceLT, Nat.reduceSub, ↓reduceIte, reduceCtorEq, Nat.reduceEqDiff, Nat.reduceAdd, Nat.reduceMul, Nat.reduceLeDiff, Nat.reduceLT, Nat.reduceBEq, Nat.reduceBNe, implies_true, Y4.rs, Y4.res, hx', hw, ht, hwr, hlb, hseen, Int.ofNat_lt]) | (with_reducible first | refine T.seq ?_ | refine T.block ?_ | assumption | refine And.intro ?_ ?_) | (intro h; first | (exfalso; omega) | exact (tf h ‹_›).elim | exact (tf ‹_› h).elim | skip))
          all_goals first | omega | (rw [← hrun]; done) | skip
        · rw [if_neg hin] at hrun
          rw [if_neg hin] at hseen
          repeat' (first | ((first | (with_reducible first | refine T.regs ?_ | refine T.cond ?_ | refine T.reg ?_ | refine T.ret ?_ | refine T.exit ?_ | refine T.skip ?_) | ((with_reducible first | refine T.dregs ?_ ?_ | refine T.dreg ?_ ?_ | refine T.dregts ?_ ?_ | refine T.dregt ?_ ?_ | refine T.danys ?_ ?_ | refine T.dany ?_ ?_); exact mix) | ((with_reducible first | apply Za.rd (Xy _) | apply Zc.rd (Xy _)); (focus ((repeat' (first | exact rfl | exact trivial | refine And.intro ?_ ?_ | (simp [SV.bd, Vc.S1.bd, At.bd, Zq, Zr, Ins.cells, Ln.cells]; done))); done)))); simp only [Zh, Zi, Int.reduceEq, Int.reduceNeg, Int.reduceLE, Int.reduceLT, Nat.reduceSub, ↓reduceIte, reduceCtorEq, Nat.reduceEqDiff, Nat.reduceAdd, Nat.reduceMul, Nat.reduceLeDiff, Nat.reduceLT, Nat.reduceBEq, Nat.reduceBNe, implies_true, Y4.rs, Y4.res, hx', hw, ht, hwr, hlb, hseen, Hf, dfltB, Int.ofNat_lt]) | (with_reducible first | refine T.seq ?_ | refine T.block ?_ | assumption | refine And.intro ?_ ?_) | (intro h; first | (exfalso; omega) | exact (tf h ‹_›).elim | exact (tf ‹_› h).elim | skip))
          all_goals first | omega | skip
          exact ⟨⟨(k + 1, a, x.label :: seen, acc ++ [⟨x.label, a⟩]), hlt, hrun, ha0, ha1, by simp only [List.length_cons]; omega, by simp only [List.length_append, List.length_cons, List.length_nil]; omega⟩, (Ent.mk1 (fun n => if n = 3 then 6 else n) (by simp [Z7, hw])), by simp only; omega⟩
    · rw [if_pos (by simpa using hwr)] at hrun
      repeat' (first | ((first | (with_reducible first | refine T.regs ?_ | refine T.cond ?_ | refine T.reg ?_ | refine T.ret ?_ | refine T.exit ?_ | refine T.skip ?_) | ((with_reducible first | refine T.dregs ?_ ?_ | refine T.dreg ?_ ?_ | refine T.dregts ?_ ?_ | refine T.dregt ?_ ?_ | refine T.danys ?_ ?_ | refine T.dany ?_ ?_); exact mix) | ((with_reducible first | apply Za.rd (Xy _) | apply Zc.rd (Xy _)); (focus ((repeat' (first | exact rfl | exact trivial | refine And.intro ?_ ?_ | (simp [SV.bd, Vc.S1.bd, At.bd, Zq, Zr, Ins.cells, Ln.cells]; done))); done)))); simp only [Zh, Zi, Int.reduceEq, Int.reduceNeg, Int.reduceLE, Int.reduceLT, Nat.reduceSub, ↓reduceIte, reduceCtorEq, Nat.reduceEqDiff, Nat.reduceAdd, Nat.reduceMul, Nat.reduceLeDiff, Nat.reduceLT, Nat.reduceBEq, Nat.reduceBNe, implies_true, Y4.rs, Y4.res, hx', hw, ht, hwr, Int.ofNat_lt]) | (with_reducible first | refine T.seq ?_ | refine T.block ?_ | assumption | refine And.intro ?_ ?_) | (intro h; first | (exfalso; omega) | exact (tf h ‹_›).elim | exact (tf ‹_› h).elim | skip))
      all_goals first | omega | (rw [← hrun]; done) | skip
  · have hk2 : k = l.length := by omega
    subst hk2
    rw [List.drop_length] at hrun
    simp only [Wf] at hrun
    repeat' (first | ((first | (with_reducible first | refine T.regs ?_ | refine T.cond ?_ | refine T.reg ?_ | refine T.ret ?_ | refine T.exit ?_ | refine T.skip ?_) | ((with_reducible first | refine T.dregs ?_ ?_ | refine T.dreg ?_ ?_ | refine T.dregts ?_ ?_ | refine T.dregt ?_ ?_ | refine T.danys ?_ ?_ | refine T.dany ?_ ?_); exact mix)); simp only [Zh, Zi, Int.reduceEq, Int.reduceNeg, Int.reduceLE, Int.reduceLT, Nat.reduceSub, ↓reduceIte, reduceCtorEq, Nat.reduceEqDiff, Nat.reduceAdd, Nat.reduceMul, Nat.reduceLeDiff, Nat.reduceLT, Nat.reduceBEq, Nat.reduceBNe, implies_true, Y4.rs, Y4.res, Int.ofNat_lt]) | (with_reducible first | refine T.seq ?_ | refine T.block ?_ | assumption | refine And.intro ?_ ?_) | (intro h; first | (exfalso; omega) | exact (tf h ‹_›).elim | exact (tf ‹_› h).elim | skip))
    all_goals first | omega | (rw [← hrun]; done) | skip
end Go.Proofs.YtjochhncheheaaaGreatDoor
namespace Go.Proofs.YtjochhncheheaaaGreatDoor
open Go.RowKit Vc
set_option linter.unusedVariables false
set_option linter.unusedSimpArgs false
attribute [local irreducible] T Za Z2 Ent RdC RwC Xl Zc Zs
def Ti (h : List UInt8 → Int × Bool) : List Ln → Nat → List Ins → List Ins × Int × Int
  | [], _, acc => (acc, 0, 0)
  | x :: l, k, acc => if x.label ≠ [] then Ti h l (k + 1) acc
      else if x.ref ≠ [] then (if (h x.ref).2 = false then ([], 6, k) else Ti h l (k + 1) (acc ++ [⟨x.ins.op, x.ins.d, x.ins.s, Lt .i64 (h x.ref).1 65535⟩]))
      else Ti h l (k + 1) (acc ++ [x.ins])
def Vq (h : List UInt8 → Int × Bool) (l : List Ln) : List Ins × Int × Int := Ti h l 0 []
def Knows (g : List S1 → Option SV) (h : List UInt8 → Int × Bool) (l : List Ln) : Prop :=
  ∀ x ∈ l, x.label = [] → x.ref ≠ [] → g [.a (.str x.ref)] = some (.tup [.a (.int .i64 (h x.ref).1), .a (.bool (h x.ref).2)])
set_option maxHeartbeats 2000000 in
theorem Ih (l : List Ln) (g : List S1 → Option SV) (kn : List UInt8 → Int × Bool) (hg : Knows g kn l) (hlen : l.length ≤ 40000) :
    GC Tryz.prog 28 [.a (.ref 0), .a (.ref 1)] [(0, .ro .line l), (1, .fn Tryz.prog g)] 2 [] (.tup [.a (.ref 2), .agg [.int .i64 (Vq kn l).2.1, .int .i64 (Vq kn l).2.2]])
      [(2, .row 38 .ins (Vq kn l).1)] 3 := by
  refine Yl.fn.gc (by simp) (by simp [Yo, Yr, Yp, Zw, Zp, Vc.S1.okN, At.okN, SV.okN, Res.okN, Res.outOk, Z1, Res.own, Value.oneCell']) fun w X fr => ?_
  repeat' (first | ((first | (with_reducible first | refine T.regs ?_ | refine T.cond ?_ | refine T.reg ?_ | refine T.ret ?_ | refine T.exit ?_ | refine T.skip ?_) | ((with_reducible first | refine T.dregs ?_ ?_ | refine T.dreg ?_ ?_ | refine T.dregts ?_ ?_ | refine T.dregt ?_ ?_ | refine T.danys ?_ ?_ | refine T.dany ?_ ?_); exact mix)); simp only [Zh, Zi, Int.reduceEq, Int.reduceNeg, Int.reduceLE, Int.reduceLT, Nat.reduceSub, ↓reduceIte, reduceCtorEq, Nat.reduceEqDiff, Nat.reduceAdd, Nat.reduceMul, Nat.reduceLeDiff, Nat.reduceLT, Nat.reduceBEq, Nat.reduceBNe, implies_true, Yl.rs, Yl.res]) | (with_reducible first | refine T.seq ?_ | refine T.block ?_ | assumption | refine And.intro ?_ ?_) | (intro h; first | (exfalso; omega) | exact (tf h ‹_›).elim | exact (tf ‹_› h).elim | skip))
  refine T.weak (Ent.nilRow (t := 6) 38 .ins rfl) ?_
  simp only [Zh, Zi, Int.reduceEq, Int.reduceNeg, Int.reduceLE, Int.reduceLT, Nat.reduceSub, ↓reduceIte, reduceCtorEq, Nat.reduceEqDiff, Nat.reduceAdd, Nat.reduceMul, Nat.reduceLeDiff, Nat.reduceLT, Nat.reduceBEq, Nat.reduceBNe, implies_true]
  refine T.loop (ι := { p : Nat × List Ins // p.1 ≤ l.length ∧ Ti kn (l.drop p.1) p.1 p.2 = Vq kn l ∧ p.2.length ≤ p.1 })
    (fun x => ⟨[(14, .one (.a (.int .i64 (x.1.1 : Int)))), (13, .one (.a (.int .i64 l.length))), (12, .one (.a (.ref 0))), (6, .one (.a (.ref 3))), (5, .one (.a (.loc 2 0))), (1, .one (.a (.ref 1)))],
      [(3, .row 38 .ins x.1.2), (2, .cells 32 [.int .i64 0, .int .i64 0]), (0, .ro .line l), (1, .fn Tryz.prog g)], 4⟩)
    (fun x => l.length - x.1.1) ⟨(0, []), by simp, by simp [Vq], by simp⟩ (Ent.mk1 (id) (by simp [Z7])) ?_
  rintro ⟨⟨k, acc⟩, hk, hrun, hacc⟩
  simp only at hk hrun hacc
  by_cases hlt : k < l.length
  · have hdrop : l.drop k = l.getD k ln0 :: l.drop (k + 1) := by
      rw [List.drop_eq_getElem_cons hlt]; simp [List.getD, hlt]
    have hmem : l.getD k ln0 ∈ l := by simp [List.getD, hlt]
    generalize hx : l.getD k ln0 = x at hdrop hmem
    have hx' : l.getD k (Kd.dflt .line) = x := hx
    rw [hdrop] at hrun
    simp only [Ti] at hrun
    have hw : IntKind.i64.wrap ((k : Int) + 1) = ((k + 1 : Nat) : Int) := Z4 (by omega)
    have ht : ((k : Int)).toNat = k := by omega
    by_cases hlb : x.label = []
    · rw [if_neg (by simpa using hlb)] at hrun
      have hlbd : decide (x.label = []) = true := decide_eq_true hlb
      by_cases hrf : x.ref = []
      · rw [if_neg (by simpa using hrf)] at hrun
        have hrfd : decide (x.ref = []) = true := decide_eq_true hrf
        repeat' (first | ((first | (with_reducible first | refine T.regs ?_ | refine T.cond ?_ | refine T.reg ?_ | refine T.ret ?_ | refine T.exit ?_ | refine T.skip ?_) | ((with_reducible first | refine T.dregs ?_ ?_ | refine T.dreg ?_ ?_ | refine T.dregts ?_ ?_ | refine T.dregt ?_ ?_ | refine T.danys ?_ ?_ | refine T.dany ?_ ?_); exact mix)); simp only [Zh, Zi, Int.reduceEq, Int.reduceNeg, Int.reduceLE, Int.reduceLT, Nat.reduceSub, ↓reduceIte, reduceCtorEq, Nat.reduceEqDiff, Nat.reduceAdd, Nat.reduceMul, Nat.reduceLeDiff, Nat.reduceLT, Nat.reduceBEq, Nat.reduceBNe, implies_true, Yl.rs, Yl.res, hx', hw, ht, hlbd, hrfd, Int.ofNat_lt]) | (with_reducible first | refine T.seq ?_ | refine T.block ?_ | assumption | refine And.intro ?_ ?_) | (intro h; first | (exfalso; omega) | exact (tf h ‹_›).elim | exact (tf ‹_› h).elim | skip))
        all_goals first | omega | skip
        exact ⟨⟨(k + 1, acc ++ [x.ins]), hlt, hrun, by simp only [List.length_append, List.length_cons, List.length_nil]; omega⟩, (Ent.mk1 (fun n => if n = 3 then 7 else n) (by simp [Z7, hw])), by simp only; omega⟩
      · rw [if_pos hrf] at hrun
        have hgx := hg x hmem hlb hrf
        cases hkn : (kn x.ref).2 with
        | false =>
          rw [if_pos hkn] at hrun
          rw [hkn] at hgx
          repeat' (first | ((first | (with_reducible first | refine T.regs ?_ | refine T.cond ?_ | refine T.reg ?_ | refine T.ret ?_ | refine T.exit ?_ | refine T.skip ?_) | ((with_reducible first | refine T.dregs ?_ ?_ | refine T.dreg ?_ ?_ | refine T.dregts ?_ ?_ | refine T.dregt ?_ ?_ | refine T.danys ?_ ?_ | refine T.dany ?_ ?_); exact mix)); simp only [Zh, Zi, Int.reduceEq, Int.reduceNeg, Int.reduceLE, Int.reduceLT, Nat.reduceSub, ↓reduceIte, reduceCtorEq, Nat.reduceEqDiff, Nat.reduceAdd, Nat.reduceMul, Nat.reduceLeDiff, Nat.reduceLT, Nat.reduceBEq, Nat.reduceBNe, implies_true, Yl.rs, Yl.res, hx', hw, ht, hlbd, hrf, hgx, Int.ofNat_lt]) | (with_reducible first | refine T.seq ?_ | refine T.block ?_ | assumption | refine And.intro ?_ ?_) | (intro h; first | (exfalso; omega) | exact (tf h ‹_›).elim | exact (tf ‹_› h).elim | skip))
          all_goals first | omega | (rw [← hrun]; done) | skip
        | true =>
          rw [if_neg (by simpa using hkn)] at hrun
          rw [hkn] at hgx
          repeat' (first | ((first | (with_reducible first | refine T.regs ?_ | refine T.cond ?_ | refine T.reg ?_ | refine T.ret ?_ | refine T.exit ?_ | refine T.skip ?_) | ((with_reducible first | refine T.dregs ?_ ?_ | refine T.dreg ?_ ?_ | refine T.dregts ?_ ?_ | refine T.dregt ?_ ?_ | refine T.danys ?_ ?_ | refine T.dany ?_ ?_); exact mix)); simp only [Zh, Zi, Int.reduceEq, Int.reduceNeg, Int.reduceLE, Int.reduceLT, Nat.reduceSub, ↓reduceIte, reduceCtorEq, Nat.reduceEqDiff, Nat.reduceAdd, Nat.reduceMul, Nat.reduceLeDiff, Nat.reduceLT, Nat.reduceBEq, Nat.reduceBNe, implies_true, Yl.rs, Yl.res, hx', hw, ht, hlbd, hrf, hgx, Int.ofNat_lt]) | (with_reducible first | refine T.seq ?_ | refine T.block ?_ | assumption | refine And.intro ?_ ?_) | (intro h; first | (exfalso; omega) | exact (tf h ‹_›).elim | exact (tf ‹_› h).elim | skip))
          all_goals first | omega | skip
          exact ⟨⟨(k + 1, acc ++ [⟨x.ins.op, x.ins.d, x.ins.s, Lt .i64 (kn x.ref).1 65535⟩]), hlt, hrun, by simp only [List.length_append, List.length_cons, List.length_nil]; omega⟩, (Ent.mk1 (fun n => if n = 3 then 7 else n) (by simp [Z7, hw])), by simp only; omega⟩
    · rw [if_pos hlb] at hrun
      repeat' (first | ((first | (with_reducible first | refine T.regs ?_ | refine T.cond ?_ | refine T.reg ?_ | refine T.ret ?_ | refine T.exit ?_ | refine T.skip ?_) | ((with_reducible first | refine T.dregs ?_ ?_ | refine T.dreg ?_ ?_ | refine T.dregts ?_ ?_ | refine T.dregt ?_ ?_ | refine T.danys ?_ ?_ | refine T.dany ?_ ?_); exact mix)); simp only [Zh, Zi, Int.reduceEq, Int.reduceNeg, Int.reduceLE, Int.reduceLT, Nat.reduceSub, ↓reduceIte, reduceCtorEq, Nat.reduceEqDiff, Nat.reduceAdd, Nat.reduceMul, Nat.reduceLeDiff, Nat.reduceLT, Nat.reduceBEq, Nat.reduceBNe, implies_true, Yl.rs, Yl.res, hx', hw, ht, hlb, Int.ofNat_lt]) | (with_reducible first | refine T.seq ?_ | refine T.block ?_ | assumption | refine And.intro ?_ ?_) | (intro h; first | (exfalso; omega) | exact (tf h ‹_›).elim | exact (tf ‹_› h).elim | skip))
      all_goals first | omega | skip
      exact ⟨⟨(k + 1, acc), hlt, hrun, by simp only; omega⟩, (Ent.mk1 (id) (by simp [Z7, hw])), by simp only; omega⟩
  · have hk2 : k = l.length := by omega
    subst hk2
    rw [List.drop_length] at hrun
    simp only [Ti] at hrun
    repeat' (first | ((first | (with_reducible first | refine T.regs ?_ | refine T.cond ?_ | refine T.reg ?_ | refine T.ret ?_ | refine T.exit ?_ | refine T.skip ?_) | ((with_reducible first | refine T.dregs ?_ ?_ | refine T.dreg ?_ ?_ | refine T.dregts ?_ ?_ | refine T.dregt ?_ ?_ | refine T.danys ?_ ?_ | refine T.dany ?_ ?_); exact mix)); simp only [Zh, Zi, Int.reduceEq, Int.reduceNeg, Int.reduceLE, Int.reduceLT, Nat.reduceSub, ↓reduceIte, reduceCtorEq, Nat.reduceEqDiff, Nat.reduceAdd, Nat.reduceMul, Nat.reduceLeDiff, Nat.reduceLT, Nat.reduceBEq, Nat.reduceBNe, implies_true, Yl.rs, Yl.res, Int.ofNat_lt]) | (with_reducible first | refine T.seq ?_ | refine T.block ?_ | assumption | refine And.intro ?_ ?_) | (intro h; first | (exfalso; omega) | exact (tf h ‹_›).elim | exact (tf ‹_› h).elim | skip))
    all_goals first | omega | (rw [← hrun]; done) | skip
end Go.Proofs.YtjochhncheheaaaGreatDoor
namespace Go.Proofs.YtjochhncheheaaaGreatDoor
open Go.RowKit Vc
set_option linter.unusedVariables false
set_option linter.unusedSimpArgs false
attribute [local irreducible] T Za Z2 Ent RdC RwC Xl Zc Zs
theorem Jw {x : Ln} (h : x.label ≠ []) : Sw x = 0 := by unfold Sw; rw [if_pos h]
def whereL : List Ln → List UInt8 → Int → Int
  | [], _, _ => -1
  | x :: l, s, a => if x.label = s then a else whereL l s (a + Sw x)
end Go.Proofs.YtjochhncheheaaaGreatDoor
