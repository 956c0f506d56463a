/-
  A part of the proofs of this seat's laws: what instr.Encode computes. It has no conditions of its own.
-/
import Derived.Test.YtjochhncheheaaaGreatDoorInstr
namespace Go.Proofs.YtjochhncheheaaaGreatDoor
open Go.RowKit Vc
set_option linter.unusedVariables false
set_option linter.unusedSimpArgs false
attribute [local irreducible] T Za Z2 Ent RdC RwC Xl Zc Zs
def W3 (x : Ins) : Int := x.op * 1024 + (if V2 x.op then x.d * 128 else 0) + (if V1 x.op then x.s * 16 else 0)
def Rm (x : Ins) : List Int := W3 x :: (if Wh x.op then [x.imm] else [])
def K8 : List Ins → Nat → List Int → List Int × Int × Int
  | [], _, acc => (acc, 0, 0)
  | x :: l, k, acc => if Xp x = 0 then (if 65536 < (acc ++ Rm x).length then ([], 4, k) else K8 l (k + 1) (acc ++ Rm x)) else ([], Xp x, k)
def Ml (l : List Ins) : List Int × Int × Int := K8 l 0 []
theorem Pt (n : Int) (k : Nat) (h0 : 0 ≤ n) (h1 : n ≤ 1000000) (hk : k ≤ 20) : Qg .i64 n k = n * 2 ^ k := by
  unfold Qg
  have e : min (k : Int).toNat IntKind.i64.bits = k := by simp [IntKind.bits]; omega
  rw [e]
  have hp : (2 : Int) ^ k ≤ 1048576 := by
    have : (2 : Nat) ^ k ≤ 2 ^ 20 := Nat.pow_le_pow_right (by decide) hk
    have h2 : ((2 ^ k : Nat) : Int) ≤ ((2 ^ 20 : Nat) : Int) := by exact_mod_cast this
    simpa using h2
  have hp0 : (0 : Int) ≤ 2 ^ k := Int.le_of_lt (Int.pow_pos (by decide))
  have hm : n * 2 ^ k ≤ 1000000 * 1048576 := Int.mul_le_mul h1 hp hp0 (by decide)
  have hm0 : 0 ≤ n * 2 ^ k := Int.mul_nonneg h0 hp0
  exact Ya (by omega) (by omega)
theorem or_fin : ∀ (a : Fin 33) (b c : Fin 8), orI .i64 ((a.val : Int) * 1024 + (b.val : Int) * 128) ((c.val : Int) * 16) = (a.val : Int) * 1024 + (b.val : Int) * 128 + (c.val : Int) * 16 := by decide +kernel
theorem or_fin2 : ∀ (a : Fin 33) (b : Fin 8), orI .i64 ((a.val : Int) * 1024) ((b.val : Int) * 128) = (a.val : Int) * 1024 + (b.val : Int) * 128 := by decide +kernel
theorem or3 (a b c : Int) (h1 : 0 ≤ a ∧ a ≤ 32) (h2 : 0 ≤ b ∧ b ≤ 7) (h3 : 0 ≤ c ∧ c ≤ 7) : orI .i64 (a * 1024 + b * 128) (c * 16) = a * 1024 + b * 128 + c * 16 := by
  have := or_fin ⟨a.toNat, by omega⟩ ⟨b.toNat, by omega⟩ ⟨c.toNat, by omega⟩
  simp only [Int.toNat_of_nonneg h1.1, Int.toNat_of_nonneg h2.1, Int.toNat_of_nonneg h3.1] at this
  exact this
theorem or2 (a b : Int) (h1 : 0 ≤ a ∧ a ≤ 32) (h2 : 0 ≤ b ∧ b ≤ 7) : orI .i64 (a * 1024) (b * 128) = a * 1024 + b * 128 := by
  have := or_fin2 ⟨a.toNat, by omega⟩ ⟨b.toNat, by omega⟩
  simp only [Int.toNat_of_nonneg h1.1, Int.toNat_of_nonneg h2.1] at this
  exact this
theorem Ty (x : Ins) (h : Xp x = 0) : (0 ≤ x.op ∧ x.op ≤ 32) ∧ (V2 x.op = true → 0 ≤ x.d ∧ x.d ≤ 7) ∧ (V1 x.op = true → 0 ≤ x.s ∧ x.s ≤ 7) ∧ (Wh x.op = true → 0 ≤ x.imm ∧ x.imm ≤ 65535) := by
  unfold Xp at h
  split at h
  · omega
  · rename_i hk
    split at h
    · omega
    · rename_i h2
      simp only [Bool.or_eq_true, Bool.and_eq_true, Bool.not_eq_true', not_or, not_and, Bool.not_eq_false, reg, Uo, decide_eq_true_eq] at h2
      simp only [Wb, Bool.not_eq_false, decide_eq_true_eq] at hk
      exact ⟨hk, h2.1, h2.2.1, h2.2.2⟩
theorem H7 (n : Int) (h0 : 0 ≤ n) (h1 : n ≤ 1000000) : Qg .i64 n 10 = n * 1024 := Pt n 10 h0 h1 (by decide)
theorem shl7 (n : Int) (h0 : 0 ≤ n) (h1 : n ≤ 1000000) : Qg .i64 n 7 = n * 128 := Pt n 7 h0 h1 (by decide)
theorem shl4 (n : Int) (h0 : 0 ≤ n) (h1 : n ≤ 1000000) : Qg .i64 n 4 = n * 16 := Pt n 4 h0 h1 (by decide)
theorem word_11 {x : Ins} (h : Xp x = 0) (hD : V2 x.op = true) (hS : V1 x.op = true) : orI .i64 (orI .i64 (Qg .i64 x.op 10) (Qg .i64 x.d 7)) (Qg .i64 x.s 4) = W3 x := by
  obtain ⟨h1, h2, h3, _⟩ := Ty x h
  have h2 := h2 hD
  have h3 := h3 hS
  rw [H7 _ h1.1 (by omega), shl7 _ h2.1 (by omega), shl4 _ h3.1 (by omega), or2 _ _ h1 h2, or3 _ _ _ h1 h2 h3]
  simp [W3, hD, hS]
theorem word_10 {x : Ins} (h : Xp x = 0) (hD : V2 x.op = true) (hS : V1 x.op = false) : orI .i64 (Qg .i64 x.op 10) (Qg .i64 x.d 7) = W3 x := by
  obtain ⟨h1, h2, h3, _⟩ := Ty x h
  have h2 := h2 hD
  rw [H7 _ h1.1 (by omega), shl7 _ h2.1 (by omega), or2 _ _ h1 h2]
  simp [W3, hD, hS]
theorem word_01 {x : Ins} (h : Xp x = 0) (hD : V2 x.op = false) (hS : V1 x.op = true) : orI .i64 (Qg .i64 x.op 10) (Qg .i64 x.s 4) = W3 x := by
  obtain ⟨h1, h2, h3, _⟩ := Ty x h
  have h3 := h3 hS
  have := or3 x.op 0 x.s h1 (by omega) h3
  rw [H7 _ h1.1 (by omega), shl4 _ h3.1 (by omega)]
  simpa [W3, hD, hS] using this
theorem word_00 {x : Ins} (h : Xp x = 0) (hD : V2 x.op = false) (hS : V1 x.op = false) : Qg .i64 x.op 10 = W3 x := by
  obtain ⟨h1, h2, h3, _⟩ := Ty x h
  rw [H7 _ h1.1 (by omega)]
  simp [W3, hD, hS]
theorem words_I {x : Ins} (h : Wh x.op = true) : Rm x = [W3 x, x.imm] := by simp [Rm, h]
theorem words_N {x : Ins} (h : Wh x.op = false) : Rm x = [W3 x] := by simp [Rm, h]
theorem Hh (l : List Ins) : RwC Tryz.prog 32 [.ro .ins l] 3 (.int .i64) (Ml l).1 [.agg [.int .i64 (Ml l).2.1, .int .i64 (Ml l).2.2]] := by
  refine Xk.fn.rw (by simp) (by repeat' (first | exact rfl | exact trivial | refine And.intro ?_ ?_ | (simp [SV.bd, Vc.S1.bd, At.bd, Zq, Zr, Ins.cells, Ln.cells]; done))) (by simp [S1.bd, At.bd]) fun w => ?_
  repeat' (first | ((first | (with_reducible first | refine T.regs ?_ | refine T.cond ?_ | refine T.reg ?_ | refine T.ret ?_ | refine T.exit ?_ | refine T.skip ?_) | ((with_reducible first | refine T.dregs ?_ ?_ | refine T.dreg ?_ ?_ | refine T.dregts ?_ ?_ | refine T.dregt ?_ ?_ | refine T.danys ?_ ?_ | refine T.dany ?_ ?_); exact mix)); simp only [Zh, Zi, Int.reduceEq, Int.reduceNeg, Int.reduceLE, Int.reduceLT, Nat.reduceSub, ↓reduceIte, reduceCtorEq, Nat.reduceEqDiff, Nat.reduceAdd, Nat.reduceMul, Nat.reduceLeDiff, Nat.reduceLT, Nat.reduceBEq, Nat.reduceBNe, implies_true, Xk.rs, Xk.res]) | (with_reducible first | refine T.seq ?_ | refine T.block ?_ | assumption | refine And.intro ?_ ?_) | (intro h; first | (exfalso; omega) | exact (tf h ‹_›).elim | exact (tf ‹_› h).elim | skip))
  refine T.weak (Ent.nilRow (t := 4) 3 (.int .i64) rfl) ?_
  simp only [Zh, Zi, Int.reduceEq, Int.reduceNeg, Int.reduceLE, Int.reduceLT, Nat.reduceSub, ↓reduceIte, reduceCtorEq, Nat.reduceEqDiff, Nat.reduceAdd, Nat.reduceMul, Nat.reduceLeDiff, Nat.reduceLT, Nat.reduceBEq, Nat.reduceBNe, implies_true]
  refine T.loop (ι := { p : Nat × List Int // p.1 ≤ l.length ∧ K8 (l.drop p.1) p.1 p.2 = Ml l ∧ p.1 ≤ p.2.length ∧ p.2.length ≤ 65536 })
    (fun x => ⟨[(4, .one (.a (.ref 2))), (12, .one (.a (.int .i64 (x.1.1 : Int)))), (11, .one (.a (.int .i64 l.length))), (10, .one (.a (.ref 0))), (3, .one (.a (.loc 1 0)))],
      [(2, .row 3 (.int .i64) x.1.2), (1, .cells 32 [.int .i64 0, .int .i64 0]), (0, .ro .ins l)], 3⟩)
    (fun x => l.length - x.1.1) ⟨(0, []), by simp, by simp [Ml], by simp, by simp⟩ (Ent.mk1 (id) (by simp [Z7])) ?_
  rintro ⟨⟨k, acc⟩, hk, hrun, hka, hacc⟩
  simp only at hk hrun hka hacc
  have hw : IntKind.i64.wrap ((k : Int) + 1) = ((k + 1 : Nat) : Int) := Z4 (by omega)
  by_cases hlt : k < l.length
  · have hdrop : l.drop k = l.getD k ⟨0, 0, 0, 0⟩ :: l.drop (k + 1) := by
      rw [List.drop_eq_getElem_cons hlt]; simp [List.getD, hlt]
    generalize hx : l.getD k ⟨0, 0, 0, 0⟩ = x at hdrop
    have hx' : l.getD k (Kd.dflt .ins) = x := hx
    rw [hdrop] at hrun
    simp only [K8] at hrun
    repeat' (first | ((first | (with_reducible first | refine T.regs ?_ | refine T.cond ?_ | refine T.reg ?_ | refine T.ret ?_ | refine T.exit ?_ | refine T.skip ?_) | ((with_reducible first | refine T.dregs ?_ ?_ | refine T.dreg ?_ ?_ | refine T.dregts ?_ ?_ | refine T.dregt ?_ ?_ | refine T.danys ?_ ?_ | refine T.dany ?_ ?_); exact mix) | ((with_reducible first | apply Za.rd (Uz _) | apply Zc.rd (Uz _)); (focus ((repeat' (first | exact rfl | exact trivial | refine And.intro ?_ ?_ | (simp [SV.bd, Vc.S1.bd, At.bd, Zq, Zr, Ins.cells, Ln.cells]; done))); done))) | ((with_reducible first | apply Za.rd (Wi _) | apply Zc.rd (Wi _)); (focus ((repeat' (first | exact rfl | exact trivial | refine And.intro ?_ ?_ | (simp [SV.bd, Vc.S1.bd, At.bd, Zq, Zr, Ins.cells, Ln.cells]; done))); done)))); simp only [Zh, Zi, Int.reduceEq, Int.reduceNeg, Int.reduceLE, Int.reduceLT, Nat.reduceSub, ↓reduceIte, reduceCtorEq, Nat.reduceEqDiff, Nat.reduceAdd, Nat.reduceMul, Nat.reduceLeDiff, Nat.reduceLT, Nat.reduceBEq, Nat.reduceBNe, implies_true, Xk.rs, Xk.res, hx', hw, Int.toNat_natCast, Int.ofNat_lt, List.length_append]) | (with_reducible first | refine T.seq ?_ | refine T.block ?_ | assumption | refine And.intro ?_ ?_) | (intro h; first | (exfalso; omega) | exact (tf h ‹_›).elim | exact (tf ‹_› h).elim | skip))
    all_goals first | omega | skip
    all_goals try (first | rw [word_11 ‹_› ‹_› ‹_›] | rw [word_10 ‹_› ‹_› ‹_›] | rw [word_01 ‹_› ‹_› ‹_›] | rw [word_00 ‹_› ‹_› ‹_›])
    all_goals try (first | rw [words_I ‹_›] at hrun | rw [words_N ‹_›] at hrun)
    all_goals try simp only [List.length_append, List.length_cons, List.length_nil, Nat.zero_add] at hrun
    all_goals first
      | (rw [if_neg ‹¬ Xp x = 0›] at hrun; rw [← hrun]; done)
      | (rw [if_pos ‹Xp x = 0›, if_pos (by omega)] at hrun; rw [← hrun]; done)
      | (rw [if_pos ‹Xp x = 0›, if_neg (by omega)] at hrun
         first
           | exact ⟨⟨(k + 1, acc ++ [W3 x, x.imm]), hlt, hrun, by simp; omega, by simp; omega⟩, (Ent.mk1 (fun n => if n = 2 then 8 else n) (by simp [Z7])), by simp; omega⟩
           | exact ⟨⟨(k + 1, acc ++ [W3 x]), hlt, hrun, by simp; omega, by simp; omega⟩, (Ent.mk1 (fun n => if n = 2 then 6 else n) (by simp [Z7])), by simp; omega⟩)
  · have hk2 : k = l.length := by omega
    subst hk2
    rw [List.drop_length] at hrun
    simp only [K8] at hrun
    repeat' (first | ((first | (with_reducible first | refine T.regs ?_ | refine T.cond ?_ | refine T.reg ?_ | refine T.ret ?_ | refine T.exit ?_ | refine T.skip ?_) | ((with_reducible first | refine T.dregs ?_ ?_ | refine T.dreg ?_ ?_ | refine T.dregts ?_ ?_ | refine T.dregt ?_ ?_ | refine T.danys ?_ ?_ | refine T.dany ?_ ?_); exact mix)); simp only [Zh, Zi, Int.reduceEq, Int.reduceNeg, Int.reduceLE, Int.reduceLT, Nat.reduceSub, ↓reduceIte, reduceCtorEq, Nat.reduceEqDiff, Nat.reduceAdd, Nat.reduceMul, Nat.reduceLeDiff, Nat.reduceLT, Nat.reduceBEq, Nat.reduceBNe, implies_true, Xk.rs, Xk.res, hw, Int.toNat_natCast, Int.ofNat_lt]) | (with_reducible first | refine T.seq ?_ | refine T.block ?_ | assumption | refine And.intro ?_ ?_) | (intro h; first | (exfalso; omega) | exact (tf h ‹_›).elim | exact (tf ‹_› h).elim | skip))
    all_goals first | omega | (rw [← hrun]; done)
end Go.Proofs.YtjochhncheheaaaGreatDoor
namespace Go.Proofs.YtjochhncheheaaaGreatDoor
open Go.RowKit Vc
set_option linter.unusedVariables false
set_option linter.unusedSimpArgs false
attribute [local irreducible] T Za Z2 Ent RdC RwC Xl Zc Zs
theorem N2 (x : Int) (m k : Nat) (h0 : 0 ≤ x) (h1 : x < 9223372036854775808) (hm : m + 1 = 2 ^ k) (hk : k ≤ 62) : Lt .i64 x (m : Int) = x % ((m + 1 : Nat) : Int) := by
  obtain ⟨n, rfl⟩ := Int.eq_ofNat_of_zero_le h0
  have hm62 : m + 1 ≤ 4611686018427387904 := by
    rw [hm]
    have : (2 : Nat) ^ k ≤ 2 ^ 62 := Nat.pow_le_pow_right (by decide) hk
    exact this
  have hm' : m = 2 ^ k - 1 := by omega
  unfold Lt
  have e1 : BitVec.ofInt IntKind.i64.bits (n : Int) = BitVec.ofNat 64 n := BitVec.ofInt_natCast 64 n
  have e2 : BitVec.ofInt IntKind.i64.bits (m : Int) = BitVec.ofNat 64 m := BitVec.ofInt_natCast 64 m
  have e3 : (BitVec.ofNat 64 n &&& BitVec.ofNat 64 m).toNat = n % (m + 1) := by
    rw [BitVec.toNat_and, BitVec.toNat_ofNat, BitVec.toNat_ofNat, Nat.mod_eq_of_lt (by omega), Nat.mod_eq_of_lt (by omega), hm, hm', Nat.and_two_pow_sub_one_eq_mod]
  have e4 : (BitVec.ofInt IntKind.i64.bits (n : Int) &&& BitVec.ofInt IntKind.i64.bits (m : Int)).toNat = n % (m + 1) := by
    rw [e1, e2]; exact e3
  rw [e4]
  have hlt := Nat.mod_lt n (show 0 < m + 1 by omega)
  rw [Ya (by omega) (by omega)]
  omega
theorem and7 (x : Int) (h0 : 0 ≤ x) (h1 : x < 9223372036854775808) : Lt .i64 x 7 = x % 8 := N2 x 7 3 h0 h1 (by decide) (by decide)
theorem and15 (x : Int) (h0 : 0 ≤ x) (h1 : x < 9223372036854775808) : Lt .i64 x 15 = x % 16 := N2 x 15 4 h0 h1 (by decide) (by decide)
theorem andFFFF (x : Int) (h0 : 0 ≤ x) (h1 : x < 9223372036854775808) : Lt .i64 x 65535 = x % 65536 := N2 x 65535 16 h0 h1 (by decide) (by decide)
theorem shr10 (x : Int) : E1 .i64 x 10 = x / 1024 := rfl
theorem shr7 (x : Int) : E1 .i64 x 7 = x / 128 := rfl
theorem shr4 (x : Int) : E1 .i64 x 4 = x / 16 := rfl
def Jq (w imm : Int) : Ins := ⟨w / 1024, w / 128 % 8, w / 16 % 8, imm⟩
def okW (w : Int) : Bool := Uo w && Wb (w / 1024) && decide (w % 16 = 0) && (V2 (w / 1024) || decide (w / 128 % 8 = 0)) && (V1 (w / 1024) || decide (w / 16 % 8 = 0))
def Ow (ws : List Int) (p : Int) : Ins × Int :=
  if p < 0 ∨ (ws.length : Int) ≤ p then (W1, 0) else
  if okW (ws.getD p.toNat 0) = false then (W1, 0) else
  if Wh (ws.getD p.toNat 0 / 1024) = false then (Jq (ws.getD p.toNat 0) 0, 1) else
  if p + 1 < (ws.length : Int) ∧ Uo (ws.getD (p + 1).toNat 0) = true then (Jq (ws.getD p.toNat 0) (ws.getD (p + 1).toNat 0), 2) else (W1, 0)
theorem Oc {x : Int} (h : Uo x = true) : 0 ≤ x ∧ x ≤ 65535 := by simpa [Uo] using h
set_option maxHeartbeats 1000000 in
theorem One_any (ws : List Int) (p : Int) (hlen : ws.length ≤ 9223372036854775807) : RdC Tryz.prog 183 [.ro (.int .i64) ws, .v (.a (.int .i64 p))] (.tup [.agg (Ow ws p).1.cells, .a (.int .i64 (Ow ws p).2)]) := by
  refine X5.fn.rd (by simp) (by repeat' (first | exact rfl | exact trivial | refine And.intro ?_ ?_ | (simp [SV.bd, Vc.S1.bd, At.bd, Zq, Zr, Ins.cells, Ln.cells]; done))) (by repeat' (first | exact rfl | exact trivial | refine And.intro ?_ ?_ | (simp [SV.bd, Vc.S1.bd, At.bd, Zq, Zr, Ins.cells, Ln.cells]; done))) fun w => ?_
  by_cases hin : p < 0 ∨ (ws.length : Int) ≤ p
  · have e : Ow ws p = (W1, 0) := if_pos hin
    repeat' (first | ((first | (with_reducible first | refine T.regs ?_ | refine T.cond ?_ | refine T.reg ?_ | refine T.ret ?_ | refine T.exit ?_ | refine T.skip ?_) | ((with_reducible first | refine T.dregs ?_ ?_ | refine T.dreg ?_ ?_ | refine T.dregts ?_ ?_ | refine T.dregt ?_ ?_ | refine T.danys ?_ ?_ | refine T.dany ?_ ?_); exact mix) | ((with_reducible first | apply Za.rd (Wn _) | apply Zc.rd (Wn _)); (focus ((repeat' (first | exact rfl | exact trivial | refine And.intro ?_ ?_ | (simp [SV.bd, Vc.S1.bd, At.bd, Zq, Zr, Ins.cells, Ln.cells]; done))); done))) | ((with_reducible first | apply Za.rd (Wi _) | apply Zc.rd (Wi _)); (focus ((repeat' (first | exact rfl | exact trivial | refine And.intro ?_ ?_ | (simp [SV.bd, Vc.S1.bd, At.bd, Zq, Zr, Ins.cells, Ln.cells]; done))); done)))); simp only [Zh, Zi, Int.reduceEq, Int.reduceNeg, Int.reduceLE, Int.reduceLT, Nat.reduceSub, ↓reduceIte, reduceCtorEq, Nat.reduceEqDiff, Nat.reduceAdd, Nat.reduceMul, Nat.reduceLeDiff, Nat.reduceLT, Nat.reduceBEq, Nat.reduceBNe, implies_true, X5.rs, X5.res, hin, e, W1]) | (with_reducible first | refine T.seq ?_ | refine T.block ?_ | assumption | refine And.intro ?_ ?_) | (intro h; first | (exfalso; omega) | exact (tf h ‹_›).elim | exact (tf ‹_› h).elim | skip))
    all_goals omega
  · have hin2 : 0 ≤ p ∧ p < ws.length := by omega
    have hw : IntKind.i64.wrap (p + 1) = p + 1 := Ya (by omega) (by omega)
    have d0 : (Kd.int .i64).dflt = (0 : Int) := rfl
    unfold Ow
    rw [if_neg hin]
    generalize hx : ws.getD p.toNat 0 = x
    have hx' : ws.getD p.toNat (Kd.int .i64).dflt = x := hx
    generalize hy : ws.getD (p + 1).toNat 0 = y
    have hy' : ws.getD (p + 1).toNat (Kd.int .i64).dflt = y := hy
    cases hwx : Uo x with
    | false =>
      have hok : okW x = false := by simp [okW, hwx]
      repeat' (first | ((first | (with_reducible first | refine T.regs ?_ | refine T.cond ?_ | refine T.reg ?_ | refine T.ret ?_ | refine T.exit ?_ | refine T.skip ?_) | ((with_reducible first | refine T.dregs ?_ ?_ | refine T.dreg ?_ ?_ | refine T.dregts ?_ ?_ | refine T.dregt ?_ ?_ | refine T.danys ?_ ?_ | refine T.dany ?_ ?_); exact mix) | ((with_reducible first | apply Za.rd (Wn _) | apply Zc.rd (Wn _)); (focus ((repeat' (first | exact rfl | exact trivial | refine And.intro ?_ ?_ | (simp [SV.bd, Vc.S1.bd, At.bd, Zq, Zr, Ins.cells, Ln.cells]; done))); done))) | ((with_reducible first | apply Za.rd (Wi _) | apply Zc.rd (Wi _)); (focus ((repeat' (first | exact rfl | exact trivial | refine And.intro ?_ ?_ | (simp [SV.bd, Vc.S1.bd, At.bd, Zq, Zr, Ins.cells, Ln.cells]; done))); done)))); simp only [Zh, Zi, Int.reduceEq, Int.reduceNeg, Int.reduceLE, Int.reduceLT, Nat.reduceSub, ↓reduceIte, reduceCtorEq, Nat.reduceEqDiff, Nat.reduceAdd, Nat.reduceMul, Nat.reduceLeDiff, Nat.reduceLT, Nat.reduceBEq, Nat.reduceBNe, implies_true, X5.rs, X5.res, hin, hx', hwx, hok, W1]) | (with_reducible first | refine T.seq ?_ | refine T.block ?_ | assumption | refine And.intro ?_ ?_) | (intro h; first | (exfalso; omega) | exact (tf h ‹_›).elim | exact (tf ‹_› h).elim | skip))
      all_goals omega
    | true =>
      have hb := Oc hwx
      have a15 := and15 x hb.1 (by omega)
      have a7 := and7 (x / 128) (by omega) (by omega)
      have a7' := and7 (x / 16) (by omega) (by omega)
      repeat' (first | ((first | (with_reducible first | refine T.regs ?_ | refine T.cond ?_ | refine T.reg ?_ | refine T.ret ?_ | refine T.exit ?_ | refine T.skip ?_) | ((with_reducible first | refine T.dregs ?_ ?_ | refine T.dreg ?_ ?_ | refine T.dregts ?_ ?_ | refine T.dregt ?_ ?_ | refine T.danys ?_ ?_ | refine T.dany ?_ ?_); exact mix) | ((with_reducible first | apply Za.rd (Wn _) | apply Zc.rd (Wn _)); (focus ((repeat' (first | exact rfl | exact trivial | refine And.intro ?_ ?_ | (simp [SV.bd, Vc.S1.bd, At.bd, Zq, Zr, Ins.cells, Ln.cells]; done))); done))) | ((with_reducible first | apply Za.rd (Wi _) | apply Zc.rd (Wi _)); (focus ((repeat' (first | exact rfl | exact trivial | refine And.intro ?_ ?_ | (simp [SV.bd, Vc.S1.bd, At.bd, Zq, Zr, Ins.cells, Ln.cells]; done))); done)))); simp only [Zh, Zi, Int.reduceEq, Int.reduceNeg, Int.reduceLE, Int.reduceLT, Nat.reduceSub, ↓reduceIte, reduceCtorEq, Nat.reduceEqDiff, Nat.reduceAdd, Nat.reduceMul, Nat.reduceLeDiff, Nat.reduceLT, Nat.reduceBEq, Nat.reduceBNe, implies_true, X5.rs, X5.res, hin, hx', hy', hwx, hw, shr10, shr7, shr4, a15, a7, a7']) | (with_reducible first | refine T.seq ?_ | refine T.block ?_ | assumption | refine And.intro ?_ ?_) | (intro h; first | (exfalso; omega) | exact (tf h ‹_›).elim | exact (tf ‹_› h).elim | skip))
      all_goals first | omega | skip
      · have hok : okW x = false := by
          rcases h with ((h | h) | h) | h <;> simp [okW, hwx, h]
        rw [if_pos hok]; rfl
      · have hok : ¬ okW x = false := by
          rename_i h1
          obtain ⟨⟨⟨h2, h3⟩, h4⟩, h5⟩ := h1
          cases hd : V2 (x / 1024) <;> cases hs : V1 (x / 1024) <;> simp_all [okW]
        rw [if_neg hok, if_pos h]; rfl
      · have hok : ¬ okW x = false := by
          rename_i h1 h0
          obtain ⟨⟨⟨h2, h3⟩, h4⟩, h5⟩ := h1
          cases hd : V2 (x / 1024) <;> cases hs : V1 (x / 1024) <;> simp_all [okW]
        have hni : ¬ Wh (x / 1024) = false := by simp_all
        have hno : ¬ (p + 1 < (ws.length : Int) ∧ Uo y = true) := by
          rintro ⟨g1, g2⟩
          rcases h with h | h
          · omega
          · simp [g2] at h
        rw [if_neg hok, if_neg hni, if_neg hno]; rfl
      · have hok : ¬ okW x = false := by
          rename_i h1 h0
          obtain ⟨⟨⟨h2, h3⟩, h4⟩, h5⟩ := h1
          cases hd : V2 (x / 1024) <;> cases hs : V1 (x / 1024) <;> simp_all [okW]
        have hni : ¬ Wh (x / 1024) = false := by simp_all
        have hyes : p + 1 < (ws.length : Int) ∧ Uo y = true := ⟨by omega, h.2⟩
        rw [if_neg hok, if_neg hni, if_pos hyes]; rfl
      all_goals omega
def decL (ws : List Int) : Nat → Nat → List Ins → List Ins × Int × Int
  | 0, _, acc => (acc, 0, 0)
  | f + 1, a, acc => if ws.length ≤ a then (acc, 0, 0) else
      if (Ow ws a).2 = 0 then ([], 2, (a : Int)) else decL ws f (a + (Ow ws a).2.toNat) (acc ++ [(Ow ws a).1])
def decS (ws : List Int) : List Ins × Int × Int := if 65536 < ws.length then ([], 4, 0) else decL ws (ws.length + 2) 0 []
theorem oneS_len (ws : List Int) (p : Int) : (Ow ws p).2 = 0 ∨ (Ow ws p).2 = 1 ∨ (Ow ws p).2 = 2 := by
  unfold Ow
  repeat' split
  all_goals simp
end Go.Proofs.YtjochhncheheaaaGreatDoor
