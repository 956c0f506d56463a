/-
  A part of the proofs of this seat's laws: what instr.Encode computes. It has no conditions of its own.
-/
import Derived.Test.YtibkcfpcfbodaaaInstr
namespace Go.Proofs.Ytibkcfpcfbodaaa
open Go.RowKit Vc
set_option linter.unusedVariables false
set_option linter.unusedSimpArgs false
attribute [local irreducible] T CallVC QCallVC Ent RdC RwC Rw1C GCallVC GQCallVC

def wordI (x : Ins) : Int := x.op * 1024 + (if hasD x.op then x.d * 128 else 0) + (if hasS x.op then x.s * 16 else 0)
def wordsI (x : Ins) : List Int := wordI x :: (if hasI x.op then [x.imm] else [])

/-- Encode, from instruction k on -/
def encL : List Ins → Nat → List Int → List Int × Int × Int
  | [], _, acc => (acc, 0, 0)
  | x :: l, k, acc => if wrongI x = 0 then (if 65536 < (acc ++ wordsI x).length then ([], 4, k) else encL l (k + 1) (acc ++ wordsI x)) else ([], wrongI x, k)
def encS (l : List Ins) : List Int × Int × Int := encL l 0 []

theorem shl_small (n : Int) (k : Nat) (h0 : 0 ≤ n) (h1 : n ≤ 1000000) (hk : k ≤ 20) : shlI .i64 n k = n * 2 ^ k := by
  unfold shlI
  have e : min (k : Int).toNat IntKind.i64.bits = k := by simp [IntKind.bits]; omega
  rw [e]
  have hp : (2 : Int) ^ k ≤ 1048576 := by
    have : (2 : Nat) ^ k ≤ 2 ^ 20 := Nat.pow_le_pow_right (by decide) hk
    have h2 : ((2 ^ k : Nat) : Int) ≤ ((2 ^ 20 : Nat) : Int) := by exact_mod_cast this
    simpa using h2
  have hp0 : (0 : Int) ≤ 2 ^ k := Int.le_of_lt (Int.pow_pos (by decide))
  have hm : n * 2 ^ k ≤ 1000000 * 1048576 := Int.mul_le_mul h1 hp hp0 (by decide)
  have hm0 : 0 ≤ n * 2 ^ k := Int.mul_nonneg h0 hp0
  exact wrap64 (by omega) (by omega)

theorem or_fin : ∀ (a : Fin 33) (b c : Fin 8), orI .i64 ((a.val : Int) * 1024 + (b.val : Int) * 128) ((c.val : Int) * 16) = (a.val : Int) * 1024 + (b.val : Int) * 128 + (c.val : Int) * 16 := by decide +kernel
theorem or_fin2 : ∀ (a : Fin 33) (b : Fin 8), orI .i64 ((a.val : Int) * 1024) ((b.val : Int) * 128) = (a.val : Int) * 1024 + (b.val : Int) * 128 := by decide +kernel
theorem or3 (a b c : Int) (h1 : 0 ≤ a ∧ a ≤ 32) (h2 : 0 ≤ b ∧ b ≤ 7) (h3 : 0 ≤ c ∧ c ≤ 7) : orI .i64 (a * 1024 + b * 128) (c * 16) = a * 1024 + b * 128 + c * 16 := by
  have := or_fin ⟨a.toNat, by omega⟩ ⟨b.toNat, by omega⟩ ⟨c.toNat, by omega⟩
  simp only [Int.toNat_of_nonneg h1.1, Int.toNat_of_nonneg h2.1, Int.toNat_of_nonneg h3.1] at this
  exact this
theorem or2 (a b : Int) (h1 : 0 ≤ a ∧ a ≤ 32) (h2 : 0 ≤ b ∧ b ≤ 7) : orI .i64 (a * 1024) (b * 128) = a * 1024 + b * 128 := by
  have := or_fin2 ⟨a.toNat, by omega⟩ ⟨b.toNat, by omega⟩
  simp only [Int.toNat_of_nonneg h1.1, Int.toNat_of_nonneg h2.1] at this
  exact this

theorem right_of (x : Ins) (h : wrongI x = 0) : (0 ≤ x.op ∧ x.op ≤ 32) ∧ (hasD x.op = true → 0 ≤ x.d ∧ x.d ≤ 7) ∧ (hasS x.op = true → 0 ≤ x.s ∧ x.s ≤ 7) ∧ (hasI x.op = true → 0 ≤ x.imm ∧ x.imm ≤ 65535) := by
  unfold wrongI at h
  split at h
  · omega
  · rename_i hk
    split at h
    · omega
    · rename_i h2
      simp only [Bool.or_eq_true, Bool.and_eq_true, Bool.not_eq_true', not_or, not_and, Bool.not_eq_false, reg, wordly, decide_eq_true_eq] at h2
      simp only [knownK, Bool.not_eq_false, decide_eq_true_eq] at hk
      exact ⟨hk, h2.1, h2.2.1, h2.2.2⟩

theorem shl10 (n : Int) (h0 : 0 ≤ n) (h1 : n ≤ 1000000) : shlI .i64 n 10 = n * 1024 := shl_small n 10 h0 h1 (by decide)
theorem shl7 (n : Int) (h0 : 0 ≤ n) (h1 : n ≤ 1000000) : shlI .i64 n 7 = n * 128 := shl_small n 7 h0 h1 (by decide)
theorem shl4 (n : Int) (h0 : 0 ≤ n) (h1 : n ≤ 1000000) : shlI .i64 n 4 = n * 16 := shl_small n 4 h0 h1 (by decide)
theorem word_11 {x : Ins} (h : wrongI x = 0) (hD : hasD x.op = true) (hS : hasS x.op = true) : orI .i64 (orI .i64 (shlI .i64 x.op 10) (shlI .i64 x.d 7)) (shlI .i64 x.s 4) = wordI x := by
  obtain ⟨h1, h2, h3, _⟩ := right_of x h
  have h2 := h2 hD
  have h3 := h3 hS
  rw [shl10 _ h1.1 (by omega), shl7 _ h2.1 (by omega), shl4 _ h3.1 (by omega), or2 _ _ h1 h2, or3 _ _ _ h1 h2 h3]
  simp [wordI, hD, hS]
theorem word_10 {x : Ins} (h : wrongI x = 0) (hD : hasD x.op = true) (hS : hasS x.op = false) : orI .i64 (shlI .i64 x.op 10) (shlI .i64 x.d 7) = wordI x := by
  obtain ⟨h1, h2, h3, _⟩ := right_of x h
  have h2 := h2 hD
  rw [shl10 _ h1.1 (by omega), shl7 _ h2.1 (by omega), or2 _ _ h1 h2]
  simp [wordI, hD, hS]
theorem word_01 {x : Ins} (h : wrongI x = 0) (hD : hasD x.op = false) (hS : hasS x.op = true) : orI .i64 (shlI .i64 x.op 10) (shlI .i64 x.s 4) = wordI x := by
  obtain ⟨h1, h2, h3, _⟩ := right_of x h
  have h3 := h3 hS
  have := or3 x.op 0 x.s h1 (by omega) h3
  rw [shl10 _ h1.1 (by omega), shl4 _ h3.1 (by omega)]
  simpa [wordI, hD, hS] using this
theorem word_00 {x : Ins} (h : wrongI x = 0) (hD : hasD x.op = false) (hS : hasS x.op = false) : shlI .i64 x.op 10 = wordI x := by
  obtain ⟨h1, h2, h3, _⟩ := right_of x h
  rw [shl10 _ h1.1 (by omega)]
  simp [wordI, hD, hS]

theorem words_I {x : Ins} (h : hasI x.op = true) : wordsI x = [wordI x, x.imm] := by simp [wordsI, h]
theorem words_N {x : Ins} (h : hasI x.op = false) : wordsI x = [wordI x] := by simp [wordsI, h]

theorem Encode_any (l : List Ins) : RwC Try.prog 29 [.ro .ins l] 3 (.int .i64) (encS l).1 [.agg [.int .i64 (encS l).2.1, .int .i64 (encS l).2.2]] := by
  refine F_instr_Encode.fn.rw (by simp) (by repeat' (first | exact rfl | exact trivial | refine And.intro ?_ ?_ | (simp [Vc.SV.bd, Vc.S1.bd, Vc.At.bd, Vc.bdAll, Vc.patBd, Vc.Ins.cells, Vc.Ln.cells]; done))) (by simp [S1.bd, At.bd]) fun w => ?_
  repeat' (first | ((first | (with_reducible refine T.regs ?_) | (with_reducible refine T.cond ?_) | (with_reducible refine T.reg ?_) | (with_reducible refine T.ret ?_) | (with_reducible refine T.exit ?_) | (with_reducible refine T.skip ?_) | ((with_reducible refine T.dregs ?_ ?_); exact mix) | ((with_reducible refine T.dreg ?_ ?_); exact mix) | ((with_reducible refine T.dregts ?_ ?_); exact mix) | ((with_reducible refine T.dregt ?_ ?_); exact mix) | ((with_reducible refine T.danys ?_ ?_); exact mix) | ((with_reducible refine T.dany ?_ ?_); exact mix)); simp only [Vc.ex_nil, Vc.ex_none, Vc.ex_some, Vc.exK, Vc.exD_done, Vc.exD_stop, Vc.exD_none, Vc.exD_some, Vc.exD_alt, Vc.exDK, Vc.subR, Vc.exh_nil, Vc.exh_none, Vc.exh_some, Vc.exq_nil, Vc.exq_none, Vc.exq_some, Vc.exqK, Vc.afterK, Vc.putK, Vc.ev, Vc.st, Vc.stq, Vc.gst, Vc.gstq, Vc.St.rd, Vc.St.get, Vc.St.put, Vc.St.find, Vc.look, Vc.St.new, Vc.gdc, Vc.ldCells, Vc.binAt, Vc.intOp, Vc.strOp, Vc.unAt, Vc.mergeAt, Vc.rdParts, Vc.rdAll, Vc.putAt, Vc.S1.cells, Vc.upd, Vc.del, Vc.appended, Vc.noV, Vc.Kd.enc, Vc.Kd.dec, Vc.Ins.cells, Vc.Ln.cells, Vc.castL, Vc.condVC, Vc.thenQ, Vc.blockQ, Vc.retQ, Vc.rvs, Vc.outV, Vc.argSlots, Vc.argS, Vc.argR, Vc.argN, Vc.patS, Vc.patR, Vc.patN, Vc.isRow, Vc.endV, Vc.endRow, Vc.endRow1, Vc.appended0, Vc.eqKs, Vc.eqAt, Vc.bdAll, Vc.SV.bd, Vc.S1.bd, Vc.At.bd, Value.oneCell', Int.reduceEq, Int.reduceNeg, Int.reduceLE, Int.reduceLT, Vc.lenOf, Vc.slSrc, Vc.bdOf, Vc.capsOf, Vc.atK, Vc.mlookV, Vc.unK, Vc.wfK, Vc.bindA, Vc.bindL, Vc.bindS, Vc.bindSs, Vc.bindSV, Vc.bindR, Vc.bindR1, Vc.bindK, Vc.sg, Vc.outS, Vc.outR, Vc.gcSt, Vc.nmOf, Vc.useds, Vc.Res.own, Vc.At.sub, Vc.S1.sub, Vc.SV.sub, Vc.Res.sub, Vc.endG, Vc.endP, Vc.keepG, Vc.endRs, Vc.endR1, Vc.frS, Vc.Kd.sz, Nat.reduceSub, ↓reduceIte, reduceCtorEq, Nat.reduceEqDiff, Nat.reduceAdd, Nat.reduceMul, Nat.reduceLeDiff, Nat.reduceLT, Nat.reduceBEq, Nat.reduceBNe, implies_true, Vc.lemL, F_instr_Encode.rs, F_instr_Encode.res]) | (with_reducible refine T.seq ?_) | (with_reducible refine T.block ?_) | (with_reducible assumption) | (with_reducible refine And.intro ?_ ?_) | (intro h; first | (exfalso; omega) | exact absurd (Eq.trans (Eq.symm h) (by assumption : _ = false)) (by decide) | exact absurd (Eq.trans (Eq.symm h) (by assumption : _ = true)) (by decide) | skip))
  refine T.weak (Ent.nilRow (t := 4) 3 (.int .i64) rfl) ?_
  simp only [Vc.ex_nil, Vc.ex_none, Vc.ex_some, Vc.exK, Vc.exD_done, Vc.exD_stop, Vc.exD_none, Vc.exD_some, Vc.exD_alt, Vc.exDK, Vc.subR, Vc.exh_nil, Vc.exh_none, Vc.exh_some, Vc.exq_nil, Vc.exq_none, Vc.exq_some, Vc.exqK, Vc.afterK, Vc.putK, Vc.ev, Vc.st, Vc.stq, Vc.gst, Vc.gstq, Vc.St.rd, Vc.St.get, Vc.St.put, Vc.St.find, Vc.look, Vc.St.new, Vc.gdc, Vc.ldCells, Vc.binAt, Vc.intOp, Vc.strOp, Vc.unAt, Vc.mergeAt, Vc.rdParts, Vc.rdAll, Vc.putAt, Vc.S1.cells, Vc.upd, Vc.del, Vc.appended, Vc.noV, Vc.Kd.enc, Vc.Kd.dec, Vc.Ins.cells, Vc.Ln.cells, Vc.castL, Vc.condVC, Vc.thenQ, Vc.blockQ, Vc.retQ, Vc.rvs, Vc.outV, Vc.argSlots, Vc.argS, Vc.argR, Vc.argN, Vc.patS, Vc.patR, Vc.patN, Vc.isRow, Vc.endV, Vc.endRow, Vc.endRow1, Vc.appended0, Vc.eqKs, Vc.eqAt, Vc.bdAll, Vc.SV.bd, Vc.S1.bd, Vc.At.bd, Value.oneCell', Int.reduceEq, Int.reduceNeg, Int.reduceLE, Int.reduceLT, Vc.lenOf, Vc.slSrc, Vc.bdOf, Vc.capsOf, Vc.atK, Vc.mlookV, Vc.unK, Vc.wfK, Vc.bindA, Vc.bindL, Vc.bindS, Vc.bindSs, Vc.bindSV, Vc.bindR, Vc.bindR1, Vc.bindK, Vc.sg, Vc.outS, Vc.outR, Vc.gcSt, Vc.nmOf, Vc.useds, Vc.Res.own, Vc.At.sub, Vc.S1.sub, Vc.SV.sub, Vc.Res.sub, Vc.endG, Vc.endP, Vc.keepG, Vc.endRs, Vc.endR1, Vc.frS, Vc.Kd.sz, Nat.reduceSub, ↓reduceIte, reduceCtorEq, Nat.reduceEqDiff, Nat.reduceAdd, Nat.reduceMul, Nat.reduceLeDiff, Nat.reduceLT, Nat.reduceBEq, Nat.reduceBNe, implies_true, Vc.lemL]
  refine T.loop (ι := { p : Nat × List Int // p.1 ≤ l.length ∧ encL (l.drop p.1) p.1 p.2 = encS l ∧ p.1 ≤ p.2.length ∧ p.2.length ≤ 65536 })
    (fun x => ⟨[(4, .one (.a (.ref 2))), (12, .one (.a (.int .i64 (x.1.1 : Int)))), (11, .one (.a (.int .i64 l.length))), (10, .one (.a (.ref 0))), (3, .one (.a (.loc 1 0)))],
      [(2, .row 3 (.int .i64) x.1.2), (1, .cells 29 [.int .i64 0, .int .i64 0]), (0, .ro .ins l)], 3⟩)
    (fun x => l.length - x.1.1) ⟨(0, []), by simp, by simp [encS], by simp, by simp⟩ (Ent.mk (id) (by simp [Vc.subSlots, Vc.subRes, Vc.bnd, Vc.St.get, Vc.St.find, Vc.look, Vc.SV.ren, Vc.S1.ren, Vc.At.ren, Vc.Res.ren, Vc.SV.bd, Vc.S1.bd, Vc.At.bd, Vc.Res.bd, Vc.upd, Vc.del, Vc.Kd.enc, Value.oneCell']) (by simp [Vc.subSlots, Vc.subRes, Vc.bnd, Vc.St.get, Vc.St.find, Vc.look, Vc.SV.ren, Vc.S1.ren, Vc.At.ren, Vc.Res.ren, Vc.SV.bd, Vc.S1.bd, Vc.At.bd, Vc.Res.bd, Vc.upd, Vc.del, Vc.Kd.enc, Value.oneCell']) (by simp [Vc.subSlots, Vc.subRes, Vc.bnd, Vc.St.get, Vc.St.find, Vc.look, Vc.SV.ren, Vc.S1.ren, Vc.At.ren, Vc.Res.ren, Vc.SV.bd, Vc.S1.bd, Vc.At.bd, Vc.Res.bd, Vc.upd, Vc.del, Vc.Kd.enc, Value.oneCell']) (by simp [Vc.subSlots, Vc.subRes, Vc.bnd, Vc.St.get, Vc.St.find, Vc.look, Vc.SV.ren, Vc.S1.ren, Vc.At.ren, Vc.Res.ren, Vc.SV.bd, Vc.S1.bd, Vc.At.bd, Vc.Res.bd, Vc.upd, Vc.del, Vc.Kd.enc, Value.oneCell'])) ?_
  rintro ⟨⟨k, acc⟩, hk, hrun, hka, hacc⟩
  simp only at hk hrun hka hacc
  have hw : IntKind.i64.wrap ((k : Int) + 1) = ((k + 1 : Nat) : Int) := wrap_inc (by omega)
  by_cases hlt : k < l.length
  · have hdrop : l.drop k = l.getD k ⟨0, 0, 0, 0⟩ :: l.drop (k + 1) := by
      rw [List.drop_eq_getElem_cons hlt]; simp [List.getD, hlt]
    generalize hx : l.getD k ⟨0, 0, 0, 0⟩ = x at hdrop
    have hx' : l.getD k (Kd.dflt .ins) = x := hx
    rw [hdrop] at hrun
    simp only [encL] at hrun
    repeat' (first | ((first | (with_reducible refine T.regs ?_) | (with_reducible refine T.cond ?_) | (with_reducible refine T.reg ?_) | (with_reducible refine T.ret ?_) | (with_reducible refine T.exit ?_) | (with_reducible refine T.skip ?_) | ((with_reducible refine T.dregs ?_ ?_); exact mix) | ((with_reducible refine T.dreg ?_ ?_); exact mix) | ((with_reducible refine T.dregts ?_ ?_); exact mix) | ((with_reducible refine T.dregt ?_ ?_); exact mix) | ((with_reducible refine T.danys ?_ ?_); exact mix) | ((with_reducible refine T.dany ?_ ?_); exact mix) | ((with_reducible apply CallVC.rd (Wrong_any _)); (focus ((repeat' (first | exact rfl | exact trivial | refine And.intro ?_ ?_ | (simp [Vc.SV.bd, Vc.S1.bd, Vc.At.bd, Vc.bdAll, Vc.patBd, Vc.Ins.cells, Vc.Ln.cells]; done))); done))) | ((with_reducible apply GCallVC.rd (Wrong_any _)); (focus ((repeat' (first | exact rfl | exact trivial | refine And.intro ?_ ?_ | (simp [Vc.SV.bd, Vc.S1.bd, Vc.At.bd, Vc.bdAll, Vc.patBd, Vc.Ins.cells, Vc.Ln.cells]; done))); done))) | ((with_reducible apply CallVC.rd (of_any _)); (focus ((repeat' (first | exact rfl | exact trivial | refine And.intro ?_ ?_ | (simp [Vc.SV.bd, Vc.S1.bd, Vc.At.bd, Vc.bdAll, Vc.patBd, Vc.Ins.cells, Vc.Ln.cells]; done))); done))) | ((with_reducible apply GCallVC.rd (of_any _)); (focus ((repeat' (first | exact rfl | exact trivial | refine And.intro ?_ ?_ | (simp [Vc.SV.bd, Vc.S1.bd, Vc.At.bd, Vc.bdAll, Vc.patBd, Vc.Ins.cells, Vc.Ln.cells]; done))); done)))); simp only [Vc.ex_nil, Vc.ex_none, Vc.ex_some, Vc.exK, Vc.exD_done, Vc.exD_stop, Vc.exD_none, Vc.exD_some, Vc.exD_alt, Vc.exDK, Vc.subR, Vc.exh_nil, Vc.exh_none, Vc.exh_some, Vc.exq_nil, Vc.exq_none, Vc.exq_some, Vc.exqK, Vc.afterK, Vc.putK, Vc.ev, Vc.st, Vc.stq, Vc.gst, Vc.gstq, Vc.St.rd, Vc.St.get, Vc.St.put, Vc.St.find, Vc.look, Vc.St.new, Vc.gdc, Vc.ldCells, Vc.binAt, Vc.intOp, Vc.strOp, Vc.unAt, Vc.mergeAt, Vc.rdParts, Vc.rdAll, Vc.putAt, Vc.S1.cells, Vc.upd, Vc.del, Vc.appended, Vc.noV, Vc.Kd.enc, Vc.Kd.dec, Vc.Ins.cells, Vc.Ln.cells, Vc.castL, Vc.condVC, Vc.thenQ, Vc.blockQ, Vc.retQ, Vc.rvs, Vc.outV, Vc.argSlots, Vc.argS, Vc.argR, Vc.argN, Vc.patS, Vc.patR, Vc.patN, Vc.isRow, Vc.endV, Vc.endRow, Vc.endRow1, Vc.appended0, Vc.eqKs, Vc.eqAt, Vc.bdAll, Vc.SV.bd, Vc.S1.bd, Vc.At.bd, Value.oneCell', Int.reduceEq, Int.reduceNeg, Int.reduceLE, Int.reduceLT, Vc.lenOf, Vc.slSrc, Vc.bdOf, Vc.capsOf, Vc.atK, Vc.mlookV, Vc.unK, Vc.wfK, Vc.bindA, Vc.bindL, Vc.bindS, Vc.bindSs, Vc.bindSV, Vc.bindR, Vc.bindR1, Vc.bindK, Vc.sg, Vc.outS, Vc.outR, Vc.gcSt, Vc.nmOf, Vc.useds, Vc.Res.own, Vc.At.sub, Vc.S1.sub, Vc.SV.sub, Vc.Res.sub, Vc.endG, Vc.endP, Vc.keepG, Vc.endRs, Vc.endR1, Vc.frS, Vc.Kd.sz, Nat.reduceSub, ↓reduceIte, reduceCtorEq, Nat.reduceEqDiff, Nat.reduceAdd, Nat.reduceMul, Nat.reduceLeDiff, Nat.reduceLT, Nat.reduceBEq, Nat.reduceBNe, implies_true, Vc.lemL, F_instr_Encode.rs, F_instr_Encode.res, hx', hw, Int.toNat_natCast, Int.ofNat_lt, List.length_append]) | (with_reducible refine T.seq ?_) | (with_reducible refine T.block ?_) | (with_reducible assumption) | (with_reducible refine And.intro ?_ ?_) | (intro h; first | (exfalso; omega) | exact absurd (Eq.trans (Eq.symm h) (by assumption : _ = false)) (by decide) | exact absurd (Eq.trans (Eq.symm h) (by assumption : _ = true)) (by decide) | skip))
    all_goals first | omega | skip
    all_goals try (first | rw [word_11 ‹_› ‹_› ‹_›] | rw [word_10 ‹_› ‹_› ‹_›] | rw [word_01 ‹_› ‹_› ‹_›] | rw [word_00 ‹_› ‹_› ‹_›])
    all_goals try (first | rw [words_I ‹_›] at hrun | rw [words_N ‹_›] at hrun)
    all_goals try simp only [List.length_append, List.length_cons, List.length_nil, Nat.zero_add] at hrun
    all_goals first
      | (rw [if_neg ‹¬ wrongI x = 0›] at hrun; rw [← hrun]; done)
      | (rw [if_pos ‹wrongI x = 0›, if_pos (by omega)] at hrun; rw [← hrun]; done)
      | (rw [if_pos ‹wrongI x = 0›, if_neg (by omega)] at hrun
         first
           | exact ⟨⟨(k + 1, acc ++ [wordI x, x.imm]), hlt, hrun, by simp; omega, by simp; omega⟩, (Ent.mk (fun n => if n = 2 then 8 else n) (by simp [Vc.subSlots, Vc.subRes, Vc.bnd, Vc.St.get, Vc.St.find, Vc.look, Vc.SV.ren, Vc.S1.ren, Vc.At.ren, Vc.Res.ren, Vc.SV.bd, Vc.S1.bd, Vc.At.bd, Vc.Res.bd, Vc.upd, Vc.del, Vc.Kd.enc, Value.oneCell']) (by simp [Vc.subSlots, Vc.subRes, Vc.bnd, Vc.St.get, Vc.St.find, Vc.look, Vc.SV.ren, Vc.S1.ren, Vc.At.ren, Vc.Res.ren, Vc.SV.bd, Vc.S1.bd, Vc.At.bd, Vc.Res.bd, Vc.upd, Vc.del, Vc.Kd.enc, Value.oneCell']) (by simp [Vc.subSlots, Vc.subRes, Vc.bnd, Vc.St.get, Vc.St.find, Vc.look, Vc.SV.ren, Vc.S1.ren, Vc.At.ren, Vc.Res.ren, Vc.SV.bd, Vc.S1.bd, Vc.At.bd, Vc.Res.bd, Vc.upd, Vc.del, Vc.Kd.enc, Value.oneCell']) (by simp [Vc.subSlots, Vc.subRes, Vc.bnd, Vc.St.get, Vc.St.find, Vc.look, Vc.SV.ren, Vc.S1.ren, Vc.At.ren, Vc.Res.ren, Vc.SV.bd, Vc.S1.bd, Vc.At.bd, Vc.Res.bd, Vc.upd, Vc.del, Vc.Kd.enc, Value.oneCell'])), by simp; omega⟩
           | exact ⟨⟨(k + 1, acc ++ [wordI x]), hlt, hrun, by simp; omega, by simp; omega⟩, (Ent.mk (fun n => if n = 2 then 6 else n) (by simp [Vc.subSlots, Vc.subRes, Vc.bnd, Vc.St.get, Vc.St.find, Vc.look, Vc.SV.ren, Vc.S1.ren, Vc.At.ren, Vc.Res.ren, Vc.SV.bd, Vc.S1.bd, Vc.At.bd, Vc.Res.bd, Vc.upd, Vc.del, Vc.Kd.enc, Value.oneCell']) (by simp [Vc.subSlots, Vc.subRes, Vc.bnd, Vc.St.get, Vc.St.find, Vc.look, Vc.SV.ren, Vc.S1.ren, Vc.At.ren, Vc.Res.ren, Vc.SV.bd, Vc.S1.bd, Vc.At.bd, Vc.Res.bd, Vc.upd, Vc.del, Vc.Kd.enc, Value.oneCell']) (by simp [Vc.subSlots, Vc.subRes, Vc.bnd, Vc.St.get, Vc.St.find, Vc.look, Vc.SV.ren, Vc.S1.ren, Vc.At.ren, Vc.Res.ren, Vc.SV.bd, Vc.S1.bd, Vc.At.bd, Vc.Res.bd, Vc.upd, Vc.del, Vc.Kd.enc, Value.oneCell']) (by simp [Vc.subSlots, Vc.subRes, Vc.bnd, Vc.St.get, Vc.St.find, Vc.look, Vc.SV.ren, Vc.S1.ren, Vc.At.ren, Vc.Res.ren, Vc.SV.bd, Vc.S1.bd, Vc.At.bd, Vc.Res.bd, Vc.upd, Vc.del, Vc.Kd.enc, Value.oneCell'])), by simp; omega⟩)
  · have hk2 : k = l.length := by omega
    subst hk2
    rw [List.drop_length] at hrun
    simp only [encL] at hrun
    repeat' (first | ((first | (with_reducible refine T.regs ?_) | (with_reducible refine T.cond ?_) | (with_reducible refine T.reg ?_) | (with_reducible refine T.ret ?_) | (with_reducible refine T.exit ?_) | (with_reducible refine T.skip ?_) | ((with_reducible refine T.dregs ?_ ?_); exact mix) | ((with_reducible refine T.dreg ?_ ?_); exact mix) | ((with_reducible refine T.dregts ?_ ?_); exact mix) | ((with_reducible refine T.dregt ?_ ?_); exact mix) | ((with_reducible refine T.danys ?_ ?_); exact mix) | ((with_reducible refine T.dany ?_ ?_); exact mix)); simp only [Vc.ex_nil, Vc.ex_none, Vc.ex_some, Vc.exK, Vc.exD_done, Vc.exD_stop, Vc.exD_none, Vc.exD_some, Vc.exD_alt, Vc.exDK, Vc.subR, Vc.exh_nil, Vc.exh_none, Vc.exh_some, Vc.exq_nil, Vc.exq_none, Vc.exq_some, Vc.exqK, Vc.afterK, Vc.putK, Vc.ev, Vc.st, Vc.stq, Vc.gst, Vc.gstq, Vc.St.rd, Vc.St.get, Vc.St.put, Vc.St.find, Vc.look, Vc.St.new, Vc.gdc, Vc.ldCells, Vc.binAt, Vc.intOp, Vc.strOp, Vc.unAt, Vc.mergeAt, Vc.rdParts, Vc.rdAll, Vc.putAt, Vc.S1.cells, Vc.upd, Vc.del, Vc.appended, Vc.noV, Vc.Kd.enc, Vc.Kd.dec, Vc.Ins.cells, Vc.Ln.cells, Vc.castL, Vc.condVC, Vc.thenQ, Vc.blockQ, Vc.retQ, Vc.rvs, Vc.outV, Vc.argSlots, Vc.argS, Vc.argR, Vc.argN, Vc.patS, Vc.patR, Vc.patN, Vc.isRow, Vc.endV, Vc.endRow, Vc.endRow1, Vc.appended0, Vc.eqKs, Vc.eqAt, Vc.bdAll, Vc.SV.bd, Vc.S1.bd, Vc.At.bd, Value.oneCell', Int.reduceEq, Int.reduceNeg, Int.reduceLE, Int.reduceLT, Vc.lenOf, Vc.slSrc, Vc.bdOf, Vc.capsOf, Vc.atK, Vc.mlookV, Vc.unK, Vc.wfK, Vc.bindA, Vc.bindL, Vc.bindS, Vc.bindSs, Vc.bindSV, Vc.bindR, Vc.bindR1, Vc.bindK, Vc.sg, Vc.outS, Vc.outR, Vc.gcSt, Vc.nmOf, Vc.useds, Vc.Res.own, Vc.At.sub, Vc.S1.sub, Vc.SV.sub, Vc.Res.sub, Vc.endG, Vc.endP, Vc.keepG, Vc.endRs, Vc.endR1, Vc.frS, Vc.Kd.sz, Nat.reduceSub, ↓reduceIte, reduceCtorEq, Nat.reduceEqDiff, Nat.reduceAdd, Nat.reduceMul, Nat.reduceLeDiff, Nat.reduceLT, Nat.reduceBEq, Nat.reduceBNe, implies_true, Vc.lemL, F_instr_Encode.rs, F_instr_Encode.res, hw, Int.toNat_natCast, Int.ofNat_lt]) | (with_reducible refine T.seq ?_) | (with_reducible refine T.block ?_) | (with_reducible assumption) | (with_reducible refine And.intro ?_ ?_) | (intro h; first | (exfalso; omega) | exact absurd (Eq.trans (Eq.symm h) (by assumption : _ = false)) (by decide) | exact absurd (Eq.trans (Eq.symm h) (by assumption : _ = true)) (by decide) | skip))
    all_goals first | omega | (rw [← hrun]; done)
end Go.Proofs.Ytibkcfpcfbodaaa
