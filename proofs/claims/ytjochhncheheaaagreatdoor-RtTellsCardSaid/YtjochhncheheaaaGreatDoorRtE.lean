/-
  A part of the proofs of this seat's laws: a step on the way. It has no conditions of its own.
-/
import Derived.Test.YtjochhncheheaaaGreatDoorRtD
import Derived.Test.YtjochhncheheaaaGreatDoorLibR
namespace Go.Proofs.YtjochhncheheaaaGreatDoor
open Go Go.RowKit Vc
set_option linter.unusedVariables false
set_option linter.unusedSimpArgs false
attribute [local irreducible] T Za Z2 Ent RdC RwC Xl Zc Zs
def Pi (s : List UInt8) : List UInt8 := (if Lib.hasSuffix s [58] = true then s else 9 :: s) ++ [10]
def putS (ls : List (List UInt8)) : List UInt8 := (ls.map Pi).flatten
theorem T0 (a b : List (List UInt8)) : putS (a ++ b) = putS a ++ putS b := by simp [putS]
theorem Fl (ls : List (List UInt8)) (k : Nat) : (putS (ls.take k)).length ≤ (putS ls).length := by
  conv => rhs; rw [← List.take_append_drop k ls, T0]
  simp
theorem Mh (G : Nat) (H : Nat → Option Obj) (s p : List UInt8) (hs : s.length ≤ 9223372036854775807) :
    GCp G H Tryz.prog 60 [.a (.str s), .a (.str p)] [] 0 [] (.one (.a (.bool (Lib.hasSuffix s p)))) [] 0 :=
  GCp.plain (by simp [S1.bd, At.bd]) (by simp [SV.bd, S1.bd, At.bd]) (by simp [Yo, Yr, Yp, Zw, Zp, Vc.S1.okN, At.okN, SV.okN, Res.okN, Res.outOk, Z1, Res.own, Value.oneCell']) fun w hg =>
    (Tryz.strings_HasSuffix ⟨s.toArray⟩ ⟨p.toArray⟩ w (by simpa [ByteArray.size] using hs)).mono fun e w' ⟨he, hw⟩ => ⟨he, hw ▸ Below.refl _ _⟩
theorem Qu (s p : List UInt8) (hs : s.length ≤ 9223372036854775807) :
    GC Tryz.prog 60 [.a (.str s), .a (.str p)] [] 0 [] (.one (.a (.bool (Lib.hasSuffix s p)))) [] 0 := (Mh 0 (fun _ => none) s p hs).gc
set_option maxHeartbeats 4000000 in
theorem Zv (n : Int) (acc : List UInt8) (ls : List (List UInt8)) (hb : acc.length + (putS ls).length ≤ 1000000) (hl : ls.length ≤ 1000000) :
    GC Tryz.prog 18 [.a (.loc 0 0), .a (.ref 2)] [(0, .cells 64 [.loc 0 0, .ref 1, .int .i64 n]), (1, .row 5 (.int .u8) (bytesI acc)), (2, .ro .str ls)] 3 [0] (.tup []) [(0, .cells 64 [.loc 0 0, .ref 3, .int .i64 n]), (3, .row 5 (.int .u8) (bytesI (acc ++ putS ls)))] 4 := by
  refine Z8.fn.gc (by simp) (by simp [Yo, Yr, Yp, Zw, Zp, Vc.S1.okN, At.okN, SV.okN, Res.okN, Res.outOk, Z1, Res.own, Value.oneCell']) fun w X fr => ?_
  repeat' (first | ((first | (with_reducible first | refine T.regs ?_ | refine T.cond ?_ | refine T.reg ?_ | refine T.ret ?_ | refine T.exit ?_ | refine T.skip ?_) | ((with_reducible first | refine T.dregs ?_ ?_ | refine T.dreg ?_ ?_ | refine T.dregts ?_ ?_ | refine T.dregt ?_ ?_ | refine T.danys ?_ ?_ | refine T.dany ?_ ?_); exact mix)); simp only [Zh, Zi, Int.reduceEq, Int.reduceNeg, Int.reduceLE, Int.reduceLT, Nat.reduceSub, ↓reduceIte, reduceCtorEq, Nat.reduceEqDiff, Nat.reduceAdd, Nat.reduceMul, Nat.reduceLeDiff, Nat.reduceLT, Nat.reduceBEq, Nat.reduceBNe, implies_true, Z8.rs, Z8.res]) | (with_reducible first | refine T.seq ?_ | refine T.block ?_ | assumption | refine And.intro ?_ ?_) | (intro h; first | (exfalso; omega) | exact (tf h ‹_›).elim | exact (tf ‹_› h).elim | skip))
  all_goals first | omega | skip
  refine T.loop (ι := { k : Nat // k ≤ ls.length })
    (fun x => ⟨[(8, .one (.a (.int .i64 (x.1 : Int)))), (7, .one (.a (.int .i64 ls.length))), (6, .one (.a (.ref 2))), (0, .one (.a (.loc 0 0))), (1000000, .one (.a (.ref 0)))],
      [(0, .cells 64 [.loc 0 0, .ref 1, .int .i64 n]), (1, .row 5 (.int .u8) (bytesI (acc ++ putS (ls.take x.1)))), (2, .ro .str ls)], 3⟩) (fun x => ls.length - x.1) ⟨0, by simp⟩ (Ent.mk1 (id) (by simp [Z7, putS])) ?_
  rintro ⟨k, hk⟩
  simp only
  by_cases hlt : k < ls.length
  · generalize hx : ls[k] = x
    have hx' : ls.getD k (Kd.dflt .str) = x := by show ls.getD k [] = x; simp [List.getD, hlt, hx]
    have htk : putS (ls.take (k + 1)) = putS (ls.take k) ++ Pi x := by
      rw [List.take_add_one, List.getElem?_eq_getElem hlt, hx, T0]
      simp [putS]
    have hle := Fl ls (k + 1)
    rw [htk] at hle
    simp only [List.length_append] at hle
    have hxl : x.length + 1 ≤ (Pi x).length := by unfold Pi; split <;> simp
    have hpl : (Pi x).length ≤ x.length + 2 := by unfold Pi; split <;> simp
    have hw : IntKind.i64.wrap ((k : Int) + 1) = ((k + 1 : Nat) : Int) := Z4 (by omega)
    have ht : ((k : Int)).toNat = k := by omega
    generalize ha : acc ++ putS (ls.take k) = a
    have hal : a.length = acc.length + (putS (ls.take k)).length := by rw [← ha]; simp
    have ha2 : acc ++ putS (ls.take (k + 1)) = a ++ Pi x := by rw [htk, ← ha, List.append_assoc]
    have hS := Qu x [58] (by omega)
    cases hsf : Lib.hasSuffix x [58]
    · rw [hsf] at hS
      have hp : Pi x = [9] ++ (x ++ [10]) := by unfold Pi; rw [hsf]; rfl
      have hB := Hb n a (by omega)
      have hW := Pb n (a ++ [9]) (x ++ [10]) (by simp only [List.length_append, List.length_cons, List.length_nil]; omega)
      have ha3 : (a ++ [9]) ++ (x ++ [10]) = a ++ Pi x := by rw [hp, List.append_assoc]
      rw [ha3] at hW
      repeat' (first | ((first | (with_reducible first | refine T.regs ?_ | refine T.cond ?_ | refine T.reg ?_ | refine T.ret ?_ | refine T.exit ?_ | refine T.skip ?_) | ((with_reducible first | refine T.dregs ?_ ?_ | refine T.dreg ?_ ?_ | refine T.dregts ?_ ?_ | refine T.dregt ?_ ?_ | refine T.danys ?_ ?_ | refine T.dany ?_ ?_); exact mix) | ((with_reducible refine Za.gc (hS) ?_ ?_); (focus ((simp [Zm]); done))) | ((with_reducible refine Za.gc (hB) ?_ ?_); (focus ((simp [Zm]); done))) | ((with_reducible refine Za.gc (hW) ?_ ?_); (focus ((simp [Zm]); done)))); simp only [Zh, Zi, Int.reduceEq, Int.reduceNeg, Int.reduceLE, Int.reduceLT, Nat.reduceSub, ↓reduceIte, reduceCtorEq, Nat.reduceEqDiff, Nat.reduceAdd, Nat.reduceMul, Nat.reduceLeDiff, Nat.reduceLT, Nat.reduceBEq, Nat.reduceBNe, implies_true, Z8.rs, Z8.res, hx', hw, ht, Int.ofNat_lt]) | (with_reducible first | refine T.seq ?_ | refine T.block ?_ | assumption | refine And.intro ?_ ?_) | (intro h; first | (exfalso; omega) | exact (tf h ‹_›).elim | exact (tf ‹_› h).elim | skip))
      all_goals first | omega | skip
      exact ⟨⟨k + 1, hlt⟩, (Ent.mk1 (fun n => if n = 1 then 4 else n) (by simp [Z7, ha2, hw])), by simp only; omega⟩
    · rw [hsf] at hS
      have hp : Pi x = x ++ [10] := by unfold Pi; rw [hsf]; rfl
      have hW := Pb n a (x ++ [10]) (by simp only [List.length_append, List.length_cons, List.length_nil]; omega)
      have ha3 : a ++ (x ++ [10]) = a ++ Pi x := by rw [hp]
      rw [ha3] at hW
      repeat' (first | ((first | (with_reducible first | refine T.regs ?_ | refine T.cond ?_ | refine T.reg ?_ | refine T.ret ?_ | refine T.exit ?_ | refine T.skip ?_) | ((with_reducible first | refine T.dregs ?_ ?_ | refine T.dreg ?_ ?_ | refine T.dregts ?_ ?_ | refine T.dregt ?_ ?_ | refine T.danys ?_ ?_ | refine T.dany ?_ ?_); exact mix) | ((with_reducible refine Za.gc (hS) ?_ ?_); (focus ((simp [Zm]); done))) | ((with_reducible refine Za.gc (hW) ?_ ?_); (focus ((simp [Zm]); done)))); simp only [Zh, Zi, Int.reduceEq, Int.reduceNeg, Int.reduceLE, Int.reduceLT, Nat.reduceSub, ↓reduceIte, reduceCtorEq, Nat.reduceEqDiff, Nat.reduceAdd, Nat.reduceMul, Nat.reduceLeDiff, Nat.reduceLT, Nat.reduceBEq, Nat.reduceBNe, implies_true, Z8.rs, Z8.res, hx', hw, ht, Int.ofNat_lt]) | (with_reducible first | refine T.seq ?_ | refine T.block ?_ | assumption | refine And.intro ?_ ?_) | (intro h; first | (exfalso; omega) | exact (tf h ‹_›).elim | exact (tf ‹_› h).elim | skip))
      all_goals first | omega | skip
      exact ⟨⟨k + 1, hlt⟩, (Ent.mk1 (fun n => if n = 1 then 3 else n) (by simp [Z7, ha2, hw])), by simp only; omega⟩
  · have hk2 : k = ls.length := by omega
    subst hk2
    rw [List.take_length]
    repeat' (first | ((first | (with_reducible first | refine T.regs ?_ | refine T.cond ?_ | refine T.reg ?_ | refine T.ret ?_ | refine T.exit ?_ | refine T.skip ?_) | ((with_reducible first | refine T.dregs ?_ ?_ | refine T.dreg ?_ ?_ | refine T.dregts ?_ ?_ | refine T.dregt ?_ ?_ | refine T.danys ?_ ?_ | refine T.dany ?_ ?_); exact mix)); simp only [Zh, Zi, Int.reduceEq, Int.reduceNeg, Int.reduceLE, Int.reduceLT, Nat.reduceSub, ↓reduceIte, reduceCtorEq, Nat.reduceEqDiff, Nat.reduceAdd, Nat.reduceMul, Nat.reduceLeDiff, Nat.reduceLT, Nat.reduceBEq, Nat.reduceBNe, implies_true, Z8.rs, Z8.res, Int.ofNat_lt]) | (with_reducible first | refine T.seq ?_ | refine T.block ?_ | assumption | refine And.intro ?_ ?_) | (intro h; first | (exfalso; omega) | exact (tf h ‹_›).elim | exact (tf ‹_› h).elim | skip))
    all_goals first | omega | skip
end Go.Proofs.YtjochhncheheaaaGreatDoor
namespace Go.Proofs.YtjochhncheheaaaGreatDoor
open Go Go.RowKit Vc
set_option linter.unusedVariables false
set_option linter.unusedSimpArgs false
attribute [local irreducible] T Za Z2 Ent RdC RwC Xl Zc Zs
theorem Qt (old new : List UInt8) : ∀ (k : Nat) (s : List UInt8), (Lib.replaceK old new k s).length ≤ s.length + k * new.length
  | 0, s => by unfold Lib.replaceK; simp
  | k + 1, s => by
    unfold Lib.replaceK
    split
    · omega
    · have ih := Qt old new k (s.drop ((Lib.index s old).toNat + old.length))
      simp only [List.length_append, List.length_take, List.length_drop, Nat.succ_mul] at ih ⊢
      omega
theorem K0 (s new : List UInt8) : (Lib.replace s [37, 100] new 1).length ≤ s.length + new.length := by
  unfold Lib.replace
  split
  · omega
  · have h1 : Lib.replaceNum s [37, 100] 1 ≤ 1 := by unfold Lib.replaceNum; split <;> omega
    have := Qt [37, 100] new (Lib.replaceNum s [37, 100] 1) s
    have h2 : Lib.replaceNum s [37, 100] 1 * new.length ≤ 1 * new.length := Nat.mul_le_mul_right _ h1
    omega
theorem Ib {G : Nat} {H : Nat → Option Obj} (hM : Xh G H) (s new : List UInt8) (hs : s.length ≤ 1000) (hn : new.length ≤ 1000) :
    GCp G H Tryz.prog 143 [.a (.str s), .a (.str [37, 100]), .a (.str new), .a (.int .i64 1)] [] 0 [] (.one (.a (.str (Lib.replace s [37, 100] new 1)))) [] 0 :=
  GCp.plain (by simp [S1.bd, At.bd]) (by simp [SV.bd, S1.bd, At.bd]) (by simp [Yo, Yr, Yp, Zw, Zp, Vc.S1.okN, At.okN, SV.okN, Res.okN, Res.outOk, Z1, Res.own, Value.oneCell']) fun w hg => by
    obtain ⟨m, hm⟩ := hM w _ hg
    have hc : Lib.countB ⟨s.toArray⟩ ⟨[37, 100].toArray⟩ ≤ 1001 := by
      have := Lib.count_le s [37, 100]
      have e : Lib.countB ⟨s.toArray⟩ ⟨[37, 100].toArray⟩ = Lib.count s [37, 100] := rfl
      rw [e]; omega
    have hp : Lib.countB ⟨s.toArray⟩ ⟨[37, 100].toArray⟩ * new.length ≤ 1001 * 1000 := Nat.mul_le_mul hc hn
    exact Tryz.strings_Replace ⟨s.toArray⟩ ⟨[37, 100].toArray⟩ ⟨new.toArray⟩ 1 m w (by simp [ByteArray.size]; omega) hm (by simp [ByteArray.size]) (by
      have e1 : ByteArray.size ⟨s.toArray⟩ = s.length := by simp [ByteArray.size]
      have e2 : ByteArray.size ⟨new.toArray⟩ = new.length := by simp [ByteArray.size]
      rw [e1, e2]; omega)
def sayS (t : List UInt8) (ls : List Int) : List UInt8 := ls.foldl (fun t n => Lib.replace t [37, 100] (Lib.itoa n) 1) t
set_option maxHeartbeats 4000000 in
theorem Ys {G : Nat} {H : Nat → Option Obj} (hM : Xh G H) (hH : Y7 G H) (t : List UInt8) (ls : List Int) (hr : ∀ n ∈ ls, 0 ≤ n ∧ n ≤ 65535) (hl : ls.length ≤ 10) (ht : t.length ≤ 100) :
    GCp G H Tryz.prog 92 [.a (.str t), .a (.ref 0)] [(0, .ro (.int .i64) ls)] 1 [] (.one (.a (.str (sayS t ls)))) [] 1 := by
  refine Uh.fn.gcp (by simp) (by simp [Yo, Yr, Yp, Zw, Zp, Vc.S1.okN, At.okN, SV.okN, Res.okN, Res.outOk, Z1, Res.own, Value.oneCell']) fun w X fr hglob => ?_
  repeat' (first | ((first | (with_reducible first | refine T.regs ?_ | refine T.cond ?_ | refine T.reg ?_ | refine T.ret ?_ | refine T.exit ?_ | refine T.skip ?_) | ((with_reducible first | refine T.dregs ?_ ?_ | refine T.dreg ?_ ?_ | refine T.dregts ?_ ?_ | refine T.dregt ?_ ?_ | refine T.danys ?_ ?_ | refine T.dany ?_ ?_); exact mix)); simp only [Zh, Zi, Int.reduceEq, Int.reduceNeg, Int.reduceLE, Int.reduceLT, Nat.reduceSub, ↓reduceIte, reduceCtorEq, Nat.reduceEqDiff, Nat.reduceAdd, Nat.reduceMul, Nat.reduceLeDiff, Nat.reduceLT, Nat.reduceBEq, Nat.reduceBNe, implies_true, Uh.rs, Uh.res]) | (with_reducible first | refine T.seq ?_ | refine T.block ?_ | assumption | refine And.intro ?_ ?_) | (intro h; first | (exfalso; omega) | exact (tf h ‹_›).elim | exact (tf ‹_› h).elim | skip))
  all_goals first | omega | skip
  refine T.loop (ι := { k : Nat // k ≤ ls.length ∧ (sayS t (ls.take k)).length ≤ 100 + 21 * k })
    (fun x => ⟨[(9, .one (.a (.int .i64 (x.1 : Int)))), (8, .one (.a (.int .i64 ls.length))), (7, .one (.a (.ref 0))), (0, .one (.a (.str (sayS t (ls.take x.1)))))], [(0, .ro (.int .i64) ls)], 1⟩) (fun x => ls.length - x.1) ⟨0, by simp, by simpa [sayS] using ht⟩ (Ent.mk1 (id) (by simp [Z7, sayS])) ?_
  rintro ⟨k, hk, hsl⟩
  simp only
  by_cases hlt : k < ls.length
  · generalize hx : ls[k] = x
    have hx' : ls.getD k (Kd.dflt (.int .i64)) = x := by show ls.getD k 0 = x; simp [List.getD, hlt, hx]
    have hxr := hr x (by rw [← hx]; exact List.getElem_mem hlt)
    have htk : sayS t (ls.take (k + 1)) = Lib.replace (sayS t (ls.take k)) [37, 100] (Lib.itoa x) 1 := by
      unfold sayS
      rw [List.take_add_one, List.getElem?_eq_getElem hlt, hx]
      simp
    generalize sayS t (ls.take k) = u at hsl htk
    have hI := Et G H hH x hxr.1 hxr.2
    have hil := Lib.itoa_length_le x (by omega) (by omega)
    have hR := Ib hM u (Lib.itoa x) (by omega) (by omega)
    have hrl := K0 u (Lib.itoa x)
    have hw : IntKind.i64.wrap ((k : Int) + 1) = ((k + 1 : Nat) : Int) := Z4 (by omega)
    have htt : ((k : Int)).toNat = k := by omega
    generalize Lib.itoa x = v at *
    generalize Lib.replace u [37, 100] v 1 = z at *
    repeat' (first | ((first | (with_reducible first | refine T.regs ?_ | refine T.cond ?_ | refine T.reg ?_ | refine T.ret ?_ | refine T.exit ?_ | refine T.skip ?_) | ((with_reducible first | refine T.dregs ?_ ?_ | refine T.dreg ?_ ?_ | refine T.dregts ?_ ?_ | refine T.dregt ?_ ?_ | refine T.danys ?_ ?_ | refine T.dany ?_ ?_); exact mix) | ((with_reducible refine Za.gcp hglob (hI) ?_ ?_); (focus ((simp [Zm]); done))) | ((with_reducible refine Za.gcp hglob (hR) ?_ ?_); (focus ((simp [Zm]); done)))); simp only [Zh, Zi, Int.reduceEq, Int.reduceNeg, Int.reduceLE, Int.reduceLT, Nat.reduceSub, ↓reduceIte, reduceCtorEq, Nat.reduceEqDiff, Nat.reduceAdd, Nat.reduceMul, Nat.reduceLeDiff, Nat.reduceLT, Nat.reduceBEq, Nat.reduceBNe, implies_true, Uh.rs, Uh.res, hx', hw, htt, Int.ofNat_lt]) | (with_reducible first | refine T.seq ?_ | refine T.block ?_ | assumption | refine And.intro ?_ ?_) | (intro h; first | (exfalso; omega) | exact (tf h ‹_›).elim | exact (tf ‹_› h).elim | skip))
    all_goals first | omega | skip
    exact ⟨⟨k + 1, hlt, by rw [htk]; omega⟩, (Ent.mk1 (id) (by simp [Z7, htk, hw])), by simp only; omega⟩
  · have hk2 : k = ls.length := by omega
    subst hk2
    rw [List.take_length]
    repeat' (first | ((first | (with_reducible first | refine T.regs ?_ | refine T.cond ?_ | refine T.reg ?_ | refine T.ret ?_ | refine T.exit ?_ | refine T.skip ?_) | ((with_reducible first | refine T.dregs ?_ ?_ | refine T.dreg ?_ ?_ | refine T.dregts ?_ ?_ | refine T.dregt ?_ ?_ | refine T.danys ?_ ?_ | refine T.dany ?_ ?_); exact mix)); simp only [Zh, Zi, Int.reduceEq, Int.reduceNeg, Int.reduceLE, Int.reduceLT, Nat.reduceSub, ↓reduceIte, reduceCtorEq, Nat.reduceEqDiff, Nat.reduceAdd, Nat.reduceMul, Nat.reduceLeDiff, Nat.reduceLT, Nat.reduceBEq, Nat.reduceBNe, implies_true, Uh.rs, Uh.res, Int.ofNat_lt]) | (with_reducible first | refine T.seq ?_ | refine T.block ?_ | assumption | refine And.intro ?_ ?_) | (intro h; first | (exfalso; omega) | exact (tf h ‹_›).elim | exact (tf ‹_› h).elim | skip))
    all_goals first | omega | skip
def Xu (a b : List UInt8) (i : Int) : List UInt8 := if i = 0 then a else b
theorem Xx (a b : List UInt8) (i : Int) : RdC Tryz.prog 145 [.v (.a (.str a)), .v (.a (.str b)), .v (.a (.int .i64 i))] (.one (.a (.str (Xu a b i)))) := by
  refine V9.fn.rd (by simp) (by repeat' (first | exact rfl | exact trivial | refine And.intro ?_ ?_ | (simp [SV.bd, Vc.S1.bd, At.bd, Zq, Zr, Ins.cells, Ln.cells]; done))) (by repeat' (first | exact rfl | exact trivial | refine And.intro ?_ ?_ | (simp [SV.bd, Vc.S1.bd, At.bd, Zq, Zr, Ins.cells, Ln.cells]; done))) fun w => ?_
  unfold Xu
  by_cases h : i = 0
  · rw [if_pos h]
    repeat' (first | ((first | (with_reducible first | refine T.regs ?_ | refine T.cond ?_ | refine T.reg ?_ | refine T.ret ?_ | refine T.exit ?_ | refine T.skip ?_) | ((with_reducible first | refine T.dregs ?_ ?_ | refine T.dreg ?_ ?_ | refine T.dregts ?_ ?_ | refine T.dregt ?_ ?_ | refine T.danys ?_ ?_ | refine T.dany ?_ ?_); exact mix)); simp only [Zh, Zi, Int.reduceEq, Int.reduceNeg, Int.reduceLE, Int.reduceLT, Nat.reduceSub, ↓reduceIte, reduceCtorEq, Nat.reduceEqDiff, Nat.reduceAdd, Nat.reduceMul, Nat.reduceLeDiff, Nat.reduceLT, Nat.reduceBEq, Nat.reduceBNe, implies_true, V9.rs, V9.res, h]) | (with_reducible first | refine T.seq ?_ | refine T.block ?_ | assumption | refine And.intro ?_ ?_) | (intro h; first | (exfalso; omega) | exact (tf h ‹_›).elim | exact (tf ‹_› h).elim | skip))
  · rw [if_neg h]
    repeat' (first | ((first | (with_reducible first | refine T.regs ?_ | refine T.cond ?_ | refine T.reg ?_ | refine T.ret ?_ | refine T.exit ?_ | refine T.skip ?_) | ((with_reducible first | refine T.dregs ?_ ?_ | refine T.dreg ?_ ?_ | refine T.dregts ?_ ?_ | refine T.dregt ?_ ?_ | refine T.danys ?_ ?_ | refine T.dany ?_ ?_); exact mix)); simp only [Zh, Zi, Int.reduceEq, Int.reduceNeg, Int.reduceLE, Int.reduceLT, Nat.reduceSub, ↓reduceIte, reduceCtorEq, Nat.reduceEqDiff, Nat.reduceAdd, Nat.reduceMul, Nat.reduceLeDiff, Nat.reduceLT, Nat.reduceBEq, Nat.reduceBNe, implies_true, V9.rs, V9.res, h]) | (with_reducible first | refine T.seq ?_ | refine T.block ?_ | assumption | refine And.intro ?_ ?_) | (intro h; first | (exfalso; omega) | exact (tf h ‹_›).elim | exact (tf ‹_› h).elim | skip))
end Go.Proofs.YtjochhncheheaaaGreatDoor
