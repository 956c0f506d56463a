/-
  A part of the proofs of this seat's laws: a step on the way. It has no conditions of its own.
-/
import Derived.Test.YtjochhncheheaaaGreatDoorRtK
import Derived.Test.YtjochhncheheaaaGreatDoorRtN
import Derived.Test.YtjochhncheheaaaGreatDoorIrX
import Derived.Test.YtjochhncheheaaaGreatDoorLinkC
import Derived.Test.YtjochhncheheaaaGreatDoorRtO
namespace Go.Proofs.YtjochhncheheaaaGreatDoor
open Go Go.RowKit Vc
set_option linter.unusedVariables false
set_option linter.unusedSimpArgs false
namespace Vc
theorem Ent.urowRou {c : Cx} {S : St} {m base E : Nat} {l : List (List UInt8 × List Ln)} (hf : S.find m = some (.urow base E l)) : Ent c S ⟨S.slots, (m, .rou l) :: del S.res [m], S.nx⟩ := fun ρ a w hh => by
  have hm := hh.mem
  have hmem := Zd hf
  refine ⟨ρ, hh.nodef, hh.sz, hh.lown, hh.slot, hh.bds, ?_⟩
  refine hm.step (D := []) (ds := [m]) (fun n hn => rfl) (Nat.le_refl _) hm.one rfl rfl rfl (Nat.le_refl _) (fun b o hb _ => hb) (by simp) (hm.bdr m _ hmem).1 (.inl (by simp)) trivial (fun b hb => by simp [Res.block] at hb) (fun O' h1 h2 => ?_)
  have hO' : ∀ b ∈ O', b ∈ Zn ρ (del S.res [m]) := fun b hb => by
    rcases h1 b hb with h | h
    · exact h
    · simp [Res.block] at h
  have sub : ∀ {base : Nat} {a1 : Option Addr} {ls : List Ln}, W4 w (Zn ρ S.res) base a1 ls → W4 w O' 0 a1 ls := fun h => ⟨h.1, fun ad1 had1 => ⟨(h.2 ad1 had1).1, fun j y hy q u hu => let ⟨h1, h2, h3⟩ := (h.2 ad1 had1).2 j y hy q u hu; ⟨h1, fun hb => h2 (Xr _ (hO' _ hb)), Nat.zero_le _⟩⟩⟩
  obtain ⟨us, hlen, hown, h3⟩ := hm.res _ _ hmem
  have hro := V8 (E := E) (k := .unt) (l := us) hown
  obtain ⟨a, cap, h1, h2, h4⟩ := hro
  refine ⟨a, cap, by rw [← hlen]; exact h1, fun hn => List.eq_nil_of_length_eq_zero (by rw [← hlen, h2 hn]; rfl), fun ad had => ⟨fun hne => (h4 ad had).1 (fun e => hne (List.eq_nil_of_length_eq_zero (by rw [← hlen, e]; rfl))), fun i x hx => ?_⟩⟩
  have hi : i < us.length := by rw [hlen]; exact (List.getElem?_eq_some_iff.1 hx).1
  obtain ⟨u, hu⟩ : ∃ u, us[i]? = some u := ⟨us[i], by simp [hi]⟩
  obtain ⟨g1, g2, g3⟩ := h3 i u x hu hx
  have hbO : ad.block ∉ O' := fun hb => by
    rcases hown.2 with ⟨hv, _⟩ | ⟨g, cp, cur, hv, _⟩
    · rw [hv] at h1; have := h1.1; injection this with e1 _ _; rw [had] at e1; cases e1
    · rw [hv] at h1
      have : a = some ⟨g, 0, none⟩ := by have := h1.1; injection this with e1 _ _; exact e1.symm
      rw [this] at had; cases had
      exact Yb hm.keys hm.nodup hmem (by simp) (by simp [Res.block, hv, Value.ownBlock]) (hO' _ hb)
  have c0 := (h4 ad had).2 i u hu 0 (.str u.name) rfl
  have c1 := (h4 ad had).2 i u hu 1 (.raw (.slice u.la u.ln u.lc)) rfl
  simp only [Kd.sz, Nat.add_zero, At.den] at c0 c1
  rw [g1] at c0
  rw [g2.1] at c1
  exact ⟨⟨c0, hbO⟩, u.la, u.lc, ⟨⟨c1, hbO⟩, by rw [← g2.1]; exact g2.2⟩, sub g3⟩
end Vc
attribute [local irreducible] T Za Z2 Ent RdC RwC Xl Zc Zs
def Vv (k : Nat) : List (List UInt8) := (kindN.take k).flatMap Xq
theorem Q9 (k : Nat) (hk : k < 8) : Vv (k + 1) = Vv k ++ Xq (kindN.getD k []) := by
  have hnl : kindN.length = 8 := rfl
  have e : kindN.take (k + 1) = kindN.take k ++ [kindN.getD k []] := by
    rw [List.take_add_one, List.getElem?_eq_getElem (by omega)]
    simp [List.getD, hnl, hk]
  unfold Vv
  rw [e]; simp
theorem Ii (k : Nat) (hk : k ≤ 8) : (Vv k).length = 3 * k := by
  induction k with
  | zero => rfl
  | succ k ih => rw [Q9 k (by omega), List.length_append, ih (by omega)]; simp [Xq, Wg]; omega
set_option maxHeartbeats 8000000 in
set_option maxRecDepth 100000 in
theorem Jk : GC Tryz.prog 8 [] [] 0 [] (.one (.a (.ref 0))) [(0, .row 9 .str Ye)] 1 := by
  refine Z6.fn.gc (by simp) (by simp [Yo, Yr, Yp, Zw, Zp, Vc.S1.okN, At.okN, SV.okN, Res.okN, Res.outOk, Z1, Res.own, Value.oneCell']) fun w X fr => ?_
  have hkl : kindN.length = 8 := rfl
  repeat' (first | ((first | (with_reducible first | refine T.regs ?_ | refine T.cond ?_ | refine T.reg ?_ | refine T.ret ?_ | refine T.exit ?_ | refine T.skip ?_) | ((with_reducible first | refine T.dregs ?_ ?_ | refine T.dreg ?_ ?_ | refine T.dregts ?_ ?_ | refine T.dregt ?_ ?_ | refine T.danys ?_ ?_ | refine T.dany ?_ ?_); exact mix)); simp only [Zh, Zi, Int.reduceEq, Int.reduceNeg, Int.reduceLE, Int.reduceLT, Nat.reduceSub, ↓reduceIte, reduceCtorEq, Nat.reduceEqDiff, Nat.reduceAdd, Nat.reduceMul, Nat.reduceLeDiff, Nat.reduceLT, Nat.reduceBEq, Nat.reduceBNe, implies_true, Z6.rs, Z6.res]) | (with_reducible first | refine T.seq ?_ | refine T.block ?_ | assumption | refine And.intro ?_ ?_) | (intro h; first | (exfalso; omega) | exact (tf h ‹_›).elim | exact (tf ‹_› h).elim | skip))
  all_goals first | omega | skip
  refine T.weak (Ent.nilRow (t := 1) 9 .str rfl) ?_
  refine T.weak (Ent.litRow (m := 0) .str kindN rfl rfl rfl rfl (by decide)) ?_
  refine T.loop (ι := { k : Nat // k ≤ 8 })
    (fun x => ⟨[(8, .one (.a (.int .i64 (x.1 : Int)))), (7, .one (.a (.int .i64 8))), (6, .one (.a (.ref 0))), (1, .one (.a (.ref 1)))], [(0, .row 9 .str kindN), (1, .row 9 .str (Vv x.1))], 2⟩) (fun x => 8 - x.1) ⟨0, by simp⟩ (Ent.mk1 (id) (by simp [Z7, Vv])) ?_
  rintro ⟨k, hk⟩
  simp only
  by_cases hk8 : k < 8
  · have hwk : IntKind.i64.wrap ((k : Int) + 1) = ((k + 1 : Nat) : Int) := Z4 (by omega)
    have htk : ((k : Int)).toNat = k := by omega
    have hks := Q9 k hk8
    have hkl2 := Ii k hk
    have hsl := Lb k hk8
    have hx : kindN.getD k (Kd.dflt .str) = kindN.getD k [] := rfl
    generalize kindN.getD k [] = s at hks hsl hx
    have hlt8 : (k : Int) < 8 := by omega
    repeat' (first | ((first | (with_reducible first | refine T.regs ?_ | refine T.cond ?_ | refine T.reg ?_ | refine T.ret ?_ | refine T.exit ?_ | refine T.skip ?_) | ((with_reducible first | refine T.dregs ?_ ?_ | refine T.dreg ?_ ?_ | refine T.dregts ?_ ?_ | refine T.dregt ?_ ?_ | refine T.danys ?_ ?_ | refine T.dany ?_ ?_); exact mix)); simp only [Zh, Zi, Int.reduceEq, Int.reduceNeg, Int.reduceLE, Int.reduceLT, Nat.reduceSub, ↓reduceIte, reduceCtorEq, Nat.reduceEqDiff, Nat.reduceAdd, Nat.reduceMul, Nat.reduceLeDiff, Nat.reduceLT, Nat.reduceBEq, Nat.reduceBNe, implies_true, Z6.rs, Z6.res, hx, htk, hkl, hlt8]) | (with_reducible first | refine T.seq ?_ | refine T.block ?_ | assumption | refine And.intro ?_ ?_) | (intro h; first | (exfalso; omega) | exact (tf h ‹_›).elim | exact (tf ‹_› h).elim | skip))
    all_goals first | omega | skip
    refine T.weak (Ent.litRow (m := 2) .str Wg rfl rfl rfl rfl (by decide)) ?_
    simp only [Zh, Zi, Int.reduceEq, Int.reduceNeg, Int.reduceLE, Int.reduceLT, Nat.reduceSub, ↓reduceIte, reduceCtorEq, Nat.reduceEqDiff, Nat.reduceAdd, Nat.reduceMul, Nat.reduceLeDiff, Nat.reduceLT, Nat.reduceBEq, Nat.reduceBNe, implies_true]
    refine T.loop (ι := { j : Nat // j ≤ 3 })
      (fun x => ⟨[(14, .one (.a (.int .i64 (x.1 : Int)))), (13, .one (.a (.int .i64 3))), (12, .one (.a (.ref 2))), (3, .one (.a (.str s))), (8, .one (.a (.int .i64 (k : Int)))), (7, .one (.a (.int .i64 8))), (6, .one (.a (.ref 0))), (1, .one (.a (.ref 1)))],
        [(0, .row 9 .str kindN), (1, .row 9 .str (Vv k ++ (Xq s).take x.1)), (2, .row 9 .str Wg)], 3⟩) (fun x => 3 - x.1) ⟨0, by simp⟩ (Ent.mk1 (id) (by simp [Z7])) ?_
    rintro ⟨j, hj⟩
    simp only
    have htl : Wg.length = 3 := rfl
    by_cases hj3 : j < 3
    · have hw : IntKind.i64.wrap ((j : Int) + 1) = ((j + 1 : Nat) : Int) := Z4 (by omega)
      have htj : ((j : Int)).toNat = j := by omega
      have htk : (Xq s).take (j + 1) = (Xq s).take j ++ [s ++ Wg.getD j (Kd.dflt .str)] := by
        have h3 : j < (Xq s).length := by simp [Xq, Wg]; omega
        rw [List.take_add_one, List.getElem?_eq_getElem h3]
        simp [Xq, List.getD, show j < Wg.length by omega]
      have hll : (Vv k ++ (Xq s).take j).length ≤ 100 := by
        simp only [List.length_append, List.length_take, hkl2, Xq, List.length_map, htl]; omega
      generalize hx : Wg.getD j (Kd.dflt .str) = x at htk
      have hsx : s.length + x.length ≤ 1000 := by
        have h2 : x.length ≤ 1 := by rw [← hx]; exact Kv j hj3
        omega
      generalize hacc : Vv k ++ (Xq s).take j = acc at hll
      have hacc2 : Vv k ++ (Xq s).take (j + 1) = acc ++ [s ++ x] := by rw [htk, ← hacc, List.append_assoc]
      have hlt3 : (j : Int) < 3 := by omega
      repeat' (first | ((first | (with_reducible first | refine T.regs ?_ | refine T.cond ?_ | refine T.reg ?_ | refine T.ret ?_ | refine T.exit ?_ | refine T.skip ?_) | ((with_reducible first | refine T.dregs ?_ ?_ | refine T.dreg ?_ ?_ | refine T.dregts ?_ ?_ | refine T.dregt ?_ ?_ | refine T.danys ?_ ?_ | refine T.dany ?_ ?_); exact mix)); simp only [Zh, Zi, Int.reduceEq, Int.reduceNeg, Int.reduceLE, Int.reduceLT, Nat.reduceSub, ↓reduceIte, reduceCtorEq, Nat.reduceEqDiff, Nat.reduceAdd, Nat.reduceMul, Nat.reduceLeDiff, Nat.reduceLT, Nat.reduceBEq, Nat.reduceBNe, implies_true, Z6.rs, Z6.res, hx, hw, htj, htl, hlt3, Int.ofNat_lt]) | (with_reducible first | refine T.seq ?_ | refine T.block ?_ | assumption | refine And.intro ?_ ?_) | (intro h; first | (exfalso; omega) | exact (tf h ‹_›).elim | exact (tf ‹_› h).elim | skip))
      all_goals first | omega | skip
      exact ⟨⟨j + 1, hj3⟩, (Ent.mk1 (fun n => if n = 1 then 4 else n) (by simp [Z7, hacc2, hw])), by simp only; omega⟩
    · have hj2 : j = 3 := by omega
      subst hj2
      have h3 : (Xq s).take 3 = Xq s := rfl
      have hlt3 : ¬ (((3 : Nat) : Int) < 3) := by decide
      rw [h3]
      repeat' (first | ((first | (with_reducible first | refine T.regs ?_ | refine T.cond ?_ | refine T.reg ?_ | refine T.ret ?_ | refine T.exit ?_ | refine T.skip ?_) | ((with_reducible first | refine T.dregs ?_ ?_ | refine T.dreg ?_ ?_ | refine T.dregts ?_ ?_ | refine T.dregt ?_ ?_ | refine T.danys ?_ ?_ | refine T.dany ?_ ?_); exact mix)); simp only [Zh, Zi, Int.reduceEq, Int.reduceNeg, Int.reduceLE, Int.reduceLT, Nat.reduceSub, ↓reduceIte, reduceCtorEq, Nat.reduceEqDiff, Nat.reduceAdd, Nat.reduceMul, Nat.reduceLeDiff, Nat.reduceLT, Nat.reduceBEq, Nat.reduceBNe, implies_true, Z6.rs, Z6.res, hlt3, hwk]) | (with_reducible first | refine T.seq ?_ | refine T.block ?_ | assumption | refine And.intro ?_ ?_) | (intro h; first | (exfalso; omega) | exact (tf h ‹_›).elim | exact (tf ‹_› h).elim | skip))
      all_goals first | omega | skip
      exact ⟨⟨k + 1, hk8⟩, (Ent.mk1 (id) (by simp [Z7, hks, hwk])), by simp only; omega⟩
  · have hk2 : k = 8 := by omega
    subst hk2
    have e : Vv 8 = Ye := rfl
    rw [e]
    have hlt8 : ¬ (((8 : Nat) : Int) < 8) := by decide
    repeat' (first | ((first | (with_reducible first | refine T.regs ?_ | refine T.cond ?_ | refine T.reg ?_ | refine T.ret ?_ | refine T.exit ?_ | refine T.skip ?_) | ((with_reducible first | refine T.dregs ?_ ?_ | refine T.dreg ?_ ?_ | refine T.dregts ?_ ?_ | refine T.dregt ?_ ?_ | refine T.danys ?_ ?_ | refine T.dany ?_ ?_); exact mix)); simp only [Zh, Zi, Int.reduceEq, Int.reduceNeg, Int.reduceLE, Int.reduceLT, Nat.reduceSub, ↓reduceIte, reduceCtorEq, Nat.reduceEqDiff, Nat.reduceAdd, Nat.reduceMul, Nat.reduceLeDiff, Nat.reduceLT, Nat.reduceBEq, Nat.reduceBNe, implies_true, Z6.rs, Z6.res, hlt8]) | (with_reducible first | refine T.seq ?_ | refine T.block ?_ | assumption | refine And.intro ?_ ?_) | (intro h; first | (exfalso; omega) | exact (tf h ‹_›).elim | exact (tf ‹_› h).elim | skip))
    all_goals first | omega | skip
set_option maxHeartbeats 4000000 in
theorem F3 (l : List (List UInt8)) (hlen : l.length ≤ 9223372036854775807) :
    RdC Tryz.prog 7 [.ro .str l, .ro .str l] (.one (.a (.bool true))) := by
  refine Ym.fn.rd (by simp) (by repeat' (first | exact rfl | exact trivial | refine And.intro ?_ ?_ | (simp [SV.bd, Vc.S1.bd, At.bd, Zq, Zr, Ins.cells, Ln.cells]; done))) (by repeat' (first | exact rfl | exact trivial | refine And.intro ?_ ?_ | (simp [SV.bd, Vc.S1.bd, At.bd, Zq, Zr, Ins.cells, Ln.cells]; done))) fun w => ?_
  repeat' (first | ((first | (with_reducible first | refine T.regs ?_ | refine T.cond ?_ | refine T.reg ?_ | refine T.ret ?_ | refine T.exit ?_ | refine T.skip ?_) | ((with_reducible first | refine T.dregs ?_ ?_ | refine T.dreg ?_ ?_ | refine T.dregts ?_ ?_ | refine T.dregt ?_ ?_ | refine T.danys ?_ ?_ | refine T.dany ?_ ?_); exact mix)); simp only [Zh, Zi, Int.reduceEq, Int.reduceNeg, Int.reduceLE, Int.reduceLT, Nat.reduceSub, ↓reduceIte, reduceCtorEq, Nat.reduceEqDiff, Nat.reduceAdd, Nat.reduceMul, Nat.reduceLeDiff, Nat.reduceLT, Nat.reduceBEq, Nat.reduceBNe, implies_true, Ym.rs, Ym.res]) | (with_reducible first | refine T.seq ?_ | refine T.block ?_ | assumption | refine And.intro ?_ ?_) | (intro h; first | (exfalso; omega) | exact (tf h ‹_›).elim | exact (tf ‹_› h).elim | skip))
  all_goals first | omega | skip
  refine T.loop (ι := { k : Nat // k ≤ l.length })
    (fun x => ⟨[(13, .one (.a (.int .i64 (x.1 : Int)))), (12, .one (.a (.int .i64 l.length))), (1, .one (.a (.ref 1))), (0, .one (.a (.ref 0)))], [(0, .ro .str l), (1, .ro .str l)], 2⟩)
    (fun x => l.length - x.1) ⟨0, by simp⟩ (Ent.mk1 (id) (by simp [Z7])) ?_
  rintro ⟨k, hk⟩
  simp only
  by_cases hlt : k < l.length
  · have hw : IntKind.i64.wrap ((k : Int) + 1) = ((k + 1 : Nat) : Int) := Z4 (by omega)
    have ht : ((k : Int)).toNat = k := by omega
    generalize hx : l.getD k (Kd.dflt .str) = x
    repeat' (first | ((first | (with_reducible first | refine T.regs ?_ | refine T.cond ?_ | refine T.reg ?_ | refine T.ret ?_ | refine T.exit ?_ | refine T.skip ?_) | ((with_reducible first | refine T.dregs ?_ ?_ | refine T.dreg ?_ ?_ | refine T.dregts ?_ ?_ | refine T.dregt ?_ ?_ | refine T.danys ?_ ?_ | refine T.dany ?_ ?_); exact mix)); simp only [Zh, Zi, Int.reduceEq, Int.reduceNeg, Int.reduceLE, Int.reduceLT, Nat.reduceSub, ↓reduceIte, reduceCtorEq, Nat.reduceEqDiff, Nat.reduceAdd, Nat.reduceMul, Nat.reduceLeDiff, Nat.reduceLT, Nat.reduceBEq, Nat.reduceBNe, implies_true, Ym.rs, Ym.res, hx, hw, ht, Int.ofNat_lt, decide_true, not_true_eq_false, ne_eq, decide_false]) | (with_reducible first | refine T.seq ?_ | refine T.block ?_ | assumption | refine And.intro ?_ ?_) | (intro h; first | (exfalso; omega) | exact (tf h ‹_›).elim | exact (tf ‹_› h).elim | skip))
    all_goals first | omega | skip
    exact ⟨⟨k + 1, hlt⟩, (Ent.mk1 (id) (by simp [Z7, hw])), by simp only; omega⟩
  · have hk2 : k = l.length := by omega
    subst hk2
    repeat' (first | ((first | (with_reducible first | refine T.regs ?_ | refine T.cond ?_ | refine T.reg ?_ | refine T.ret ?_ | refine T.exit ?_ | refine T.skip ?_) | ((with_reducible first | refine T.dregs ?_ ?_ | refine T.dreg ?_ ?_ | refine T.dregts ?_ ?_ | refine T.dregt ?_ ?_ | refine T.danys ?_ ?_ | refine T.dany ?_ ?_); exact mix)); simp only [Zh, Zi, Int.reduceEq, Int.reduceNeg, Int.reduceLE, Int.reduceLT, Nat.reduceSub, ↓reduceIte, reduceCtorEq, Nat.reduceEqDiff, Nat.reduceAdd, Nat.reduceMul, Nat.reduceLeDiff, Nat.reduceLT, Nat.reduceBEq, Nat.reduceBNe, implies_true, Ym.rs, Ym.res, Int.ofNat_lt]) | (with_reducible first | refine T.seq ?_ | refine T.block ?_ | assumption | refine And.intro ?_ ?_) | (intro h; first | (exfalso; omega) | exact (tf h ‹_›).elim | exact (tf ‹_› h).elim | skip))
    all_goals first | omega | skip
set_option maxHeartbeats 4000000 in
theorem Text_no (nm : List UInt8) (hin : nm ∉ Ye) : GC Tryz.prog 9 [.a (.str nm)] [] 0 [] (.tup [.a (.str []), .a (.int .i64 7)]) [] 0 := by
  have hCon := Mp Ye nm (by decide)
  rw [decide_eq_false hin] at hCon
  refine V5.fn.gc (by simp) (by simp [Yo, Yr, Yp, Zw, Zp, Vc.S1.okN, At.okN, SV.okN, Res.okN, Res.outOk, Z1, Res.own, Value.oneCell']) fun w X fr => ?_
  repeat' (first | ((first | (with_reducible first | refine T.regs ?_ | refine T.cond ?_ | refine T.reg ?_ | refine T.ret ?_ | refine T.exit ?_ | refine T.skip ?_) | ((with_reducible first | refine T.dregs ?_ ?_ | refine T.dreg ?_ ?_ | refine T.dregts ?_ ?_ | refine T.dregt ?_ ?_ | refine T.danys ?_ ?_ | refine T.dany ?_ ?_); exact mix) | ((with_reducible refine Za.gc (Rg) ?_ ?_); (focus ((simp [Zm]); done))) | ((with_reducible first | apply Za.rd (hCon) | apply Zc.rd (hCon)); (focus ((repeat' (first | exact rfl | exact trivial | refine And.intro ?_ ?_ | (simp [SV.bd, Vc.S1.bd, At.bd, Zq, Zr, Ins.cells, Ln.cells]; done))); done)))); simp only [Zh, Zi, Int.reduceEq, Int.reduceNeg, Int.reduceLE, Int.reduceLT, Nat.reduceSub, ↓reduceIte, reduceCtorEq, Nat.reduceEqDiff, Nat.reduceAdd, Nat.reduceMul, Nat.reduceLeDiff, Nat.reduceLT, Nat.reduceBEq, Nat.reduceBNe, implies_true, V5.rs, V5.res, Bool.not_true, Bool.not_false]) | (with_reducible first | refine T.seq ?_ | refine T.block ?_ | assumption | refine And.intro ?_ ?_) | (intro h; first | (exfalso; omega) | exact (tf h ‹_›).elim | exact (tf ‹_› h).elim | skip))
  all_goals first | omega | skip
end Go.Proofs.YtjochhncheheaaaGreatDoor
namespace Go.Proofs.YtjochhncheheaaaGreatDoor
open Go Go.RowKit Vc
set_option linter.unusedVariables false
set_option linter.unusedSimpArgs false
attribute [local irreducible] T Za Z2 Ent RdC RwC Xl Zc Zs
set_option maxRecDepth 1000000 in
theorem Db : ∀ i, i < 24 → (linkS (unitsTo 24) (nameAt i)).2 = (0, 0) ∧ 0 < (linkS (unitsTo 24) (nameAt i)).1.1.length := by decide +kernel
theorem J0 (i : Nat) (hi : i < 24) : (unitsTo 24).getD i ([], []) = (nameAt i, linesAt i) := by
  simp [unitsTo, List.getD, hi]
set_option maxHeartbeats 16000000 in
set_option maxRecDepth 100000 in
theorem Er (l : List (List UInt8)) (k : Nat) (hk : k < l.length) (x nm : List UInt8) (e : l[k] = nm) : decide (x ∈ l.take (k + 1)) = (decide (x ∈ l.take k) || decide (nm = x)) := by
  rw [List.take_add_one, List.getElem?_eq_getElem hk, e]
  have h1 : (x ∈ l.take k ++ (some nm).toList) ↔ (x ∈ l.take k ∨ nm = x) := by
    rw [List.mem_append]
    exact or_congr Iff.rfl ⟨fun hx => (List.mem_singleton.1 hx).symm, fun hx => List.mem_singleton.2 hx.symm⟩
  exact (decide_eq_decide.2 h1).trans (Bool.decide_or _ _)
theorem Ho {G : Nat} {H : Nat → Option Obj} (hM : Xh G H) (hH : Y7 G H) {w : World} {X : List Nat} {fr : List Value} {Q : Exit → St → Prop} (hglob : X3 G H w X) (which : Int) (hw1 : -9223372036854775808 ≤ which ∧ which ≤ 9223372036854775807)
    (hE : ∀ S' : St, Z1 S'.slots 4 = some (.one (.a (.bool true))) → Q .ret S') :
    T ⟨Tryz.prog, w, X, 149, fr⟩ Zg.c44 Q ⟨[(5, .one (.a (.ref 0))), (1, .one (.a (.int .i64 which)))], [(0, .row 9 .str Ye)], 1⟩ := by
  have hU := Jm hM hH
  have hnl : Ye.length = 24 := rfl
  have hul := To 24
  show T _ (.seq (.reg Zg.r13) Zg.c43) Q _
  refine T.cut (ι := Unit) (fun _ => ⟨[(11, .one (.a (.ref 1))), (5, .one (.a (.ref 0))), (1, .one (.a (.int .i64 which)))], [(0, .row 9 .str Ye), (1, .rou (unitsTo 24))], 2⟩) ?_ fun _ => ?_
  · repeat' (first | ((first | (with_reducible first | refine T.regs ?_ | refine T.cond ?_ | refine T.reg ?_ | refine T.ret ?_ | refine T.exit ?_ | refine T.skip ?_) | ((with_reducible first | refine T.dregs ?_ ?_ | refine T.dreg ?_ ?_ | refine T.dregts ?_ ?_ | refine T.dregt ?_ ?_ | refine T.danys ?_ ?_ | refine T.dany ?_ ?_); exact mix) | (with_reducible refine Za.ru hglob (hU) ?_)); simp only [Zh, Zi, Int.reduceEq, Int.reduceNeg, Int.reduceLE, Int.reduceLT, Nat.reduceSub, ↓reduceIte, reduceCtorEq, Nat.reduceEqDiff, Nat.reduceAdd, Nat.reduceMul, Nat.reduceLeDiff, Nat.reduceLT, Nat.reduceBEq, Nat.reduceBNe, implies_true, Zg.rs, Zg.res]) | (with_reducible first | refine T.seq ?_ | refine T.block ?_ | assumption | refine And.intro ?_ ?_) | (intro h; first | (exfalso; omega) | exact (tf h ‹_›).elim | exact (tf ‹_› h).elim | skip))
    all_goals first | omega | skip
    exact ⟨(), Ent.trans (Ent.urowRou (m := 1) rfl) (Ent.mk1 (id) (by simp [Z7]))⟩
  by_cases h0 : which < 0
  · have h0' : decide (which < 0) = true := decide_eq_true h0
    repeat' (first | ((first | (with_reducible first | refine T.regs ?_ | refine T.cond ?_ | refine T.reg ?_ | refine T.ret ?_ | refine T.exit ?_ | refine T.skip ?_) | ((with_reducible first | refine T.dregs ?_ ?_ | refine T.dreg ?_ ?_ | refine T.dregts ?_ ?_ | refine T.dregt ?_ ?_ | refine T.danys ?_ ?_ | refine T.dany ?_ ?_); exact mix)); simp only [Zh, Zi, Int.reduceEq, Int.reduceNeg, Int.reduceLE, Int.reduceLT, Nat.reduceSub, ↓reduceIte, reduceCtorEq, Nat.reduceEqDiff, Nat.reduceAdd, Nat.reduceMul, Nat.reduceLeDiff, Nat.reduceLT, Nat.reduceBEq, Nat.reduceBNe, implies_true, Zg.rs, Zg.res, h0', hul, hnl, decide_true, ne_eq, not_true_eq_false, decide_false]) | (with_reducible first | refine T.seq ?_ | refine T.block ?_ | assumption | refine And.intro ?_ ?_) | (intro h; first | (exfalso; omega) | exact (tf h ‹_›).elim | exact (tf ‹_› h).elim | skip))
    all_goals first | omega | exact hE _ rfl | skip
  have h0' : decide (which < 0) = false := decide_eq_false h0
  by_cases h24 : 24 ≤ which
  · have h24' : decide (24 ≤ which) = true := decide_eq_true h24
    repeat' (first | ((first | (with_reducible first | refine T.regs ?_ | refine T.cond ?_ | refine T.reg ?_ | refine T.ret ?_ | refine T.exit ?_ | refine T.skip ?_) | ((with_reducible first | refine T.dregs ?_ ?_ | refine T.dreg ?_ ?_ | refine T.dregts ?_ ?_ | refine T.dregt ?_ ?_ | refine T.danys ?_ ?_ | refine T.dany ?_ ?_); exact mix)); simp only [Zh, Zi, Int.reduceEq, Int.reduceNeg, Int.reduceLE, Int.reduceLT, Nat.reduceSub, ↓reduceIte, reduceCtorEq, Nat.reduceEqDiff, Nat.reduceAdd, Nat.reduceMul, Nat.reduceLeDiff, Nat.reduceLT, Nat.reduceBEq, Nat.reduceBNe, implies_true, Zg.rs, Zg.res, h0', h24', hul, hnl, decide_true, ne_eq, not_true_eq_false, decide_false]) | (with_reducible first | refine T.seq ?_ | refine T.block ?_ | assumption | refine And.intro ?_ ?_) | (intro h; first | (exfalso; omega) | exact (tf h ‹_›).elim | exact (tf ‹_› h).elim | skip))
    all_goals first | omega | exact hE _ rfl | skip
  have h24' : decide (24 ≤ which) = false := decide_eq_false h24
  obtain ⟨i, rfl⟩ : ∃ i : Nat, which = i := ⟨which.toNat, by omega⟩
  have hi : i < 24 := by omega
  have hit : ((i : Int)).toNat = i := by omega
  obtain ⟨hr1, hr2, hr3⟩ := Md i hi
  obtain ⟨q1, q2⟩ := Db i hi
  have hT := Nm hM hH i hi
  have hR := Oh hM (textAt i) (by omega)
  have hL := H1 (unitsTo 24) (nameAt i) (Q0 24 (Nat.le_refl _) [] (by decide)).2 (by have := Kr i hi; omega)
  obtain ⟨e1, e2⟩ := Dd (congrArg Prod.fst q1)
  rw [e1, e2] at hL
  have hx : Ye.getD i (Kd.dflt .str) = nameAt i := rfl
  have hug := J0 i hi
  have hll : (Pc (textAt i)).1 = linesAt i := rfl
  rw [hr1, hll] at hR
  generalize textAt i = tx at hT hR
  generalize linesAt i = ls at hR hr3 hug
  generalize nameAt i = nm at hT hx hug hL q2
  generalize linkS (unitsTo 24) nm = R at hL q2
  generalize unitsTo 24 = us at hL hug hul
  have hilt : (i : Int) < 24 := by omega
  repeat' (first | ((first | (with_reducible first | refine T.regs ?_ | refine T.cond ?_ | refine T.reg ?_ | refine T.ret ?_ | refine T.exit ?_ | refine T.skip ?_) | ((with_reducible first | refine T.dregs ?_ ?_ | refine T.dreg ?_ ?_ | refine T.dregts ?_ ?_ | refine T.dregt ?_ ?_ | refine T.danys ?_ ?_ | refine T.dany ?_ ?_); exact mix) | ((with_reducible refine Za.gcp hglob (hT) ?_ ?_); (focus ((simp [Zm]); done))) | ((with_reducible refine Za.gcp hglob (hR) ?_ ?_); (focus ((simp [Zm]); done)))); simp only [Zh, Zi, Int.reduceEq, Int.reduceNeg, Int.reduceLE, Int.reduceLT, Nat.reduceSub, ↓reduceIte, reduceCtorEq, Nat.reduceEqDiff, Nat.reduceAdd, Nat.reduceMul, Nat.reduceLeDiff, Nat.reduceLT, Nat.reduceBEq, Nat.reduceBNe, implies_true, Zg.rs, Zg.res, h0', h24', hul, hnl, hx, hug, hit, hilt, hi, decide_true, ne_eq, not_true_eq_false, decide_false, Int.ofNat_lt]) | (with_reducible first | refine T.seq ?_ | refine T.block ?_ | assumption | refine And.intro ?_ ?_) | (intro h; first | (exfalso; omega) | exact (tf h ‹_›).elim | exact (tf ‹_› h).elim | skip))
  all_goals first | omega | skip
  have hR0 : ((R.1.1.length : Nat) : Int) > 0 := by omega
  refine T.loop (ι := { k : Nat // k ≤ ls.length })
    (fun x => ⟨[(114, .one (.a (.int .i64 (x.1 : Int)))), (113, .one (.a (.int .i64 ls.length))), (12, .one (.a (.ref 2))), (13, .one (.a (.loc 3 0))), (11, .one (.a (.ref 1))), (5, .one (.a (.ref 0))), (1, .one (.a (.int .i64 (i : Int))))],
      [(2, .row 40 .line ls), (3, .cells 32 [.int .i64 0, .int .i64 0]), (0, .row 9 .str Ye), (1, .rou us)], 4⟩)
    (fun x => ls.length - x.1) ⟨0, by simp⟩ (Ent.mk1 (id) (by simp [Z7])) ?_
  rintro ⟨k, hk⟩
  simp only
  by_cases hlt : k < ls.length
  · have hw : IntKind.i64.wrap ((k : Int) + 1) = ((k + 1 : Nat) : Int) := Z4 (by omega)
    have hkt : ((k : Int)).toNat = k := by omega
    have hdf : ls.getD k (Kd.dflt .line) = ls.getD k ln0 := rfl
    generalize ls.getD k ln0 = x at hdf
    have hlt2 : (k : Int) < (ls.length : Int) := by omega
    repeat' (first | ((first | (with_reducible first | refine T.regs ?_ | refine T.cond ?_ | refine T.reg ?_ | refine T.ret ?_ | refine T.exit ?_ | refine T.skip ?_) | ((with_reducible first | refine T.dregs ?_ ?_ | refine T.dreg ?_ ?_ | refine T.dregts ?_ ?_ | refine T.dregt ?_ ?_ | refine T.danys ?_ ?_ | refine T.dany ?_ ?_); exact mix)); simp only [Zh, Zi, Int.reduceEq, Int.reduceNeg, Int.reduceLE, Int.reduceLT, Nat.reduceSub, ↓reduceIte, reduceCtorEq, Nat.reduceEqDiff, Nat.reduceAdd, Nat.reduceMul, Nat.reduceLeDiff, Nat.reduceLT, Nat.reduceBEq, Nat.reduceBNe, implies_true, Zg.rs, Zg.res, hw, hkt, hug, hit, hilt, hi, hul, hdf, hlt2, decide_true, ne_eq, not_true_eq_false, decide_false, Int.ofNat_lt]) | (with_reducible first | refine T.seq ?_ | refine T.block ?_ | assumption | refine And.intro ?_ ?_) | (intro h; first | (exfalso; omega) | exact (tf h ‹_›).elim | exact (tf ‹_› h).elim | skip))
    all_goals first | omega | skip
    exact ⟨⟨k + 1, hlt⟩, (Ent.mk1 (id) (by simp [Z7, hw])), by simp only; omega⟩
  · have hk2 : k = ls.length := by omega
    subst hk2
    have hnl2 : ¬ ((ls.length : Int) < (ls.length : Int)) := by omega
    repeat' (first | ((first | (with_reducible first | refine T.regs ?_ | refine T.cond ?_ | refine T.reg ?_ | refine T.ret ?_ | refine T.exit ?_ | refine T.skip ?_) | ((with_reducible first | refine T.dregs ?_ ?_ | refine T.dreg ?_ ?_ | refine T.dregts ?_ ?_ | refine T.dregt ?_ ?_ | refine T.danys ?_ ?_ | refine T.dany ?_ ?_); exact mix) | ((with_reducible refine Za.gc (hL) ?_ ?_); (focus ((simp [Zm]); done)))); simp only [Zh, Zi, Int.reduceEq, Int.reduceNeg, Int.reduceLE, Int.reduceLT, Nat.reduceSub, ↓reduceIte, reduceCtorEq, Nat.reduceEqDiff, Nat.reduceAdd, Nat.reduceMul, Nat.reduceLeDiff, Nat.reduceLT, Nat.reduceBEq, Nat.reduceBNe, implies_true, Zg.rs, Zg.res, hnl2, hx, hug, hit, hilt, hnl, hi, hul, hR0, decide_true, ne_eq, not_true_eq_false, decide_false, Int.ofNat_lt]) | (with_reducible first | refine T.seq ?_ | refine T.block ?_ | assumption | refine And.intro ?_ ?_) | (intro h; first | (exfalso; omega) | exact (tf h ‹_›).elim | exact (tf ‹_› h).elim | skip))
    all_goals first | omega | exact T.ret (hE _ rfl) | skip
set_option maxHeartbeats 16000000 in
set_option maxRecDepth 100000 in
theorem Jy {G : Nat} {H : Nat → Option Obj} (hM : Xh G H) (hH : Y7 G H) (name : List UInt8) (which : Int) (hw1 : -9223372036854775808 ≤ which ∧ which ≤ 9223372036854775807) :
    GCp G H Tryz.prog 3 [.a (.str name), .a (.int .i64 which)] [] 0 [] (.one (.a (.bool true))) [] 0 := by
  have hnl : Ye.length = 24 := rfl
  have hS := F3 Ye (by decide)
  refine Zg.fn.gcp (by simp) (by simp [Yo, Yr, Yp, Zw, Zp, Vc.S1.okN, At.okN, SV.okN, Res.okN, Res.outOk, Z1, Res.own, Value.oneCell']) fun w X fr hglob => ?_
  repeat' (first | ((first | (with_reducible first | refine T.regs ?_ | refine T.cond ?_ | refine T.reg ?_ | refine T.ret ?_ | refine T.exit ?_ | refine T.skip ?_) | ((with_reducible first | refine T.dregs ?_ ?_ | refine T.dreg ?_ ?_ | refine T.dregts ?_ ?_ | refine T.dregt ?_ ?_ | refine T.danys ?_ ?_ | refine T.dany ?_ ?_); exact mix) | ((with_reducible refine Za.gc (Rg) ?_ ?_); (focus ((simp [Zm]); done))) | ((with_reducible refine Za.gc (Jk) ?_ ?_); (focus ((simp [Zm]); done))) | ((with_reducible first | apply Za.rd (hS) | apply Zc.rd (hS)); (focus ((repeat' (first | exact rfl | exact trivial | refine And.intro ?_ ?_ | (simp [SV.bd, Vc.S1.bd, At.bd, Zq, Zr, Ins.cells, Ln.cells]; done))); done)))); simp only [Zh, Zi, Int.reduceEq, Int.reduceNeg, Int.reduceLE, Int.reduceLT, Nat.reduceSub, ↓reduceIte, reduceCtorEq, Nat.reduceEqDiff, Nat.reduceAdd, Nat.reduceMul, Nat.reduceLeDiff, Nat.reduceLT, Nat.reduceBEq, Nat.reduceBNe, implies_true, Zg.rs, Zg.res, hnl, Bool.not_true]) | (with_reducible first | refine T.seq ?_ | refine T.block ?_ | assumption | refine And.intro ?_ ?_) | (intro h; first | (exfalso; omega) | exact (tf h ‹_›).elim | exact (tf ‹_› h).elim | skip))
  all_goals first | omega | skip
  refine T.loop (ι := { k : Nat // k ≤ 24 })
    (fun x => ⟨[(23, .one (.a (.int .i64 (x.1 : Int)))), (22, .one (.a (.int .i64 24))), (21, .one (.a (.ref 0))), (6, .one (.a (.bool (decide (name ∈ Ye.take x.1))))), (5, .one (.a (.ref 0))), (0, .one (.a (.str name))), (1, .one (.a (.int .i64 which)))],
      [(0, .row 9 .str Ye)], 1⟩)
    (fun x => 24 - x.1) ⟨0, by simp⟩ (Ent.mk1 (id) (by simp [Z7])) ?_
  rintro ⟨k, hk⟩
  simp only
  by_cases hlt : k < 24
  · have hw : IntKind.i64.wrap ((k : Int) + 1) = ((k + 1 : Nat) : Int) := Z4 (by omega)
    have hkt : ((k : Int)).toNat = k := by omega
    have hlt2 : (k : Int) < 24 := by omega
    have hx : Ye.getD k (Kd.dflt .str) = nameAt k := rfl
    have htk : decide (name ∈ Ye.take (k + 1)) = (decide (name ∈ Ye.take k) || decide (nameAt k = name)) := by
      have e : Ye[k]'(by omega) = nameAt k := by unfold nameAt; simp [List.getD, hnl, hlt]
      exact Er Ye k (by omega) name _ e
    generalize nameAt k = nm at hx htk
    cases hb : decide (name ∈ Ye.take k)
    · rw [hb, Bool.false_or] at htk
      repeat' (first | ((first | (with_reducible first | refine T.regs ?_ | refine T.cond ?_ | refine T.reg ?_ | refine T.ret ?_ | refine T.exit ?_ | refine T.skip ?_) | ((with_reducible first | refine T.dregs ?_ ?_ | refine T.dreg ?_ ?_ | refine T.dregts ?_ ?_ | refine T.dregt ?_ ?_ | refine T.danys ?_ ?_ | refine T.dany ?_ ?_); exact mix)); simp only [Zh, Zi, Int.reduceEq, Int.reduceNeg, Int.reduceLE, Int.reduceLT, Nat.reduceSub, ↓reduceIte, reduceCtorEq, Nat.reduceEqDiff, Nat.reduceAdd, Nat.reduceMul, Nat.reduceLeDiff, Nat.reduceLT, Nat.reduceBEq, Nat.reduceBNe, implies_true, Zg.rs, Zg.res, hw, hkt, hlt2, hx, hnl, Int.ofNat_lt]) | (with_reducible first | refine T.seq ?_ | refine T.block ?_ | assumption | refine And.intro ?_ ?_) | (intro h; first | (exfalso; omega) | exact (tf h ‹_›).elim | exact (tf ‹_› h).elim | skip))
      all_goals first | omega | skip
      exact ⟨⟨k + 1, hlt⟩, (Ent.mk1 (id) (by simp [Z7, hw, htk])), by simp only; omega⟩
    · rw [hb, Bool.true_or] at htk
      repeat' (first | ((first | (with_reducible first | refine T.regs ?_ | refine T.cond ?_ | refine T.reg ?_ | refine T.ret ?_ | refine T.exit ?_ | refine T.skip ?_) | ((with_reducible first | refine T.dregs ?_ ?_ | refine T.dreg ?_ ?_ | refine T.dregts ?_ ?_ | refine T.dregt ?_ ?_ | refine T.danys ?_ ?_ | refine T.dany ?_ ?_); exact mix)); simp only [Zh, Zi, Int.reduceEq, Int.reduceNeg, Int.reduceLE, Int.reduceLT, Nat.reduceSub, ↓reduceIte, reduceCtorEq, Nat.reduceEqDiff, Nat.reduceAdd, Nat.reduceMul, Nat.reduceLeDiff, Nat.reduceLT, Nat.reduceBEq, Nat.reduceBNe, implies_true, Zg.rs, Zg.res, hw, hkt, hlt2, hx, hnl, Int.ofNat_lt]) | (with_reducible first | refine T.seq ?_ | refine T.block ?_ | assumption | refine And.intro ?_ ?_) | (intro h; first | (exfalso; omega) | exact (tf h ‹_›).elim | exact (tf ‹_› h).elim | skip))
      all_goals first | omega | skip
      exact ⟨⟨k + 1, hlt⟩, (Ent.mk1 (id) (by simp [Z7, hw, htk])), by simp only; omega⟩
  · have hk2 : k = 24 := by omega
    subst hk2
    have hnl2 : ¬ (((24 : Nat) : Int) < 24) := by omega
    have e24 : Ye.take 24 = Ye := rfl
    rw [e24]
    have hRest := @Ho G H hM hH w X fr
    by_cases hin : name ∈ Ye
    · obtain ⟨i, hi, hni⟩ : ∃ i, i < 24 ∧ nameAt i = name := by
        obtain ⟨i, hi, he⟩ := List.getElem_of_mem hin
        exact ⟨i, by omega, by unfold nameAt; simp [List.getD, hi, he]⟩
      have hT := Nm hM hH i hi
      rw [hni] at hT
      generalize textAt i = tx at hT
      rw [decide_eq_true hin]
      repeat' (first | ((first | (with_reducible first | refine T.regs ?_ | refine T.cond ?_ | refine T.reg ?_ | refine T.ret ?_ | refine T.exit ?_ | refine T.skip ?_) | ((with_reducible first | refine T.dregs ?_ ?_ | refine T.dreg ?_ ?_ | refine T.dregts ?_ ?_ | refine T.dregt ?_ ?_ | refine T.danys ?_ ?_ | refine T.dany ?_ ?_); exact mix) | ((with_reducible refine Za.gcp hglob (hT) ?_ ?_); (focus ((simp [Zm]); done)))); simp only [Zh, Zi, Int.reduceEq, Int.reduceNeg, Int.reduceLE, Int.reduceLT, Nat.reduceSub, ↓reduceIte, reduceCtorEq, Nat.reduceEqDiff, Nat.reduceAdd, Nat.reduceMul, Nat.reduceLeDiff, Nat.reduceLT, Nat.reduceBEq, Nat.reduceBNe, implies_true, Zg.rs, Zg.res, hnl2, hnl, decide_true, ne_eq, not_true_eq_false, decide_false]) | (with_reducible first | refine T.seq ?_ | refine T.block ?_ | assumption | refine And.intro ?_ ?_) | (intro h; first | (exfalso; omega) | exact (tf h ‹_›).elim | exact (tf ‹_› h).elim | skip))
      all_goals first | omega | skip
      exact T.weak (Ent.mk1 (id) (by simp [Z7])) (hRest hglob which hw1 fun S' hl => by simp only [Zh, Zi, Int.reduceEq, Int.reduceNeg, Int.reduceLE, Int.reduceLT, Nat.reduceSub, ↓reduceIte, reduceCtorEq, Nat.reduceEqDiff, Nat.reduceAdd, Nat.reduceMul, Nat.reduceLeDiff, Nat.reduceLT, Nat.reduceBEq, Nat.reduceBNe, implies_true, hl])
    · have hT := Text_no name hin
      rw [decide_eq_false hin]
      repeat' (first | ((first | (with_reducible first | refine T.regs ?_ | refine T.cond ?_ | refine T.reg ?_ | refine T.ret ?_ | refine T.exit ?_ | refine T.skip ?_) | ((with_reducible first | refine T.dregs ?_ ?_ | refine T.dreg ?_ ?_ | refine T.dregts ?_ ?_ | refine T.dregt ?_ ?_ | refine T.danys ?_ ?_ | refine T.dany ?_ ?_); exact mix) | ((with_reducible refine Za.gc (hT) ?_ ?_); (focus ((simp [Zm]); done)))); simp only [Zh, Zi, Int.reduceEq, Int.reduceNeg, Int.reduceLE, Int.reduceLT, Nat.reduceSub, ↓reduceIte, reduceCtorEq, Nat.reduceEqDiff, Nat.reduceAdd, Nat.reduceMul, Nat.reduceLeDiff, Nat.reduceLT, Nat.reduceBEq, Nat.reduceBNe, implies_true, Zg.rs, Zg.res, hnl2, hnl, decide_true, ne_eq, not_true_eq_false, decide_false]) | (with_reducible first | refine T.seq ?_ | refine T.block ?_ | assumption | refine And.intro ?_ ?_) | (intro h; first | (exfalso; omega) | exact (tf h ‹_›).elim | exact (tf ‹_› h).elim | skip))
      all_goals first | omega | skip
      exact T.weak (Ent.mk1 (id) (by simp [Z7])) (hRest hglob which hw1 fun S' hl => by simp only [Zh, Zi, Int.reduceEq, Int.reduceNeg, Int.reduceLE, Int.reduceLT, Nat.reduceSub, ↓reduceIte, reduceCtorEq, Nat.reduceEqDiff, Nat.reduceAdd, Nat.reduceMul, Nat.reduceLeDiff, Nat.reduceLT, Nat.reduceBEq, Nat.reduceBNe, implies_true, hl])
end Go.Proofs.YtjochhncheheaaaGreatDoor
