/-
  A part of the proofs of this seat's laws: a step on the way. It has no conditions of its own.
-/
import Derived.Test.YtccjjcdjgibilaaDoorReadP
import Derived.Test.YtccjjcdjgibilaaDoorLibA
import Derived.Test.YtccjjcdjgibilaaDoorInstr
import Derived.Test.YtccjjcdjgibilaaDoorShelfR
import Derived.Test.YtccjjcdjgibilaaDoorIrR
import Derived.Shelf.Strings.SlTrimAscii
import Derived.Lib.AtoiErrMem
namespace Go.Proofs.YtccjjcdjgibilaaDoor
open Go Go.RowKit Vc
set_option linter.unusedVariables false
set_option linter.unusedSimpArgs false
attribute [local irreducible] T Z2 Wd Ent RdC RwC Up Ye Xt
@[reducible] def R6 (G : Nat) (H : Nat → Option Obj) : Prop := ∀ w X, Ut G H w X → ∃ m, w.cell? ⟨1, 0, none⟩ = some (.int .i64 m)
theorem O2 (G : Nat) (H : Nat → Option Obj) (s cs : List UInt8) (hs : s.length ≤ 9223372036854775807) (hcl : cs.length ≤ 100) (hc : cs.all (fun b => decide (b.toNat < 128)) = true) :
    GCp G H Tryd.prog 60 [.a (.str s), .a (.str cs)] [] 0 [] (.one (.a (.str (Lib.trimS s cs)))) [] 0 :=
  GCp.plain (by simp [S1.bd, At.bd]) (by simp [SV.bd, S1.bd, At.bd]) (by simp [U4, Td, U8, W4, Wt, Vc.S1.okN, At.okN, SV.okN, Res.okN, Res.outOk, Zd, Res.own, Value.oneCell']) fun w hg =>
    Any.strings_Trim_laid Tryd.lays160 (by kernel_rfl) ⟨s.toArray⟩ ⟨cs.toArray⟩ w (by simpa [ByteArray.size] using hs) (by simp [ByteArray.size]; omega) (ascii_of_all (by simpa using hc))
theorem Sc (G : Nat) (H : Nat → Option Obj) (s p : List UInt8) :
    GCp G H Tryd.prog 83 [.a (.str s), .a (.str p)] [] 0 [] (.tup [.a (.str (Lib.trimPrefix s p)), .a (.bool (Lib.hasPrefix s p))]) [] 0 :=
  GCp.plain (by simp [S1.bd, At.bd]) (by simp [SV.bd, S1.bd, At.bd]) (by simp [U4, Td, U8, W4, Wt, Vc.S1.okN, At.okN, SV.okN, Res.okN, Res.outOk, Zd, Res.own, Value.oneCell']) fun w hg =>
    (Tryd.strings_CutPrefix ⟨s.toArray⟩ ⟨p.toArray⟩ w).mono fun e w' ⟨he, hw⟩ => ⟨he, hw ▸ Below.refl _ _⟩
theorem Nd (G : Nat) (H : Nat → Option Obj) (s p : List UInt8) (hs : s.length ≤ 9223372036854775807) :
    GCp G H Tryd.prog 61 [.a (.str s), .a (.str p)] [] 0 [] (.tup [.a (.str (Lib.trimSuffix s p)), .a (.bool (Lib.hasSuffix s p))]) [] 0 :=
  GCp.plain (by simp [S1.bd, At.bd]) (by simp [SV.bd, S1.bd, At.bd]) (by simp [U4, Td, U8, W4, Wt, Vc.S1.okN, At.okN, SV.okN, Res.okN, Res.outOk, Zd, Res.own, Value.oneCell']) fun w hg =>
    (Tryd.strings_CutSuffix ⟨s.toArray⟩ ⟨p.toArray⟩ w (by simpa [ByteArray.size] using hs)).mono fun e w' ⟨he, hw⟩ => ⟨he, hw ▸ Below.refl _ _⟩
theorem Jw {G : Nat} {H : Nat → Option Obj} (hM : R6 G H) (s : List UInt8) (c : UInt8) (hs : s.length < 4294967281) :
    GCp G H Tryd.prog 59 [.a (.str s), .a (.str [c])] [] 0 [] (.tup [.a (.str (upToS c s).1), .a (.str (upToS c s).2.1), .a (.bool (upToS c s).2.2)]) [] 0 :=
  GCp.plain (by simp [S1.bd, At.bd]) (by simp [SV.bd, S1.bd, At.bd]) (by simp [U4, Td, U8, W4, Wt, Vc.S1.okN, At.okN, SV.okN, Res.okN, Res.outOk, Zd, Res.own, Value.oneCell']) fun w hg => by
    obtain ⟨m, hm⟩ := hM w _ hg
    have := Tryd.strings_Cut ⟨s.toArray⟩ ⟨[c].toArray⟩ m w (by simpa [ByteArray.size] using hs) hm
    simp only [List.toList_toArray, Qx] at this
    exact this.mono fun e w' ⟨he, n, hw⟩ => ⟨he, hw ▸ ⟨rfl, rfl, rfl, Nat.le_refl _, fun _ _ => rfl⟩⟩
theorem H1 (G : Nat) (H : Nat → Option Obj) (s : List UInt8) (n : Int) (hs : s.length ≤ 18) (hn : Lib.atoi s = some n) :
    GCp G H Tryd.prog 84 [.a (.str s)] [] 0 [] (.tup [.a (.int .i64 n), .a (.raw .nilIface)]) [] 0 :=
  GCp.plain (by simp [S1.bd, At.bd]) (by simp [SV.bd, S1.bd, At.bd, Value.oneCell']) (by simp [U4, Td, U8, W4, Wt, Vc.S1.okN, At.okN, SV.okN, Res.okN, Res.outOk, Zd, Res.own, Value.oneCell']) fun w hg =>
    (Tryd.strconv_Atoi ⟨s.toArray⟩ n (by simpa [ByteArray.size] using hs) hn w).mono fun e w' ⟨he, t, hw⟩ => ⟨he, hw ▸ Lib.bytesWorld_below w _ t⟩
theorem Ma {G : Nat} {H : Nat → Option Obj} (hM : R6 G H) (s : List UInt8) (c : UInt8) (hs : s.length ≤ 2000000) :
    GCp G H Tryd.prog 45 [.a (.str s), .a (.str [c])] [] 0 [] (.one (.a (.ref 0))) [(0, .row 9 .str (splitS c s))] 1 := by
  refine ⟨(by simp [U4, Td, U8, W4, Wt, Vc.S1.okN, At.okN, SV.okN, Res.okN, Res.outOk, Zd, Res.own, Value.oneCell']), fun ρ w hm hg => ?_⟩
  obtain ⟨m, hmx⟩ := hM w _ hg
  have hcnt : Lib.countB ⟨s.toArray⟩ ⟨[c].toArray⟩ = s.count c := by simpa [Lib.countB] using Lib.count_one c s
  have hsp : (Lib.splitB ⟨[c].toArray⟩ 0 (s.count c) ⟨s.toArray⟩).map (·.data.toList) = splitS c s := by
    rw [Lib.splitB_data]
    exact K6 c _ s rfl
  have hl := S7 c s
  have := Tryd.strings_Split ⟨s.toArray⟩ ⟨[c].toArray⟩ m w (by simp [ByteArray.size]; omega) hmx (by simp [ByteArray.size])
  refine this.mono fun e w' ⟨he, hw⟩ => ?_
  rw [hcnt] at he hw
  have hB : Below w.heap.size w w' := hw ▸ (Below.refl _ w).alloc (Nat.le_refl _) _
  have hcells : (Lib.splitB ⟨[c].toArray⟩ 0 (s.count c) ⟨s.toArray⟩).map Value.string = (splitS c s).map fun y => Value.string ⟨y.toArray⟩ := by
    rw [← hsp, List.map_map]
    rfl
  have hcl := List.count_le_length (a := c) (l := s)
  have hown : Rj w.heap.size w' (.slice (some ⟨w.heap.size, 0, none⟩) (s.count c + 1) (s.count c + 1)) 9 .str (splitS c s) := by
    unfold Rj
    rw [Ot, hl]
    refine ⟨by simp [hl, Kd.sz], .inr ⟨w.heap.size, s.count c + 1, ((splitS c s).map fun y => Value.string ⟨y.toArray⟩).toArray, rfl, Nat.le_refl _, ?_, Nat.le_refl _, by simp only [maxLen]; omega, ?_, ?_⟩⟩
    · rw [hw, hcells]; exact heap_alloc_new w _
    · simp [hl, Kd.sz]
    · simp [Kd.sz, hl]
      exact List.take_of_length_le (by simp [hl])
  refine ⟨Ws ρ 0 (.slice (some ⟨w.heap.size, 0, none⟩) (s.count c + 1) (s.count c + 1)), (fun n hn => nomatch hn), by rw [he]; simp [SV.den, S1.den, At.den, Xu], ?_⟩
  exact hm.addRow hB hown
end Go.Proofs.YtccjjcdjgibilaaDoor
namespace Go.Proofs.YtccjjcdjgibilaaDoor
open Go Go.RowKit Vc
set_option linter.unusedVariables false
set_option linter.unusedSimpArgs false
attribute [local irreducible] T Z2 Wd Ent RdC RwC Up Ye Xt
theorem H3 {s : List UInt8} {v : Nat} (h : Lib.decNat s = some v) : Lib.atoi s = some (v : Int) := by
  obtain ⟨hne, hd⟩ := Lib.decNat_some h
  cases s with
  | nil => exact absurd rfl hne
  | cons b r =>
    obtain ⟨d, hd0⟩ := Lib.digit_of_decFrom (b :: r) 0 v hd 0 b rfl
    have hb := Lib.digitVal_eq hd0
    have h45 : (b == 45) = false := by rw [beq_eq_false_iff_ne]; intro e; rw [e] at hb; simp at hb
    have h43 : (b == 43) = false := by rw [beq_eq_false_iff_ne]; intro e; rw [e] at hb; simp at hb
    unfold Lib.atoi
    simp only [h45, h43, Bool.false_eq_true, if_false, h, Option.map_some]
set_option maxHeartbeats 4000000 in
set_option maxRecDepth 100000 in
theorem S5 (G : Nat) (H : Nat → Option Obj) {s : List UInt8} {v : Nat} (h : Rc s = some v) (most : Int) :
    GCp G H Tryd.prog 64 [.a (.str s), .a (.int .i64 most)] [] 0 [] (.tup [.a (.int .i64 (v : Int)), .a (.bool (decide ((v : Int) ≤ most)))]) [] 0 := by
  have hlt := numV_lt h
  unfold Rc at h
  split at h
  · cases h
  rename_i hn
  simp only [not_or] at hn
  obtain ⟨h1, h2, h3⟩ := hn
  have hne : decide (s = []) = false := decide_eq_false h1
  have hT := O2 G H s P6 (by omega) (by decide) (by decide)
  have ht : Lib.trimS s P6 = [] := (Jr h1).2 ⟨v, h⟩
  rw [ht] at hT
  unfold P6 at hT
  have hA := H1 G H s (v : Int) (by omega) (H3 h)
  have h5 : ¬ (5 : Int) < s.length := by omega
  refine Wq.fn.gcp (by simp) (by simp [U4, Td, U8, W4, Wt, Vc.S1.okN, At.okN, SV.okN, Res.okN, Res.outOk, Zd, Res.own, Value.oneCell']) fun w X fr hglob => ?_
  by_cases h6 : 1 < s.length
  · have h7 : (1 : Int) < s.length := by omega
    have h8 : ¬ X7 s 0 = 48 := by
      intro e
      refine h3 ⟨h6, ?_⟩
      unfold X7 at e
      have : (s.getD 0 0).toNat = 48 := by omega
      exact UInt8.toNat_inj.1 this
    have h9 : ¬ X7 s (0 : Int).toNat = 48 := h8
    repeat' (first | ((first | (with_reducible first | refine T.regs ?_ | refine T.cond ?_ | refine T.reg ?_ | refine T.ret ?_ | refine T.exit ?_ | refine T.skip ?_) | ((with_reducible first | refine T.dregs ?_ ?_ | refine T.dreg ?_ ?_ | refine T.dregts ?_ ?_ | refine T.dregt ?_ ?_ | refine T.danys ?_ ?_ | refine T.dany ?_ ?_); exact mix) | ((with_reducible refine Z2.gcp hglob (hT) ?_ ?_); (focus ((simp [X3, Wl, Vc.mtR, Vc.roA, Vc.roM, Wk, Wm, Wh, Wj, Wf, Vc.fnM, Z5, St.find, Zd, Vc.del, Z3, Res.own, Vc.sg, Yh, Yd, Yg, Zp, Z9, Zr, At.sub, Vc.S1.sub, Res.sub, Kd.enc, Ins.cells, Ln.cells, Value.oneCell', X2, List.nodup_cons]); done))) | ((with_reducible refine Z2.gcp hglob (hA) ?_ ?_); (focus ((simp [X3, Wl, Vc.mtR, Vc.roA, Vc.roM, Wk, Wm, Wh, Wj, Wf, Vc.fnM, Z5, St.find, Zd, Vc.del, Z3, Res.own, Vc.sg, Yh, Yd, Yg, Zp, Z9, Zr, At.sub, Vc.S1.sub, Res.sub, Kd.enc, Ins.cells, Ln.cells, Value.oneCell', X2, List.nodup_cons]); done))) | (with_reducible refine Ye.split ?_ ?_) | (with_reducible refine Xt.no ?_)) <;> simp only [Yf, Zz, Z1, Vc.exK, Zm, Zj, Zg, Zh, Zx, Xn, Y1, Z0, Zl, Zi, Zy, Zk, Zn, Xk, Z7, Xj, Vc.ev, Vc.st, Vc.stq, Vc.gst, Xh, St.rd, St.get, St.put, St.find, Zd, St.new, Vc.gdc, Zs, Yr, Yo, Yq, Xg, Zv, Zt, Yj, Yi, Vc.S1.cells, Vc.upd, Vc.del, Zf, Vc.noV, Kd.enc, Kd.dec, Ins.cells, Ln.cells, Z5, Yc, Yn, Ya, Y0, Vc.rvs, Y6, Zc, Y4, Yx, Y3, Y5, Y9, Xa, Yk, Xe, Z8, Zw, Zb, Zu, Vc.kdL, Xm, Yz, Xf, Zq, SV.bd, Vc.S1.bd, At.bd, Value.oneCell', Int.reduceEq, Int.reduceNeg, Int.reduceLE, Int.reduceLT, Vc.lenOf, Yl, Xc, Z4, Vc.atK, Z6, Vc.unK, Vc.wfK, Yh, Yd, Yg, Zp, Yb, Z9, Zr, Ys, Vc.sg, Yw, Y2, Y7, Y8, Z3, Res.own, At.sub, Vc.S1.sub, SV.sub, Res.sub, Xi, Xo, Yt, Yp, Ym, Vc.frS, Kd.sz, Nat.reduceSub, ↓reduceIte, reduceCtorEq, Nat.reduceEqDiff, Nat.reduceAdd, Nat.reduceMul, Nat.reduceLeDiff, Nat.reduceLT, Nat.reduceBEq, Nat.reduceBNe, implies_true, Xp, Wq.rs, Wq.res, hne, h5, h7, h8, h1, Int.ofNat_lt]) | (with_reducible first | refine T.seq ?_ | refine T.block ?_ | assumption | refine And.intro ?_ ?_) | (intro h; first | (exfalso; omega) | exact (tf h ‹_›).elim | exact (tf ‹_› h).elim | skip))
    all_goals first | omega | (exfalso; exact h8 (by assumption)) | (exfalso; simp_all; done) | skip
  · have h7 : ¬ (1 : Int) < s.length := by omega
    repeat' (first | ((first | (with_reducible first | refine T.regs ?_ | refine T.cond ?_ | refine T.reg ?_ | refine T.ret ?_ | refine T.exit ?_ | refine T.skip ?_) | ((with_reducible first | refine T.dregs ?_ ?_ | refine T.dreg ?_ ?_ | refine T.dregts ?_ ?_ | refine T.dregt ?_ ?_ | refine T.danys ?_ ?_ | refine T.dany ?_ ?_); exact mix) | ((with_reducible refine Z2.gcp hglob (hT) ?_ ?_); (focus ((simp [X3, Wl, Vc.mtR, Vc.roA, Vc.roM, Wk, Wm, Wh, Wj, Wf, Vc.fnM, Z5, St.find, Zd, Vc.del, Z3, Res.own, Vc.sg, Yh, Yd, Yg, Zp, Z9, Zr, At.sub, Vc.S1.sub, Res.sub, Kd.enc, Ins.cells, Ln.cells, Value.oneCell', X2, List.nodup_cons]); done))) | ((with_reducible refine Z2.gcp hglob (hA) ?_ ?_); (focus ((simp [X3, Wl, Vc.mtR, Vc.roA, Vc.roM, Wk, Wm, Wh, Wj, Wf, Vc.fnM, Z5, St.find, Zd, Vc.del, Z3, Res.own, Vc.sg, Yh, Yd, Yg, Zp, Z9, Zr, At.sub, Vc.S1.sub, Res.sub, Kd.enc, Ins.cells, Ln.cells, Value.oneCell', X2, List.nodup_cons]); done))) | (with_reducible refine Ye.split ?_ ?_) | (with_reducible refine Xt.no ?_)) <;> simp only [Yf, Zz, Z1, Vc.exK, Zm, Zj, Zg, Zh, Zx, Xn, Y1, Z0, Zl, Zi, Zy, Zk, Zn, Xk, Z7, Xj, Vc.ev, Vc.st, Vc.stq, Vc.gst, Xh, St.rd, St.get, St.put, St.find, Zd, St.new, Vc.gdc, Zs, Yr, Yo, Yq, Xg, Zv, Zt, Yj, Yi, Vc.S1.cells, Vc.upd, Vc.del, Zf, Vc.noV, Kd.enc, Kd.dec, Ins.cells, Ln.cells, Z5, Yc, Yn, Ya, Y0, Vc.rvs, Y6, Zc, Y4, Yx, Y3, Y5, Y9, Xa, Yk, Xe, Z8, Zw, Zb, Zu, Vc.kdL, Xm, Yz, Xf, Zq, SV.bd, Vc.S1.bd, At.bd, Value.oneCell', Int.reduceEq, Int.reduceNeg, Int.reduceLE, Int.reduceLT, Vc.lenOf, Yl, Xc, Z4, Vc.atK, Z6, Vc.unK, Vc.wfK, Yh, Yd, Yg, Zp, Yb, Z9, Zr, Ys, Vc.sg, Yw, Y2, Y7, Y8, Z3, Res.own, At.sub, Vc.S1.sub, SV.sub, Res.sub, Xi, Xo, Yt, Yp, Ym, Vc.frS, Kd.sz, Nat.reduceSub, ↓reduceIte, reduceCtorEq, Nat.reduceEqDiff, Nat.reduceAdd, Nat.reduceMul, Nat.reduceLeDiff, Nat.reduceLT, Nat.reduceBEq, Nat.reduceBNe, implies_true, Xp, Wq.rs, Wq.res, hne, h5, h7, h1, Int.ofNat_lt]) | (with_reducible first | refine T.seq ?_ | refine T.block ?_ | assumption | refine And.intro ?_ ?_) | (intro h; first | (exfalso; omega) | exact (tf h ‹_›).elim | exact (tf ‹_› h).elim | skip))
    all_goals first | omega | skip
set_option maxHeartbeats 4000000 in
set_option maxRecDepth 100000 in
theorem N4 (G : Nat) (H : Nat → Option Obj) {s : List UInt8} (h : Rc s = none) (most : Int) (hs : s.length ≤ 9223372036854775807) :
    GCp G H Tryd.prog 64 [.a (.str s), .a (.int .i64 most)] [] 0 [] (.tup [.a (.int .i64 0), .a (.bool false)]) [] 0 := by
  refine Wq.fn.gcp (by simp) (by simp [U4, Td, U8, W4, Wt, Vc.S1.okN, At.okN, SV.okN, Res.okN, Res.outOk, Zd, Res.own, Value.oneCell']) fun w X fr hglob => ?_
  by_cases h1 : s = []
  · have hne : decide (s = []) = true := decide_eq_true h1
    repeat' (first | ((first | (with_reducible first | refine T.regs ?_ | refine T.cond ?_ | refine T.reg ?_ | refine T.ret ?_ | refine T.exit ?_ | refine T.skip ?_) | ((with_reducible first | refine T.dregs ?_ ?_ | refine T.dreg ?_ ?_ | refine T.dregts ?_ ?_ | refine T.dregt ?_ ?_ | refine T.danys ?_ ?_ | refine T.dany ?_ ?_); exact mix) | (with_reducible refine Ye.split ?_ ?_) | (with_reducible refine Xt.no ?_)) <;> simp only [Yf, Zz, Z1, Vc.exK, Zm, Zj, Zg, Zh, Zx, Xn, Y1, Z0, Zl, Zi, Zy, Zk, Zn, Xk, Z7, Xj, Vc.ev, Vc.st, Vc.stq, Vc.gst, Xh, St.rd, St.get, St.put, St.find, Zd, St.new, Vc.gdc, Zs, Yr, Yo, Yq, Xg, Zv, Zt, Yj, Yi, Vc.S1.cells, Vc.upd, Vc.del, Zf, Vc.noV, Kd.enc, Kd.dec, Ins.cells, Ln.cells, Z5, Yc, Yn, Ya, Y0, Vc.rvs, Y6, Zc, Y4, Yx, Y3, Y5, Y9, Xa, Yk, Xe, Z8, Zw, Zb, Zu, Vc.kdL, Xm, Yz, Xf, Zq, SV.bd, Vc.S1.bd, At.bd, Value.oneCell', Int.reduceEq, Int.reduceNeg, Int.reduceLE, Int.reduceLT, Vc.lenOf, Yl, Xc, Z4, Vc.atK, Z6, Vc.unK, Vc.wfK, Yh, Yd, Yg, Zp, Yb, Z9, Zr, Ys, Vc.sg, Yw, Y2, Y7, Y8, Z3, Res.own, At.sub, Vc.S1.sub, SV.sub, Res.sub, Xi, Xo, Yt, Yp, Ym, Vc.frS, Kd.sz, Nat.reduceSub, ↓reduceIte, reduceCtorEq, Nat.reduceEqDiff, Nat.reduceAdd, Nat.reduceMul, Nat.reduceLeDiff, Nat.reduceLT, Nat.reduceBEq, Nat.reduceBNe, implies_true, Xp, Wq.rs, Wq.res, hne, h1]) | (with_reducible first | refine T.seq ?_ | refine T.block ?_ | assumption | refine And.intro ?_ ?_) | (intro h; first | (exfalso; omega) | exact (tf h ‹_›).elim | exact (tf ‹_› h).elim | skip))
    all_goals first | omega | (exfalso; simp_all; done) | skip
  have hne : decide (s = []) = false := decide_eq_false h1
  by_cases h2 : 5 < s.length
  · have h5 : (5 : Int) < s.length := by omega
    repeat' (first | ((first | (with_reducible first | refine T.regs ?_ | refine T.cond ?_ | refine T.reg ?_ | refine T.ret ?_ | refine T.exit ?_ | refine T.skip ?_) | ((with_reducible first | refine T.dregs ?_ ?_ | refine T.dreg ?_ ?_ | refine T.dregts ?_ ?_ | refine T.dregt ?_ ?_ | refine T.danys ?_ ?_ | refine T.dany ?_ ?_); exact mix) | (with_reducible refine Ye.split ?_ ?_) | (with_reducible refine Xt.no ?_)) <;> simp only [Yf, Zz, Z1, Vc.exK, Zm, Zj, Zg, Zh, Zx, Xn, Y1, Z0, Zl, Zi, Zy, Zk, Zn, Xk, Z7, Xj, Vc.ev, Vc.st, Vc.stq, Vc.gst, Xh, St.rd, St.get, St.put, St.find, Zd, St.new, Vc.gdc, Zs, Yr, Yo, Yq, Xg, Zv, Zt, Yj, Yi, Vc.S1.cells, Vc.upd, Vc.del, Zf, Vc.noV, Kd.enc, Kd.dec, Ins.cells, Ln.cells, Z5, Yc, Yn, Ya, Y0, Vc.rvs, Y6, Zc, Y4, Yx, Y3, Y5, Y9, Xa, Yk, Xe, Z8, Zw, Zb, Zu, Vc.kdL, Xm, Yz, Xf, Zq, SV.bd, Vc.S1.bd, At.bd, Value.oneCell', Int.reduceEq, Int.reduceNeg, Int.reduceLE, Int.reduceLT, Vc.lenOf, Yl, Xc, Z4, Vc.atK, Z6, Vc.unK, Vc.wfK, Yh, Yd, Yg, Zp, Yb, Z9, Zr, Ys, Vc.sg, Yw, Y2, Y7, Y8, Z3, Res.own, At.sub, Vc.S1.sub, SV.sub, Res.sub, Xi, Xo, Yt, Yp, Ym, Vc.frS, Kd.sz, Nat.reduceSub, ↓reduceIte, reduceCtorEq, Nat.reduceEqDiff, Nat.reduceAdd, Nat.reduceMul, Nat.reduceLeDiff, Nat.reduceLT, Nat.reduceBEq, Nat.reduceBNe, implies_true, Xp, Wq.rs, Wq.res, hne, h5, h1, Int.ofNat_lt]) | (with_reducible first | refine T.seq ?_ | refine T.block ?_ | assumption | refine And.intro ?_ ?_) | (intro h; first | (exfalso; omega) | exact (tf h ‹_›).elim | exact (tf ‹_› h).elim | skip))
    all_goals first | omega | (exfalso; simp_all; done) | skip
  have h5 : ¬ (5 : Int) < s.length := by omega
  have hT := O2 G H s P6 hs (by decide) (by decide)
  have hda := Jr h1
  generalize Lib.trimS s P6 = t at hT hda
  unfold P6 at hT
  by_cases ht : t = []
  · subst ht
    obtain ⟨v, hv⟩ := hda.1 rfl
    have h3 : 1 < s.length ∧ s.getD 0 0 = 48 := by
      unfold Rc at h
      split at h
      · rename_i hn
        rcases hn with hn | hn | hn
        · exact absurd hn h1
        · exact absurd hn h2
        · exact hn
      · rw [hv] at h; cases h
    have h7 : (1 : Int) < s.length := by omega
    have h8 : X7 s 0 = 48 := by unfold X7; rw [h3.2]; rfl
    have h9 : X7 s (0 : Int).toNat = 48 := h8
    repeat' (first | ((first | (with_reducible first | refine T.regs ?_ | refine T.cond ?_ | refine T.reg ?_ | refine T.ret ?_ | refine T.exit ?_ | refine T.skip ?_) | ((with_reducible first | refine T.dregs ?_ ?_ | refine T.dreg ?_ ?_ | refine T.dregts ?_ ?_ | refine T.dregt ?_ ?_ | refine T.danys ?_ ?_ | refine T.dany ?_ ?_); exact mix) | ((with_reducible refine Z2.gcp hglob (hT) ?_ ?_); (focus ((simp [X3, Wl, Vc.mtR, Vc.roA, Vc.roM, Wk, Wm, Wh, Wj, Wf, Vc.fnM, Z5, St.find, Zd, Vc.del, Z3, Res.own, Vc.sg, Yh, Yd, Yg, Zp, Z9, Zr, At.sub, Vc.S1.sub, Res.sub, Kd.enc, Ins.cells, Ln.cells, Value.oneCell', X2, List.nodup_cons]); done))) | (with_reducible refine Ye.split ?_ ?_) | (with_reducible refine Xt.no ?_)) <;> simp only [Yf, Zz, Z1, Vc.exK, Zm, Zj, Zg, Zh, Zx, Xn, Y1, Z0, Zl, Zi, Zy, Zk, Zn, Xk, Z7, Xj, Vc.ev, Vc.st, Vc.stq, Vc.gst, Xh, St.rd, St.get, St.put, St.find, Zd, St.new, Vc.gdc, Zs, Yr, Yo, Yq, Xg, Zv, Zt, Yj, Yi, Vc.S1.cells, Vc.upd, Vc.del, Zf, Vc.noV, Kd.enc, Kd.dec, Ins.cells, Ln.cells, Z5, Yc, Yn, Ya, Y0, Vc.rvs, Y6, Zc, Y4, Yx, Y3, Y5, Y9, Xa, Yk, Xe, Z8, Zw, Zb, Zu, Vc.kdL, Xm, Yz, Xf, Zq, SV.bd, Vc.S1.bd, At.bd, Value.oneCell', Int.reduceEq, Int.reduceNeg, Int.reduceLE, Int.reduceLT, Vc.lenOf, Yl, Xc, Z4, Vc.atK, Z6, Vc.unK, Vc.wfK, Yh, Yd, Yg, Zp, Yb, Z9, Zr, Ys, Vc.sg, Yw, Y2, Y7, Y8, Z3, Res.own, At.sub, Vc.S1.sub, SV.sub, Res.sub, Xi, Xo, Yt, Yp, Ym, Vc.frS, Kd.sz, Nat.reduceSub, ↓reduceIte, reduceCtorEq, Nat.reduceEqDiff, Nat.reduceAdd, Nat.reduceMul, Nat.reduceLeDiff, Nat.reduceLT, Nat.reduceBEq, Nat.reduceBNe, implies_true, Xp, Wq.rs, Wq.res, hne, h5, h7, h9, h1, Int.ofNat_lt]) | (with_reducible first | refine T.seq ?_ | refine T.block ?_ | assumption | refine And.intro ?_ ?_) | (intro h; first | (exfalso; omega) | exact (tf h ‹_›).elim | exact (tf ‹_› h).elim | skip))
    all_goals first | omega | (exfalso; simp_all; done) | skip
  · have ht2 : decide (t = []) = false := decide_eq_false ht
    repeat' (first | ((first | (with_reducible first | refine T.regs ?_ | refine T.cond ?_ | refine T.reg ?_ | refine T.ret ?_ | refine T.exit ?_ | refine T.skip ?_) | ((with_reducible first | refine T.dregs ?_ ?_ | refine T.dreg ?_ ?_ | refine T.dregts ?_ ?_ | refine T.dregt ?_ ?_ | refine T.danys ?_ ?_ | refine T.dany ?_ ?_); exact mix) | ((with_reducible refine Z2.gcp hglob (hT) ?_ ?_); (focus ((simp [X3, Wl, Vc.mtR, Vc.roA, Vc.roM, Wk, Wm, Wh, Wj, Wf, Vc.fnM, Z5, St.find, Zd, Vc.del, Z3, Res.own, Vc.sg, Yh, Yd, Yg, Zp, Z9, Zr, At.sub, Vc.S1.sub, Res.sub, Kd.enc, Ins.cells, Ln.cells, Value.oneCell', X2, List.nodup_cons]); done))) | (with_reducible refine Ye.split ?_ ?_) | (with_reducible refine Xt.no ?_)) <;> simp only [Yf, Zz, Z1, Vc.exK, Zm, Zj, Zg, Zh, Zx, Xn, Y1, Z0, Zl, Zi, Zy, Zk, Zn, Xk, Z7, Xj, Vc.ev, Vc.st, Vc.stq, Vc.gst, Xh, St.rd, St.get, St.put, St.find, Zd, St.new, Vc.gdc, Zs, Yr, Yo, Yq, Xg, Zv, Zt, Yj, Yi, Vc.S1.cells, Vc.upd, Vc.del, Zf, Vc.noV, Kd.enc, Kd.dec, Ins.cells, Ln.cells, Z5, Yc, Yn, Ya, Y0, Vc.rvs, Y6, Zc, Y4, Yx, Y3, Y5, Y9, Xa, Yk, Xe, Z8, Zw, Zb, Zu, Vc.kdL, Xm, Yz, Xf, Zq, SV.bd, Vc.S1.bd, At.bd, Value.oneCell', Int.reduceEq, Int.reduceNeg, Int.reduceLE, Int.reduceLT, Vc.lenOf, Yl, Xc, Z4, Vc.atK, Z6, Vc.unK, Vc.wfK, Yh, Yd, Yg, Zp, Yb, Z9, Zr, Ys, Vc.sg, Yw, Y2, Y7, Y8, Z3, Res.own, At.sub, Vc.S1.sub, SV.sub, Res.sub, Xi, Xo, Yt, Yp, Ym, Vc.frS, Kd.sz, Nat.reduceSub, ↓reduceIte, reduceCtorEq, Nat.reduceEqDiff, Nat.reduceAdd, Nat.reduceMul, Nat.reduceLeDiff, Nat.reduceLT, Nat.reduceBEq, Nat.reduceBNe, implies_true, Xp, Wq.rs, Wq.res, hne, h5, ht, ht2, h1, Int.ofNat_lt]) | (with_reducible first | refine T.seq ?_ | refine T.block ?_ | assumption | refine And.intro ?_ ?_) | (intro h; first | (exfalso; omega) | exact (tf h ‹_›).elim | exact (tf ‹_› h).elim | skip))
    all_goals first | omega | (exfalso; simp_all; done) | skip
theorem Sy (t : List UInt8) : Lib.hasPrefix (114 :: t) [114] = true ∧ Lib.trimPrefix (114 :: t) [114] = t := by
  have h : Lib.hasPrefix (114 :: t) [114] = true := by simp [Lib.hasPrefix]
  exact ⟨h, by simp [Lib.trimPrefix, h]⟩
theorem I0 {s : List UInt8} (h : ∀ t, s ≠ 114 :: t) : Lib.hasPrefix s [114] = false := by
  cases s with
  | nil => rfl
  | cons b t =>
    have : b ≠ 114 := fun e => h t (by rw [e])
    simp only [Lib.hasPrefix, List.isPrefixOf, Bool.and_eq_false_iff, beq_eq_false_iff_ne]
    exact .inl fun e => this e.symm
set_option maxHeartbeats 4000000 in
set_option maxRecDepth 100000 in
theorem Qz (G : Nat) (H : Nat → Option Obj) {s : List UInt8} {n : Nat} (h : Se s = some n) :
    GCp G H Tryd.prog 63 [.a (.str s)] [] 0 [] (.tup [.a (.int .i64 (n : Int)), .a (.bool true)]) [] 0 := by
  obtain ⟨t, rfl, hn⟩ : ∃ t, s = 114 :: t ∧ numS t 7 = some n := by
    cases s with
    | nil => cases h
    | cons b t =>
      have e : Se (b :: t) = if b = 114 then numS t 7 else none := rfl
      rw [e] at h
      by_cases hb : b = 114
      · rw [if_pos hb] at h; exact ⟨t, by rw [hb], h⟩
      · rw [if_neg hb] at h; cases h
  obtain ⟨hv, h7⟩ : Rc t = some n ∧ n ≤ 7 := by
    unfold numS at hn
    split at hn
    · rename_i v hv
      split at hn
      · cases hn; exact ⟨hv, by assumption⟩
      · cases hn
    · cases hn
  have hP := Sc G H (114 :: t) [114]
  rw [(Sy t).1, (Sy t).2] at hP
  have hN := S5 G H hv 7
  rw [decide_eq_true (by omega)] at hN
  refine Wi.fn.gcp (by simp) (by simp [U4, Td, U8, W4, Wt, Vc.S1.okN, At.okN, SV.okN, Res.okN, Res.outOk, Zd, Res.own, Value.oneCell']) fun w X fr hglob => ?_
  repeat' (first | ((first | (with_reducible first | refine T.regs ?_ | refine T.cond ?_ | refine T.reg ?_ | refine T.ret ?_ | refine T.exit ?_ | refine T.skip ?_) | ((with_reducible first | refine T.dregs ?_ ?_ | refine T.dreg ?_ ?_ | refine T.dregts ?_ ?_ | refine T.dregt ?_ ?_ | refine T.danys ?_ ?_ | refine T.dany ?_ ?_); exact mix) | ((with_reducible refine Z2.gcp hglob (hP) ?_ ?_); (focus ((simp [X3, Wl, Vc.mtR, Vc.roA, Vc.roM, Wk, Wm, Wh, Wj, Wf, Vc.fnM, Z5, St.find, Zd, Vc.del, Z3, Res.own, Vc.sg, Yh, Yd, Yg, Zp, Z9, Zr, At.sub, Vc.S1.sub, Res.sub, Kd.enc, Ins.cells, Ln.cells, Value.oneCell', X2, List.nodup_cons]); done))) | ((with_reducible refine Z2.gcp hglob (hN) ?_ ?_); (focus ((simp [X3, Wl, Vc.mtR, Vc.roA, Vc.roM, Wk, Wm, Wh, Wj, Wf, Vc.fnM, Z5, St.find, Zd, Vc.del, Z3, Res.own, Vc.sg, Yh, Yd, Yg, Zp, Z9, Zr, At.sub, Vc.S1.sub, Res.sub, Kd.enc, Ins.cells, Ln.cells, Value.oneCell', X2, List.nodup_cons]); done)))); simp only [Yf, Zz, Z1, Vc.exK, Zm, Zj, Zg, Zh, Zx, Xn, Y1, Z0, Zl, Zi, Zy, Zk, Zn, Xk, Z7, Xj, Vc.ev, Vc.st, Vc.stq, Vc.gst, Xh, St.rd, St.get, St.put, St.find, Zd, St.new, Vc.gdc, Zs, Yr, Yo, Yq, Xg, Zv, Zt, Yj, Yi, Vc.S1.cells, Vc.upd, Vc.del, Zf, Vc.noV, Kd.enc, Kd.dec, Ins.cells, Ln.cells, Z5, Yc, Yn, Ya, Y0, Vc.rvs, Y6, Zc, Y4, Yx, Y3, Y5, Y9, Xa, Yk, Xe, Z8, Zw, Zb, Zu, Vc.kdL, Xm, Yz, Xf, Zq, SV.bd, Vc.S1.bd, At.bd, Value.oneCell', Int.reduceEq, Int.reduceNeg, Int.reduceLE, Int.reduceLT, Vc.lenOf, Yl, Xc, Z4, Vc.atK, Z6, Vc.unK, Vc.wfK, Yh, Yd, Yg, Zp, Yb, Z9, Zr, Ys, Vc.sg, Yw, Y2, Y7, Y8, Z3, Res.own, At.sub, Vc.S1.sub, SV.sub, Res.sub, Xi, Xo, Yt, Yp, Ym, Vc.frS, Kd.sz, Nat.reduceSub, ↓reduceIte, reduceCtorEq, Nat.reduceEqDiff, Nat.reduceAdd, Nat.reduceMul, Nat.reduceLeDiff, Nat.reduceLT, Nat.reduceBEq, Nat.reduceBNe, implies_true, Xp, Wi.rs, Wi.res]) | (with_reducible first | refine T.seq ?_ | refine T.block ?_ | assumption | refine And.intro ?_ ?_) | (intro h; first | (exfalso; omega) | exact (tf h ‹_›).elim | exact (tf ‹_› h).elim | skip))
  all_goals first | omega | skip
set_option maxHeartbeats 4000000 in
set_option maxRecDepth 100000 in
theorem Pq (G : Nat) (H : Nat → Option Obj) {s : List UInt8} (h : Se s = none) (hs : s.length ≤ 9223372036854775807) :
    ∃ m : Int, GCp G H Tryd.prog 63 [.a (.str s)] [] 0 [] (.tup [.a (.int .i64 m), .a (.bool false)]) [] 0 := by
  by_cases hp : ∃ t, s = 114 :: t
  · obtain ⟨t, rfl⟩ := hp
    have hP := Sc G H (114 :: t) [114]
    rw [(Sy t).1, (Sy t).2] at hP
    simp only [Se, if_true, numS] at h
    cases hv : Rc t with
    | none =>
      have hN := N4 G H hv 7 (by simp only [List.length_cons] at hs; omega)
      refine ⟨0, Wi.fn.gcp (by simp) (by simp [U4, Td, U8, W4, Wt, Vc.S1.okN, At.okN, SV.okN, Res.okN, Res.outOk, Zd, Res.own, Value.oneCell']) fun w X fr hglob => ?_⟩
      repeat' (first | ((first | (with_reducible first | refine T.regs ?_ | refine T.cond ?_ | refine T.reg ?_ | refine T.ret ?_ | refine T.exit ?_ | refine T.skip ?_) | ((with_reducible first | refine T.dregs ?_ ?_ | refine T.dreg ?_ ?_ | refine T.dregts ?_ ?_ | refine T.dregt ?_ ?_ | refine T.danys ?_ ?_ | refine T.dany ?_ ?_); exact mix) | ((with_reducible refine Z2.gcp hglob (hP) ?_ ?_); (focus ((simp [X3, Wl, Vc.mtR, Vc.roA, Vc.roM, Wk, Wm, Wh, Wj, Wf, Vc.fnM, Z5, St.find, Zd, Vc.del, Z3, Res.own, Vc.sg, Yh, Yd, Yg, Zp, Z9, Zr, At.sub, Vc.S1.sub, Res.sub, Kd.enc, Ins.cells, Ln.cells, Value.oneCell', X2, List.nodup_cons]); done))) | ((with_reducible refine Z2.gcp hglob (hN) ?_ ?_); (focus ((simp [X3, Wl, Vc.mtR, Vc.roA, Vc.roM, Wk, Wm, Wh, Wj, Wf, Vc.fnM, Z5, St.find, Zd, Vc.del, Z3, Res.own, Vc.sg, Yh, Yd, Yg, Zp, Z9, Zr, At.sub, Vc.S1.sub, Res.sub, Kd.enc, Ins.cells, Ln.cells, Value.oneCell', X2, List.nodup_cons]); done)))); simp only [Yf, Zz, Z1, Vc.exK, Zm, Zj, Zg, Zh, Zx, Xn, Y1, Z0, Zl, Zi, Zy, Zk, Zn, Xk, Z7, Xj, Vc.ev, Vc.st, Vc.stq, Vc.gst, Xh, St.rd, St.get, St.put, St.find, Zd, St.new, Vc.gdc, Zs, Yr, Yo, Yq, Xg, Zv, Zt, Yj, Yi, Vc.S1.cells, Vc.upd, Vc.del, Zf, Vc.noV, Kd.enc, Kd.dec, Ins.cells, Ln.cells, Z5, Yc, Yn, Ya, Y0, Vc.rvs, Y6, Zc, Y4, Yx, Y3, Y5, Y9, Xa, Yk, Xe, Z8, Zw, Zb, Zu, Vc.kdL, Xm, Yz, Xf, Zq, SV.bd, Vc.S1.bd, At.bd, Value.oneCell', Int.reduceEq, Int.reduceNeg, Int.reduceLE, Int.reduceLT, Vc.lenOf, Yl, Xc, Z4, Vc.atK, Z6, Vc.unK, Vc.wfK, Yh, Yd, Yg, Zp, Yb, Z9, Zr, Ys, Vc.sg, Yw, Y2, Y7, Y8, Z3, Res.own, At.sub, Vc.S1.sub, SV.sub, Res.sub, Xi, Xo, Yt, Yp, Ym, Vc.frS, Kd.sz, Nat.reduceSub, ↓reduceIte, reduceCtorEq, Nat.reduceEqDiff, Nat.reduceAdd, Nat.reduceMul, Nat.reduceLeDiff, Nat.reduceLT, Nat.reduceBEq, Nat.reduceBNe, implies_true, Xp, Wi.rs, Wi.res]) | (with_reducible first | refine T.seq ?_ | refine T.block ?_ | assumption | refine And.intro ?_ ?_) | (intro h; first | (exfalso; omega) | exact (tf h ‹_›).elim | exact (tf ‹_› h).elim | skip))
      all_goals first | omega | skip
    | some v =>
      rw [hv] at h
      have h7 : ¬ v ≤ 7 := by
        intro e
        simp [e] at h
      have hN := S5 G H hv 7
      rw [decide_eq_false (by omega)] at hN
      refine ⟨v, Wi.fn.gcp (by simp) (by simp [U4, Td, U8, W4, Wt, Vc.S1.okN, At.okN, SV.okN, Res.okN, Res.outOk, Zd, Res.own, Value.oneCell']) fun w X fr hglob => ?_⟩
      repeat' (first | ((first | (with_reducible first | refine T.regs ?_ | refine T.cond ?_ | refine T.reg ?_ | refine T.ret ?_ | refine T.exit ?_ | refine T.skip ?_) | ((with_reducible first | refine T.dregs ?_ ?_ | refine T.dreg ?_ ?_ | refine T.dregts ?_ ?_ | refine T.dregt ?_ ?_ | refine T.danys ?_ ?_ | refine T.dany ?_ ?_); exact mix) | ((with_reducible refine Z2.gcp hglob (hP) ?_ ?_); (focus ((simp [X3, Wl, Vc.mtR, Vc.roA, Vc.roM, Wk, Wm, Wh, Wj, Wf, Vc.fnM, Z5, St.find, Zd, Vc.del, Z3, Res.own, Vc.sg, Yh, Yd, Yg, Zp, Z9, Zr, At.sub, Vc.S1.sub, Res.sub, Kd.enc, Ins.cells, Ln.cells, Value.oneCell', X2, List.nodup_cons]); done))) | ((with_reducible refine Z2.gcp hglob (hN) ?_ ?_); (focus ((simp [X3, Wl, Vc.mtR, Vc.roA, Vc.roM, Wk, Wm, Wh, Wj, Wf, Vc.fnM, Z5, St.find, Zd, Vc.del, Z3, Res.own, Vc.sg, Yh, Yd, Yg, Zp, Z9, Zr, At.sub, Vc.S1.sub, Res.sub, Kd.enc, Ins.cells, Ln.cells, Value.oneCell', X2, List.nodup_cons]); done)))); simp only [Yf, Zz, Z1, Vc.exK, Zm, Zj, Zg, Zh, Zx, Xn, Y1, Z0, Zl, Zi, Zy, Zk, Zn, Xk, Z7, Xj, Vc.ev, Vc.st, Vc.stq, Vc.gst, Xh, St.rd, St.get, St.put, St.find, Zd, St.new, Vc.gdc, Zs, Yr, Yo, Yq, Xg, Zv, Zt, Yj, Yi, Vc.S1.cells, Vc.upd, Vc.del, Zf, Vc.noV, Kd.enc, Kd.dec, Ins.cells, Ln.cells, Z5, Yc, Yn, Ya, Y0, Vc.rvs, Y6, Zc, Y4, Yx, Y3, Y5, Y9, Xa, Yk, Xe, Z8, Zw, Zb, Zu, Vc.kdL, Xm, Yz, Xf, Zq, SV.bd, Vc.S1.bd, At.bd, Value.oneCell', Int.reduceEq, Int.reduceNeg, Int.reduceLE, Int.reduceLT, Vc.lenOf, Yl, Xc, Z4, Vc.atK, Z6, Vc.unK, Vc.wfK, Yh, Yd, Yg, Zp, Yb, Z9, Zr, Ys, Vc.sg, Yw, Y2, Y7, Y8, Z3, Res.own, At.sub, Vc.S1.sub, SV.sub, Res.sub, Xi, Xo, Yt, Yp, Ym, Vc.frS, Kd.sz, Nat.reduceSub, ↓reduceIte, reduceCtorEq, Nat.reduceEqDiff, Nat.reduceAdd, Nat.reduceMul, Nat.reduceLeDiff, Nat.reduceLT, Nat.reduceBEq, Nat.reduceBNe, implies_true, Xp, Wi.rs, Wi.res]) | (with_reducible first | refine T.seq ?_ | refine T.block ?_ | assumption | refine And.intro ?_ ?_) | (intro h; first | (exfalso; omega) | exact (tf h ‹_›).elim | exact (tf ‹_› h).elim | skip))
      all_goals first | omega | skip
  · have hP := Sc G H s [114]
    rw [I0 (fun t e => hp ⟨t, e⟩)] at hP
    generalize Lib.trimPrefix s [114] = t at hP
    refine ⟨0, Wi.fn.gcp (by simp) (by simp [U4, Td, U8, W4, Wt, Vc.S1.okN, At.okN, SV.okN, Res.okN, Res.outOk, Zd, Res.own, Value.oneCell']) fun w X fr hglob => ?_⟩
    repeat' (first | ((first | (with_reducible first | refine T.regs ?_ | refine T.cond ?_ | refine T.reg ?_ | refine T.ret ?_ | refine T.exit ?_ | refine T.skip ?_) | ((with_reducible first | refine T.dregs ?_ ?_ | refine T.dreg ?_ ?_ | refine T.dregts ?_ ?_ | refine T.dregt ?_ ?_ | refine T.danys ?_ ?_ | refine T.dany ?_ ?_); exact mix) | ((with_reducible refine Z2.gcp hglob (hP) ?_ ?_); (focus ((simp [X3, Wl, Vc.mtR, Vc.roA, Vc.roM, Wk, Wm, Wh, Wj, Wf, Vc.fnM, Z5, St.find, Zd, Vc.del, Z3, Res.own, Vc.sg, Yh, Yd, Yg, Zp, Z9, Zr, At.sub, Vc.S1.sub, Res.sub, Kd.enc, Ins.cells, Ln.cells, Value.oneCell', X2, List.nodup_cons]); done)))); simp only [Yf, Zz, Z1, Vc.exK, Zm, Zj, Zg, Zh, Zx, Xn, Y1, Z0, Zl, Zi, Zy, Zk, Zn, Xk, Z7, Xj, Vc.ev, Vc.st, Vc.stq, Vc.gst, Xh, St.rd, St.get, St.put, St.find, Zd, St.new, Vc.gdc, Zs, Yr, Yo, Yq, Xg, Zv, Zt, Yj, Yi, Vc.S1.cells, Vc.upd, Vc.del, Zf, Vc.noV, Kd.enc, Kd.dec, Ins.cells, Ln.cells, Z5, Yc, Yn, Ya, Y0, Vc.rvs, Y6, Zc, Y4, Yx, Y3, Y5, Y9, Xa, Yk, Xe, Z8, Zw, Zb, Zu, Vc.kdL, Xm, Yz, Xf, Zq, SV.bd, Vc.S1.bd, At.bd, Value.oneCell', Int.reduceEq, Int.reduceNeg, Int.reduceLE, Int.reduceLT, Vc.lenOf, Yl, Xc, Z4, Vc.atK, Z6, Vc.unK, Vc.wfK, Yh, Yd, Yg, Zp, Yb, Z9, Zr, Ys, Vc.sg, Yw, Y2, Y7, Y8, Z3, Res.own, At.sub, Vc.S1.sub, SV.sub, Res.sub, Xi, Xo, Yt, Yp, Ym, Vc.frS, Kd.sz, Nat.reduceSub, ↓reduceIte, reduceCtorEq, Nat.reduceEqDiff, Nat.reduceAdd, Nat.reduceMul, Nat.reduceLeDiff, Nat.reduceLT, Nat.reduceBEq, Nat.reduceBNe, implies_true, Xp, Wi.rs, Wi.res]) | (with_reducible first | refine T.seq ?_ | refine T.block ?_ | assumption | refine And.intro ?_ ?_) | (intro h; first | (exfalso; omega) | exact (tf h ‹_›).elim | exact (tf ‹_› h).elim | skip))
    all_goals first | omega | skip
end Go.Proofs.YtccjjcdjgibilaaDoor
namespace Go.Proofs.YtccjjcdjgibilaaDoor
open Go Go.RowKit Vc
set_option linter.unusedVariables false
set_option linter.unusedSimpArgs false
attribute [local irreducible] T Z2 Wd Ent RdC RwC Up Ye Xt
theorem Nc {s : List UInt8} {i : Nat} (h : i < s.length) {c : UInt8} (e : X7 s i = ((c.toNat : Nat) : Int)) : s[i]? = some c := by
  unfold X7 at e
  rw [List.getD_eq_getElem?_getD, List.getElem?_eq_getElem h] at e
  simp only [Option.getD_some] at e
  rw [List.getElem?_eq_getElem h]
  congr 1
  exact UInt8.toNat_inj.1 (by omega)
theorem J7 {s : List UInt8} {i : Nat} (h : i < s.length) {c : UInt8} (e : ¬ X7 s i = ((c.toNat : Nat) : Int)) (hn : c ∉ s.take i) : c ∉ s.take (i + 1) := by
  rw [List.take_add_one, List.getElem?_eq_getElem h]
  simp only [Option.toList_some, List.mem_append, List.mem_singleton, not_or]
  refine ⟨hn, fun e2 => e ?_⟩
  unfold X7
  rw [List.getD_eq_getElem?_getD, List.getElem?_eq_getElem h, e2]
  rfl
set_option maxHeartbeats 4000000 in
theorem Rk (s : List UInt8) (c : UInt8) (hs : s.length ≤ 9223372036854775806) :
    RdC Tryd.prog 65 [.v (.a (.str s)), .v (.a (.int .u8 ((c.toNat : Nat) : Int)))] (.tup [.a (.str (upToS c s).1), .a (.str (upToS c s).2.1), .a (.bool (upToS c s).2.2)]) := by
  refine Wa.fn.rd (by simp) (by repeat' (first | exact rfl | exact trivial | refine And.intro ?_ ?_ | (simp [SV.bd, Vc.S1.bd, At.bd, Zq, Yv, Ins.cells, Ln.cells]; done))) (by repeat' (first | exact rfl | exact trivial | refine And.intro ?_ ?_ | (simp [SV.bd, Vc.S1.bd, At.bd, Zq, Yv, Ins.cells, Ln.cells]; done))) fun w => ?_
  generalize hU : upToS c s = U
  repeat' (first | ((first | (with_reducible first | refine T.regs ?_ | refine T.cond ?_ | refine T.reg ?_ | refine T.ret ?_ | refine T.exit ?_ | refine T.skip ?_) | ((with_reducible first | refine T.dregs ?_ ?_ | refine T.dreg ?_ ?_ | refine T.dregts ?_ ?_ | refine T.dregt ?_ ?_ | refine T.danys ?_ ?_ | refine T.dany ?_ ?_); exact mix)); simp only [Yf, Zz, Z1, Vc.exK, Zm, Zj, Zg, Zh, Zx, Xn, Y1, Z0, Zl, Zi, Zy, Zk, Zn, Xk, Z7, Xj, Vc.ev, Vc.st, Vc.stq, Vc.gst, Xh, St.rd, St.get, St.put, St.find, Zd, St.new, Vc.gdc, Zs, Yr, Yo, Yq, Xg, Zv, Zt, Yj, Yi, Vc.S1.cells, Vc.upd, Vc.del, Zf, Vc.noV, Kd.enc, Kd.dec, Ins.cells, Ln.cells, Z5, Yc, Yn, Ya, Y0, Vc.rvs, Y6, Zc, Y4, Yx, Y3, Y5, Y9, Xa, Yk, Xe, Z8, Zw, Zb, Zu, Vc.kdL, Xm, Yz, Xf, Zq, SV.bd, Vc.S1.bd, At.bd, Value.oneCell', Int.reduceEq, Int.reduceNeg, Int.reduceLE, Int.reduceLT, Vc.lenOf, Yl, Xc, Z4, Vc.atK, Z6, Vc.unK, Vc.wfK, Yh, Yd, Yg, Zp, Yb, Z9, Zr, Ys, Vc.sg, Yw, Y2, Y7, Y8, Z3, Res.own, At.sub, Vc.S1.sub, SV.sub, Res.sub, Xi, Xo, Yt, Yp, Ym, Vc.frS, Kd.sz, Nat.reduceSub, ↓reduceIte, reduceCtorEq, Nat.reduceEqDiff, Nat.reduceAdd, Nat.reduceMul, Nat.reduceLeDiff, Nat.reduceLT, Nat.reduceBEq, Nat.reduceBNe, implies_true, Xp, Wa.rs, Wa.res]) | (with_reducible first | refine T.seq ?_ | refine T.block ?_ | assumption | refine And.intro ?_ ?_) | (intro h; first | (exfalso; omega) | exact (tf h ‹_›).elim | exact (tf ‹_› h).elim | skip))
  all_goals first | omega | skip
  refine T.loop (ι := { i : Nat // i ≤ s.length ∧ c ∉ s.take i })
    (fun x => ⟨[(7, .one (.a (.int .i64 (x.1 : Int)))), (0, .one (.a (.str s))), (1, .one (.a (.int .u8 ((c.toNat : Nat) : Int))))], [], 0⟩) (fun x => s.length - x.1) ⟨0, by simp, by simp⟩ (Ent.mk (id) (by simp [Za, Ze, Vc.bnd, St.get, St.find, Zd, SV.ren, Vc.S1.ren, At.ren, Res.ren, SV.bd, Vc.S1.bd, At.bd, Res.bd, Vc.upd, Vc.del, Kd.enc, Value.oneCell']) (by simp [Za, Ze, Vc.bnd, St.get, St.find, Zd, SV.ren, Vc.S1.ren, At.ren, Res.ren, SV.bd, Vc.S1.bd, At.bd, Res.bd, Vc.upd, Vc.del, Kd.enc, Value.oneCell']) (by simp [Za, Ze, Vc.bnd, St.get, St.find, Zd, SV.ren, Vc.S1.ren, At.ren, Res.ren, SV.bd, Vc.S1.bd, At.bd, Res.bd, Vc.upd, Vc.del, Kd.enc, Value.oneCell']) (by simp [Za, Ze, Vc.bnd, St.get, St.find, Zd, SV.ren, Vc.S1.ren, At.ren, Res.ren, SV.bd, Vc.S1.bd, At.bd, Res.bd, Vc.upd, Vc.del, Kd.enc, Value.oneCell'])) ?_
  rintro ⟨i, hi, hn⟩
  have hw : IntKind.i64.wrap ((i : Int) + 1) = ((i + 1 : Nat) : Int) := We (by omega)
  have ht : ((i : Int)).toNat = i := by omega
  by_cases hlt : i < s.length
  · by_cases hb : X7 s i = ((c.toNat : Nat) : Int)
    · have hU2 := L2 hn (Nc hlt hb)
      rw [hU] at hU2
      subst hU2
      have hz : (0 : Int).toNat = 0 := rfl
      have hsl : ((s.length : Int)).toNat = s.length := by omega
      have hi1 : (((i + 1 : Nat) : Int)).toNat = i + 1 := by omega
      repeat' (first | ((first | (with_reducible first | refine T.regs ?_ | refine T.cond ?_ | refine T.reg ?_ | refine T.ret ?_ | refine T.exit ?_ | refine T.skip ?_) | ((with_reducible first | refine T.dregs ?_ ?_ | refine T.dreg ?_ ?_ | refine T.dregts ?_ ?_ | refine T.dregt ?_ ?_ | refine T.danys ?_ ?_ | refine T.dany ?_ ?_); exact mix)); simp only [Yf, Zz, Z1, Vc.exK, Zm, Zj, Zg, Zh, Zx, Xn, Y1, Z0, Zl, Zi, Zy, Zk, Zn, Xk, Z7, Xj, Vc.ev, Vc.st, Vc.stq, Vc.gst, Xh, St.rd, St.get, St.put, St.find, Zd, St.new, Vc.gdc, Zs, Yr, Yo, Yq, Xg, Zv, Zt, Yj, Yi, Vc.S1.cells, Vc.upd, Vc.del, Zf, Vc.noV, Kd.enc, Kd.dec, Ins.cells, Ln.cells, Z5, Yc, Yn, Ya, Y0, Vc.rvs, Y6, Zc, Y4, Yx, Y3, Y5, Y9, Xa, Yk, Xe, Z8, Zw, Zb, Zu, Vc.kdL, Xm, Yz, Xf, Zq, SV.bd, Vc.S1.bd, At.bd, Value.oneCell', Int.reduceEq, Int.reduceNeg, Int.reduceLE, Int.reduceLT, Vc.lenOf, Yl, Xc, Z4, Vc.atK, Z6, Vc.unK, Vc.wfK, Yh, Yd, Yg, Zp, Yb, Z9, Zr, Ys, Vc.sg, Yw, Y2, Y7, Y8, Z3, Res.own, At.sub, Vc.S1.sub, SV.sub, Res.sub, Xi, Xo, Yt, Yp, Ym, Vc.frS, Kd.sz, Nat.reduceSub, ↓reduceIte, reduceCtorEq, Nat.reduceEqDiff, Nat.reduceAdd, Nat.reduceMul, Nat.reduceLeDiff, Nat.reduceLT, Nat.reduceBEq, Nat.reduceBNe, implies_true, Xp, Wa.rs, Wa.res, hw, ht, hb, hz, hsl, hi1, List.take_length, List.drop_zero, Int.ofNat_lt]) | (with_reducible first | refine T.seq ?_ | refine T.block ?_ | assumption | refine And.intro ?_ ?_) | (intro h; first | (exfalso; omega) | exact (tf h ‹_›).elim | exact (tf ‹_› h).elim | skip))
      all_goals first | omega | skip
    · repeat' (first | ((first | (with_reducible first | refine T.regs ?_ | refine T.cond ?_ | refine T.reg ?_ | refine T.ret ?_ | refine T.exit ?_ | refine T.skip ?_) | ((with_reducible first | refine T.dregs ?_ ?_ | refine T.dreg ?_ ?_ | refine T.dregts ?_ ?_ | refine T.dregt ?_ ?_ | refine T.danys ?_ ?_ | refine T.dany ?_ ?_); exact mix)); simp only [Yf, Zz, Z1, Vc.exK, Zm, Zj, Zg, Zh, Zx, Xn, Y1, Z0, Zl, Zi, Zy, Zk, Zn, Xk, Z7, Xj, Vc.ev, Vc.st, Vc.stq, Vc.gst, Xh, St.rd, St.get, St.put, St.find, Zd, St.new, Vc.gdc, Zs, Yr, Yo, Yq, Xg, Zv, Zt, Yj, Yi, Vc.S1.cells, Vc.upd, Vc.del, Zf, Vc.noV, Kd.enc, Kd.dec, Ins.cells, Ln.cells, Z5, Yc, Yn, Ya, Y0, Vc.rvs, Y6, Zc, Y4, Yx, Y3, Y5, Y9, Xa, Yk, Xe, Z8, Zw, Zb, Zu, Vc.kdL, Xm, Yz, Xf, Zq, SV.bd, Vc.S1.bd, At.bd, Value.oneCell', Int.reduceEq, Int.reduceNeg, Int.reduceLE, Int.reduceLT, Vc.lenOf, Yl, Xc, Z4, Vc.atK, Z6, Vc.unK, Vc.wfK, Yh, Yd, Yg, Zp, Yb, Z9, Zr, Ys, Vc.sg, Yw, Y2, Y7, Y8, Z3, Res.own, At.sub, Vc.S1.sub, SV.sub, Res.sub, Xi, Xo, Yt, Yp, Ym, Vc.frS, Kd.sz, Nat.reduceSub, ↓reduceIte, reduceCtorEq, Nat.reduceEqDiff, Nat.reduceAdd, Nat.reduceMul, Nat.reduceLeDiff, Nat.reduceLT, Nat.reduceBEq, Nat.reduceBNe, implies_true, Xp, Wa.rs, Wa.res, hw, ht, hb, Int.ofNat_lt]) | (with_reducible first | refine T.seq ?_ | refine T.block ?_ | assumption | refine And.intro ?_ ?_) | (intro h; first | (exfalso; omega) | exact (tf h ‹_›).elim | exact (tf ‹_› h).elim | skip))
      all_goals first | omega | skip
      exact ⟨⟨i + 1, hlt, J7 hlt hb hn⟩, (Ent.mk (id) (by simp [Za, Ze, Vc.bnd, St.get, St.find, Zd, SV.ren, Vc.S1.ren, At.ren, Res.ren, SV.bd, Vc.S1.bd, At.bd, Res.bd, Vc.upd, Vc.del, Kd.enc, Value.oneCell', hw]) (by simp [Za, Ze, Vc.bnd, St.get, St.find, Zd, SV.ren, Vc.S1.ren, At.ren, Res.ren, SV.bd, Vc.S1.bd, At.bd, Res.bd, Vc.upd, Vc.del, Kd.enc, Value.oneCell', hw]) (by simp [Za, Ze, Vc.bnd, St.get, St.find, Zd, SV.ren, Vc.S1.ren, At.ren, Res.ren, SV.bd, Vc.S1.bd, At.bd, Res.bd, Vc.upd, Vc.del, Kd.enc, Value.oneCell', hw]) (by simp [Za, Ze, Vc.bnd, St.get, St.find, Zd, SV.ren, Vc.S1.ren, At.ren, Res.ren, SV.bd, Vc.S1.bd, At.bd, Res.bd, Vc.upd, Vc.del, Kd.enc, Value.oneCell', hw])), by simp only; omega⟩
  · have hk : i = s.length := by omega
    have hU2 := P7 (c := c) (s := s) (by rw [hk, List.take_length] at hn; exact hn)
    rw [hU] at hU2
    subst hU2
    repeat' (first | ((first | (with_reducible first | refine T.regs ?_ | refine T.cond ?_ | refine T.reg ?_ | refine T.ret ?_ | refine T.exit ?_ | refine T.skip ?_) | ((with_reducible first | refine T.dregs ?_ ?_ | refine T.dreg ?_ ?_ | refine T.dregts ?_ ?_ | refine T.dregt ?_ ?_ | refine T.danys ?_ ?_ | refine T.dany ?_ ?_); exact mix)); simp only [Yf, Zz, Z1, Vc.exK, Zm, Zj, Zg, Zh, Zx, Xn, Y1, Z0, Zl, Zi, Zy, Zk, Zn, Xk, Z7, Xj, Vc.ev, Vc.st, Vc.stq, Vc.gst, Xh, St.rd, St.get, St.put, St.find, Zd, St.new, Vc.gdc, Zs, Yr, Yo, Yq, Xg, Zv, Zt, Yj, Yi, Vc.S1.cells, Vc.upd, Vc.del, Zf, Vc.noV, Kd.enc, Kd.dec, Ins.cells, Ln.cells, Z5, Yc, Yn, Ya, Y0, Vc.rvs, Y6, Zc, Y4, Yx, Y3, Y5, Y9, Xa, Yk, Xe, Z8, Zw, Zb, Zu, Vc.kdL, Xm, Yz, Xf, Zq, SV.bd, Vc.S1.bd, At.bd, Value.oneCell', Int.reduceEq, Int.reduceNeg, Int.reduceLE, Int.reduceLT, Vc.lenOf, Yl, Xc, Z4, Vc.atK, Z6, Vc.unK, Vc.wfK, Yh, Yd, Yg, Zp, Yb, Z9, Zr, Ys, Vc.sg, Yw, Y2, Y7, Y8, Z3, Res.own, At.sub, Vc.S1.sub, SV.sub, Res.sub, Xi, Xo, Yt, Yp, Ym, Vc.frS, Kd.sz, Nat.reduceSub, ↓reduceIte, reduceCtorEq, Nat.reduceEqDiff, Nat.reduceAdd, Nat.reduceMul, Nat.reduceLeDiff, Nat.reduceLT, Nat.reduceBEq, Nat.reduceBNe, implies_true, Xp, Wa.rs, Wa.res, hk, Int.ofNat_lt]) | (with_reducible first | refine T.seq ?_ | refine T.block ?_ | assumption | refine And.intro ?_ ?_) | (intro h; first | (exfalso; omega) | exact (tf h ‹_›).elim | exact (tf ‹_› h).elim | skip))
    all_goals first | omega | skip
end Go.Proofs.YtccjjcdjgibilaaDoor
namespace Go.Proofs.YtccjjcdjgibilaaDoor
open Go Go.RowKit Vc
set_option linter.unusedVariables false
set_option linter.unusedSimpArgs false
attribute [local irreducible] T Z2 Wd Ent RdC RwC Up Ye Xt
theorem cut_at {t : List UInt8} {f i : Nat} (hf : f ≤ i) (hi : i < t.length) (hb : X7 t i = 10) : t.drop f = (t.take i).drop f ++ 10 :: t.drop (i + 1) := by
  have hg := Nc (c := 10) hi hb
  have h1 : t = t.take i ++ t.drop i := (List.take_append_drop i t).symm
  have h2 : t.drop i = 10 :: t.drop (i + 1) := by
    rw [List.drop_eq_getElem_cons hi]
    rw [List.getElem?_eq_getElem hi] at hg
    rw [Option.some.inj hg]
  conv => lhs; rw [h1]
  rw [List.drop_append_of_le_length (by simp; omega), h2]
set_option maxHeartbeats 4000000 in
theorem Mu (t : List UInt8) (hs : t.length ≤ 2000000) :
    Up Tryd.prog 47 [.v (.a (.str t))] 9 .str (linesS t) := by
  refine X4.fn.rw1 (by simp) (by repeat' (first | exact rfl | exact trivial | refine And.intro ?_ ?_ | (simp [SV.bd, Vc.S1.bd, At.bd, Zq, Yv, Ins.cells, Ln.cells]; done))) fun w => ?_
  generalize hU : linesS t = U
  repeat' (first | ((first | (with_reducible first | refine T.regs ?_ | refine T.cond ?_ | refine T.reg ?_ | refine T.ret ?_ | refine T.exit ?_ | refine T.skip ?_) | ((with_reducible first | refine T.dregs ?_ ?_ | refine T.dreg ?_ ?_ | refine T.dregts ?_ ?_ | refine T.dregt ?_ ?_ | refine T.danys ?_ ?_ | refine T.dany ?_ ?_); exact mix)); simp only [Yf, Zz, Z1, Vc.exK, Zm, Zj, Zg, Zh, Zx, Xn, Y1, Z0, Zl, Zi, Zy, Zk, Zn, Xk, Z7, Xj, Vc.ev, Vc.st, Vc.stq, Vc.gst, Xh, St.rd, St.get, St.put, St.find, Zd, St.new, Vc.gdc, Zs, Yr, Yo, Yq, Xg, Zv, Zt, Yj, Yi, Vc.S1.cells, Vc.upd, Vc.del, Zf, Vc.noV, Kd.enc, Kd.dec, Ins.cells, Ln.cells, Z5, Yc, Yn, Ya, Y0, Vc.rvs, Y6, Zc, Y4, Yx, Y3, Y5, Y9, Xa, Yk, Xe, Z8, Zw, Zb, Zu, Vc.kdL, Xm, Yz, Xf, Zq, SV.bd, Vc.S1.bd, At.bd, Value.oneCell', Int.reduceEq, Int.reduceNeg, Int.reduceLE, Int.reduceLT, Vc.lenOf, Yl, Xc, Z4, Vc.atK, Z6, Vc.unK, Vc.wfK, Yh, Yd, Yg, Zp, Yb, Z9, Zr, Ys, Vc.sg, Yw, Y2, Y7, Y8, Z3, Res.own, At.sub, Vc.S1.sub, SV.sub, Res.sub, Xi, Xo, Yt, Yp, Ym, Vc.frS, Kd.sz, Nat.reduceSub, ↓reduceIte, reduceCtorEq, Nat.reduceEqDiff, Nat.reduceAdd, Nat.reduceMul, Nat.reduceLeDiff, Nat.reduceLT, Nat.reduceBEq, Nat.reduceBNe, implies_true, Xp, X4.rs, X4.res]) | (with_reducible first | refine T.seq ?_ | refine T.block ?_ | assumption | refine And.intro ?_ ?_) | (intro h; first | (exfalso; omega) | exact (tf h ‹_›).elim | exact (tf ‹_› h).elim | skip))
  all_goals first | omega | skip
  refine T.weak (Ent.nilRow (t := 3) 9 .str rfl) ?_
  refine T.loop (ι := { p : Nat × Nat × List (List UInt8) // (p.2.1 ≤ p.1 ∧ p.1 ≤ t.length) ∧ p.2.2 ++ linesS (t.drop p.2.1) = U ∧ 10 ∉ (t.take p.1).drop p.2.1 ∧ p.2.2.length ≤ p.1 })
    (fun x => ⟨[(5, .one (.a (.int .i64 (x.1.1 : Int)))), (4, .one (.a (.int .i64 (x.1.2.1 : Int)))), (3, .one (.a (.ref 0))), (0, .one (.a (.str t)))], [(0, .row 9 .str x.1.2.2)], 1⟩) (fun x => t.length - x.1.1) ⟨(0, 0, []), by simp, by simpa using hU, by simp, by simp⟩ (Ent.mk (id) (by simp [Za, Ze, Vc.bnd, St.get, St.find, Zd, SV.ren, Vc.S1.ren, At.ren, Res.ren, SV.bd, Vc.S1.bd, At.bd, Res.bd, Vc.upd, Vc.del, Kd.enc, Value.oneCell']) (by simp [Za, Ze, Vc.bnd, St.get, St.find, Zd, SV.ren, Vc.S1.ren, At.ren, Res.ren, SV.bd, Vc.S1.bd, At.bd, Res.bd, Vc.upd, Vc.del, Kd.enc, Value.oneCell']) (by simp [Za, Ze, Vc.bnd, St.get, St.find, Zd, SV.ren, Vc.S1.ren, At.ren, Res.ren, SV.bd, Vc.S1.bd, At.bd, Res.bd, Vc.upd, Vc.del, Kd.enc, Value.oneCell']) (by simp [Za, Ze, Vc.bnd, St.get, St.find, Zd, SV.ren, Vc.S1.ren, At.ren, Res.ren, SV.bd, Vc.S1.bd, At.bd, Res.bd, Vc.upd, Vc.del, Kd.enc, Value.oneCell'])) ?_
  rintro ⟨⟨i, f, acc⟩, ⟨hf, hi⟩, hrun, hn, hal⟩
  simp only at hf hi hrun hn hal
  have hw : IntKind.i64.wrap ((i : Int) + 1) = ((i + 1 : Nat) : Int) := We (by omega)
  have ht : ((i : Int)).toNat = i := by omega
  have htf : ((f : Int)).toNat = f := by omega
  have hsl : ((t.length : Int)).toNat = t.length := by omega
  by_cases hlt : i < t.length
  · by_cases hb : X7 t i = 10
    · have hc := cut_at hf hlt hb
      rw [hc, Od hn] at hrun
      repeat' (first | ((first | (with_reducible first | refine T.regs ?_ | refine T.cond ?_ | refine T.reg ?_ | refine T.ret ?_ | refine T.exit ?_ | refine T.skip ?_) | ((with_reducible first | refine T.dregs ?_ ?_ | refine T.dreg ?_ ?_ | refine T.dregts ?_ ?_ | refine T.dregt ?_ ?_ | refine T.danys ?_ ?_ | refine T.dany ?_ ?_); exact mix)); simp only [Yf, Zz, Z1, Vc.exK, Zm, Zj, Zg, Zh, Zx, Xn, Y1, Z0, Zl, Zi, Zy, Zk, Zn, Xk, Z7, Xj, Vc.ev, Vc.st, Vc.stq, Vc.gst, Xh, St.rd, St.get, St.put, St.find, Zd, St.new, Vc.gdc, Zs, Yr, Yo, Yq, Xg, Zv, Zt, Yj, Yi, Vc.S1.cells, Vc.upd, Vc.del, Zf, Vc.noV, Kd.enc, Kd.dec, Ins.cells, Ln.cells, Z5, Yc, Yn, Ya, Y0, Vc.rvs, Y6, Zc, Y4, Yx, Y3, Y5, Y9, Xa, Yk, Xe, Z8, Zw, Zb, Zu, Vc.kdL, Xm, Yz, Xf, Zq, SV.bd, Vc.S1.bd, At.bd, Value.oneCell', Int.reduceEq, Int.reduceNeg, Int.reduceLE, Int.reduceLT, Vc.lenOf, Yl, Xc, Z4, Vc.atK, Z6, Vc.unK, Vc.wfK, Yh, Yd, Yg, Zp, Yb, Z9, Zr, Ys, Vc.sg, Yw, Y2, Y7, Y8, Z3, Res.own, At.sub, Vc.S1.sub, SV.sub, Res.sub, Xi, Xo, Yt, Yp, Ym, Vc.frS, Kd.sz, Nat.reduceSub, ↓reduceIte, reduceCtorEq, Nat.reduceEqDiff, Nat.reduceAdd, Nat.reduceMul, Nat.reduceLeDiff, Nat.reduceLT, Nat.reduceBEq, Nat.reduceBNe, implies_true, Xp, X4.rs, X4.res, hw, ht, htf, hsl, hb, Int.ofNat_lt]) | (with_reducible first | refine T.seq ?_ | refine T.block ?_ | assumption | refine And.intro ?_ ?_) | (intro h; first | (exfalso; omega) | exact (tf h ‹_›).elim | exact (tf ‹_› h).elim | skip))
      all_goals first | omega | skip
      exact ⟨⟨(i + 1, i + 1, acc ++ [(t.take i).drop f]), ⟨Nat.le_refl _, hlt⟩, by simpa using hrun, by simp, by simp only [List.length_append, List.length_cons, List.length_nil]; omega⟩, (Ent.mk (fun n => if n = 0 then 2 else n) (by simp [Za, Ze, Vc.bnd, St.get, St.find, Zd, SV.ren, Vc.S1.ren, At.ren, Res.ren, SV.bd, Vc.S1.bd, At.bd, Res.bd, Vc.upd, Vc.del, Kd.enc, Value.oneCell', hw]) (by simp [Za, Ze, Vc.bnd, St.get, St.find, Zd, SV.ren, Vc.S1.ren, At.ren, Res.ren, SV.bd, Vc.S1.bd, At.bd, Res.bd, Vc.upd, Vc.del, Kd.enc, Value.oneCell', hw]) (by simp [Za, Ze, Vc.bnd, St.get, St.find, Zd, SV.ren, Vc.S1.ren, At.ren, Res.ren, SV.bd, Vc.S1.bd, At.bd, Res.bd, Vc.upd, Vc.del, Kd.enc, Value.oneCell', hw]) (by simp [Za, Ze, Vc.bnd, St.get, St.find, Zd, SV.ren, Vc.S1.ren, At.ren, Res.ren, SV.bd, Vc.S1.bd, At.bd, Res.bd, Vc.upd, Vc.del, Kd.enc, Value.oneCell', hw])), by simp only; omega⟩
    · repeat' (first | ((first | (with_reducible first | refine T.regs ?_ | refine T.cond ?_ | refine T.reg ?_ | refine T.ret ?_ | refine T.exit ?_ | refine T.skip ?_) | ((with_reducible first | refine T.dregs ?_ ?_ | refine T.dreg ?_ ?_ | refine T.dregts ?_ ?_ | refine T.dregt ?_ ?_ | refine T.danys ?_ ?_ | refine T.dany ?_ ?_); exact mix)); simp only [Yf, Zz, Z1, Vc.exK, Zm, Zj, Zg, Zh, Zx, Xn, Y1, Z0, Zl, Zi, Zy, Zk, Zn, Xk, Z7, Xj, Vc.ev, Vc.st, Vc.stq, Vc.gst, Xh, St.rd, St.get, St.put, St.find, Zd, St.new, Vc.gdc, Zs, Yr, Yo, Yq, Xg, Zv, Zt, Yj, Yi, Vc.S1.cells, Vc.upd, Vc.del, Zf, Vc.noV, Kd.enc, Kd.dec, Ins.cells, Ln.cells, Z5, Yc, Yn, Ya, Y0, Vc.rvs, Y6, Zc, Y4, Yx, Y3, Y5, Y9, Xa, Yk, Xe, Z8, Zw, Zb, Zu, Vc.kdL, Xm, Yz, Xf, Zq, SV.bd, Vc.S1.bd, At.bd, Value.oneCell', Int.reduceEq, Int.reduceNeg, Int.reduceLE, Int.reduceLT, Vc.lenOf, Yl, Xc, Z4, Vc.atK, Z6, Vc.unK, Vc.wfK, Yh, Yd, Yg, Zp, Yb, Z9, Zr, Ys, Vc.sg, Yw, Y2, Y7, Y8, Z3, Res.own, At.sub, Vc.S1.sub, SV.sub, Res.sub, Xi, Xo, Yt, Yp, Ym, Vc.frS, Kd.sz, Nat.reduceSub, ↓reduceIte, reduceCtorEq, Nat.reduceEqDiff, Nat.reduceAdd, Nat.reduceMul, Nat.reduceLeDiff, Nat.reduceLT, Nat.reduceBEq, Nat.reduceBNe, implies_true, Xp, X4.rs, X4.res, hw, ht, htf, hsl, hb, Int.ofNat_lt]) | (with_reducible first | refine T.seq ?_ | refine T.block ?_ | assumption | refine And.intro ?_ ?_) | (intro h; first | (exfalso; omega) | exact (tf h ‹_›).elim | exact (tf ‹_› h).elim | skip))
      all_goals first | omega | skip
      refine ⟨⟨(i + 1, f, acc), ⟨Nat.le_succ_of_le hf, hlt⟩, hrun, ?_, by simp only; omega⟩, (Ent.mk (id) (by simp [Za, Ze, Vc.bnd, St.get, St.find, Zd, SV.ren, Vc.S1.ren, At.ren, Res.ren, SV.bd, Vc.S1.bd, At.bd, Res.bd, Vc.upd, Vc.del, Kd.enc, Value.oneCell', hw]) (by simp [Za, Ze, Vc.bnd, St.get, St.find, Zd, SV.ren, Vc.S1.ren, At.ren, Res.ren, SV.bd, Vc.S1.bd, At.bd, Res.bd, Vc.upd, Vc.del, Kd.enc, Value.oneCell', hw]) (by simp [Za, Ze, Vc.bnd, St.get, St.find, Zd, SV.ren, Vc.S1.ren, At.ren, Res.ren, SV.bd, Vc.S1.bd, At.bd, Res.bd, Vc.upd, Vc.del, Kd.enc, Value.oneCell', hw]) (by simp [Za, Ze, Vc.bnd, St.get, St.find, Zd, SV.ren, Vc.S1.ren, At.ren, Res.ren, SV.bd, Vc.S1.bd, At.bd, Res.bd, Vc.upd, Vc.del, Kd.enc, Value.oneCell', hw])), by simp only; omega⟩
      have hb2 : ¬ X7 t i = (((10 : UInt8).toNat : Nat) : Int) := hb
      simp only
      rw [List.take_add_one, List.drop_append_of_le_length (by simp; omega), List.getElem?_eq_getElem hlt]
      simp only [Option.toList_some, List.mem_append, List.mem_singleton, not_or]
      refine ⟨hn, fun e => hb2 ?_⟩
      unfold X7
      rw [List.getD_eq_getElem?_getD, List.getElem?_eq_getElem hlt]
      simp only [Option.getD_some]
      rw [← e]
  · have hk : i = t.length := by omega
    subst hk
    rw [List.take_length] at hn
    rw [Kc hn] at hrun
    by_cases hff : f < t.length
    · have hne : t.drop f ≠ [] := by simp; omega
      rw [if_neg hne] at hrun
      subst hrun
      have hff2 : (f : Int) < t.length := by omega
      repeat' (first | ((first | (with_reducible first | refine T.regs ?_ | refine T.cond ?_ | refine T.reg ?_ | refine T.ret ?_ | refine T.exit ?_ | refine T.skip ?_) | ((with_reducible first | refine T.dregs ?_ ?_ | refine T.dreg ?_ ?_ | refine T.dregts ?_ ?_ | refine T.dregt ?_ ?_ | refine T.danys ?_ ?_ | refine T.dany ?_ ?_); exact mix)); simp only [Yf, Zz, Z1, Vc.exK, Zm, Zj, Zg, Zh, Zx, Xn, Y1, Z0, Zl, Zi, Zy, Zk, Zn, Xk, Z7, Xj, Vc.ev, Vc.st, Vc.stq, Vc.gst, Xh, St.rd, St.get, St.put, St.find, Zd, St.new, Vc.gdc, Zs, Yr, Yo, Yq, Xg, Zv, Zt, Yj, Yi, Vc.S1.cells, Vc.upd, Vc.del, Zf, Vc.noV, Kd.enc, Kd.dec, Ins.cells, Ln.cells, Z5, Yc, Yn, Ya, Y0, Vc.rvs, Y6, Zc, Y4, Yx, Y3, Y5, Y9, Xa, Yk, Xe, Z8, Zw, Zb, Zu, Vc.kdL, Xm, Yz, Xf, Zq, SV.bd, Vc.S1.bd, At.bd, Value.oneCell', Int.reduceEq, Int.reduceNeg, Int.reduceLE, Int.reduceLT, Vc.lenOf, Yl, Xc, Z4, Vc.atK, Z6, Vc.unK, Vc.wfK, Yh, Yd, Yg, Zp, Yb, Z9, Zr, Ys, Vc.sg, Yw, Y2, Y7, Y8, Z3, Res.own, At.sub, Vc.S1.sub, SV.sub, Res.sub, Xi, Xo, Yt, Yp, Ym, Vc.frS, Kd.sz, Nat.reduceSub, ↓reduceIte, reduceCtorEq, Nat.reduceEqDiff, Nat.reduceAdd, Nat.reduceMul, Nat.reduceLeDiff, Nat.reduceLT, Nat.reduceBEq, Nat.reduceBNe, implies_true, Xp, X4.rs, X4.res, htf, hsl, hff2, List.take_length, Int.ofNat_lt]) | (with_reducible first | refine T.seq ?_ | refine T.block ?_ | assumption | refine And.intro ?_ ?_) | (intro h; first | (exfalso; omega) | exact (tf h ‹_›).elim | exact (tf ‹_› h).elim | skip))
      all_goals first | omega | skip
    · have hne : t.drop f = [] := by simp; omega
      rw [if_pos hne, List.append_nil] at hrun
      subst hrun
      have hff2 : ¬ (f : Int) < t.length := by omega
      repeat' (first | ((first | (with_reducible first | refine T.regs ?_ | refine T.cond ?_ | refine T.reg ?_ | refine T.ret ?_ | refine T.exit ?_ | refine T.skip ?_) | ((with_reducible first | refine T.dregs ?_ ?_ | refine T.dreg ?_ ?_ | refine T.dregts ?_ ?_ | refine T.dregt ?_ ?_ | refine T.danys ?_ ?_ | refine T.dany ?_ ?_); exact mix)); simp only [Yf, Zz, Z1, Vc.exK, Zm, Zj, Zg, Zh, Zx, Xn, Y1, Z0, Zl, Zi, Zy, Zk, Zn, Xk, Z7, Xj, Vc.ev, Vc.st, Vc.stq, Vc.gst, Xh, St.rd, St.get, St.put, St.find, Zd, St.new, Vc.gdc, Zs, Yr, Yo, Yq, Xg, Zv, Zt, Yj, Yi, Vc.S1.cells, Vc.upd, Vc.del, Zf, Vc.noV, Kd.enc, Kd.dec, Ins.cells, Ln.cells, Z5, Yc, Yn, Ya, Y0, Vc.rvs, Y6, Zc, Y4, Yx, Y3, Y5, Y9, Xa, Yk, Xe, Z8, Zw, Zb, Zu, Vc.kdL, Xm, Yz, Xf, Zq, SV.bd, Vc.S1.bd, At.bd, Value.oneCell', Int.reduceEq, Int.reduceNeg, Int.reduceLE, Int.reduceLT, Vc.lenOf, Yl, Xc, Z4, Vc.atK, Z6, Vc.unK, Vc.wfK, Yh, Yd, Yg, Zp, Yb, Z9, Zr, Ys, Vc.sg, Yw, Y2, Y7, Y8, Z3, Res.own, At.sub, Vc.S1.sub, SV.sub, Res.sub, Xi, Xo, Yt, Yp, Ym, Vc.frS, Kd.sz, Nat.reduceSub, ↓reduceIte, reduceCtorEq, Nat.reduceEqDiff, Nat.reduceAdd, Nat.reduceMul, Nat.reduceLeDiff, Nat.reduceLT, Nat.reduceBEq, Nat.reduceBNe, implies_true, Xp, X4.rs, X4.res, htf, hsl, hff2, Int.ofNat_lt]) | (with_reducible first | refine T.seq ?_ | refine T.block ?_ | assumption | refine And.intro ?_ ?_) | (intro h; first | (exfalso; omega) | exact (tf h ‹_›).elim | exact (tf ‹_› h).elim | skip))
      all_goals first | omega | skip
end Go.Proofs.YtccjjcdjgibilaaDoor
namespace Go.Proofs.YtccjjcdjgibilaaDoor
open Go Go.RowKit Vc
set_option linter.unusedVariables false
set_option linter.unusedSimpArgs false
attribute [local irreducible] T Z2 Wd Ent RdC RwC Up Ye Xt
def blk (b : UInt8) : Prop := b = 32 ∨ b = 9
theorem P0 (b : UInt8) : ([32, 9] : List UInt8).contains b = true ↔ blk b := by simp [blk]
theorem I6 {x : UInt8} {r : List UInt8} (h : blk x) : Lib.trimLeftS (x :: r) [32, 9] = Lib.trimLeftS r [32, 9] := by
  unfold Lib.trimLeftS; rw [List.dropWhile_cons, if_pos ((P0 x).2 h)]
theorem left_no {x : UInt8} {r : List UInt8} (h : ¬ blk x) : Lib.trimLeftS (x :: r) [32, 9] = x :: r := by
  unfold Lib.trimLeftS; rw [List.dropWhile_cons, if_neg (fun e => h ((P0 x).1 e))]
theorem Ip {x : UInt8} {r : List UInt8} (h : blk x) : Lib.trimRightS (r ++ [x]) [32, 9] = Lib.trimRightS r [32, 9] := by
  unfold Lib.trimRightS; rw [List.reverse_append, List.reverse_singleton, List.singleton_append, List.dropWhile_cons, if_pos ((P0 x).2 h)]
theorem H0 {x : UInt8} {r : List UInt8} (h : ¬ blk x) : Lib.trimRightS (r ++ [x]) [32, 9] = r ++ [x] := by
  unfold Lib.trimRightS; rw [List.reverse_append, List.reverse_singleton, List.singleton_append, List.dropWhile_cons, if_neg (fun e => h ((P0 x).1 e))]; simp
theorem Sq (x : UInt8) : blk x ↔ (((x.toNat : Nat) : Int) = 32 ∨ ((x.toNat : Nat) : Int) = 9) := by
  unfold blk
  constructor
  · rintro (rfl | rfl) <;> decide
  · rintro (h | h)
    · left; exact UInt8.toNat_inj.1 (by simp; omega)
    · right; exact UInt8.toNat_inj.1 (by simp; omega)
set_option maxHeartbeats 4000000 in
theorem Hy {w : World} {X : List Nat} {fr : List Value} {Q : Exit → St → Prop} (s : List UInt8) (hs : s.length ≤ 2000000)
    (hQ : ∀ S', Ent ⟨Tryd.prog, w, X, 43, fr⟩ S' ⟨[(0, .one (.a (.str (Lib.trimRightS s [32, 9]))))], [], 0⟩ → Q (.exit 2) S') :
    T ⟨Tryd.prog, w, X, 43, fr⟩ (.loop Xb.c9) Q ⟨[(0, .one (.a (.str s)))], [], 0⟩ := by
  refine T.loop (ι := { u : List UInt8 // u.length ≤ s.length ∧ Lib.trimRightS u [32, 9] = Lib.trimRightS s [32, 9] })
    (fun x => ⟨[(0, .one (.a (.str x.1)))], [], 0⟩) (fun x => x.1.length) ⟨s, Nat.le_refl _, rfl⟩ (Ent.mk (id) (by simp [Za, Ze, Vc.bnd, St.get, St.find, Zd, SV.ren, Vc.S1.ren, At.ren, Res.ren, SV.bd, Vc.S1.bd, At.bd, Res.bd, Vc.upd, Vc.del, Kd.enc, Value.oneCell']) (by simp [Za, Ze, Vc.bnd, St.get, St.find, Zd, SV.ren, Vc.S1.ren, At.ren, Res.ren, SV.bd, Vc.S1.bd, At.bd, Res.bd, Vc.upd, Vc.del, Kd.enc, Value.oneCell']) (by simp [Za, Ze, Vc.bnd, St.get, St.find, Zd, SV.ren, Vc.S1.ren, At.ren, Res.ren, SV.bd, Vc.S1.bd, At.bd, Res.bd, Vc.upd, Vc.del, Kd.enc, Value.oneCell']) (by simp [Za, Ze, Vc.bnd, St.get, St.find, Zd, SV.ren, Vc.S1.ren, At.ren, Res.ren, SV.bd, Vc.S1.bd, At.bd, Res.bd, Vc.upd, Vc.del, Kd.enc, Value.oneCell'])) ?_
  rintro ⟨u, hul, hu⟩
  simp only
  rcases List.eq_nil_or_concat u with rfl | ⟨r, x, hrx⟩
  · have e : Lib.trimRightS [] [32, 9] = [] := rfl
    rw [e] at hu
    repeat' (first | ((first | (with_reducible first | refine T.regs ?_ | refine T.cond ?_ | refine T.reg ?_ | refine T.ret ?_ | refine T.exit ?_ | refine T.skip ?_) | ((with_reducible first | refine T.dregs ?_ ?_ | refine T.dreg ?_ ?_ | refine T.dregts ?_ ?_ | refine T.dregt ?_ ?_ | refine T.danys ?_ ?_ | refine T.dany ?_ ?_); exact mix) | (with_reducible refine Ye.split ?_ ?_) | (with_reducible refine Xt.no ?_)) <;> simp only [Yf, Zz, Z1, Vc.exK, Zm, Zj, Zg, Zh, Zx, Xn, Y1, Z0, Zl, Zi, Zy, Zk, Zn, Xk, Z7, Xj, Vc.ev, Vc.st, Vc.stq, Vc.gst, Xh, St.rd, St.get, St.put, St.find, Zd, St.new, Vc.gdc, Zs, Yr, Yo, Yq, Xg, Zv, Zt, Yj, Yi, Vc.S1.cells, Vc.upd, Vc.del, Zf, Vc.noV, Kd.enc, Kd.dec, Ins.cells, Ln.cells, Z5, Yc, Yn, Ya, Y0, Vc.rvs, Y6, Zc, Y4, Yx, Y3, Y5, Y9, Xa, Yk, Xe, Z8, Zw, Zb, Zu, Vc.kdL, Xm, Yz, Xf, Zq, SV.bd, Vc.S1.bd, At.bd, Value.oneCell', Int.reduceEq, Int.reduceNeg, Int.reduceLE, Int.reduceLT, Vc.lenOf, Yl, Xc, Z4, Vc.atK, Z6, Vc.unK, Vc.wfK, Yh, Yd, Yg, Zp, Yb, Z9, Zr, Ys, Vc.sg, Yw, Y2, Y7, Y8, Z3, Res.own, At.sub, Vc.S1.sub, SV.sub, Res.sub, Xi, Xo, Yt, Yp, Ym, Vc.frS, Kd.sz, Nat.reduceSub, ↓reduceIte, reduceCtorEq, Nat.reduceEqDiff, Nat.reduceAdd, Nat.reduceMul, Nat.reduceLeDiff, Nat.reduceLT, Nat.reduceBEq, Nat.reduceBNe, implies_true, Xp, Xb.rs, Xb.res, List.length_nil]) | (with_reducible first | refine T.seq ?_ | refine T.block ?_ | assumption | refine And.intro ?_ ?_) | (intro h; first | (exfalso; omega) | exact (tf h ‹_›).elim | exact (tf ‹_› h).elim | skip))
    all_goals first | omega | skip
    exact hQ _ (Ent.mk (id) (by simp [Za, Ze, Vc.bnd, St.get, St.find, Zd, SV.ren, Vc.S1.ren, At.ren, Res.ren, SV.bd, Vc.S1.bd, At.bd, Res.bd, Vc.upd, Vc.del, Kd.enc, Value.oneCell', hu.symm]) (by simp [Za, Ze, Vc.bnd, St.get, St.find, Zd, SV.ren, Vc.S1.ren, At.ren, Res.ren, SV.bd, Vc.S1.bd, At.bd, Res.bd, Vc.upd, Vc.del, Kd.enc, Value.oneCell', hu.symm]) (by simp [Za, Ze, Vc.bnd, St.get, St.find, Zd, SV.ren, Vc.S1.ren, At.ren, Res.ren, SV.bd, Vc.S1.bd, At.bd, Res.bd, Vc.upd, Vc.del, Kd.enc, Value.oneCell', hu.symm]) (by simp [Za, Ze, Vc.bnd, St.get, St.find, Zd, SV.ren, Vc.S1.ren, At.ren, Res.ren, SV.bd, Vc.S1.bd, At.bd, Res.bd, Vc.upd, Vc.del, Kd.enc, Value.oneCell', hu.symm]))
  · rw [List.concat_eq_append] at hrx
    subst hrx
    have hlen : (r ++ [x]).length = r.length + 1 := by simp
    have hlp : (0 : Int) < ((r ++ [x]).length : Int) := by rw [hlen]; omega
    have hw : IntKind.i64.wrap (((r ++ [x]).length : Int) - 1) = (r.length : Int) := by rw [hlen, Vv (by omega) (by omega)]; omega
    have hx : X7 (r ++ [x]) ((r.length : Int)).toNat = ((x.toNat : Nat) : Int) := by simp [X7, List.getD]
    have htk : (r ++ [x]).take ((r.length : Int)).toNat = r := by simp
    have hz : (0 : Int).toNat = 0 := rfl
    by_cases hb : blk x
    · rw [Ip hb] at hu
      rcases (Sq x).1 hb with h | h
      · rw [h] at hx
        repeat' (first | ((first | (with_reducible first | refine T.regs ?_ | refine T.cond ?_ | refine T.reg ?_ | refine T.ret ?_ | refine T.exit ?_ | refine T.skip ?_) | ((with_reducible first | refine T.dregs ?_ ?_ | refine T.dreg ?_ ?_ | refine T.dregts ?_ ?_ | refine T.dregt ?_ ?_ | refine T.danys ?_ ?_ | refine T.dany ?_ ?_); exact mix) | (with_reducible refine Ye.split ?_ ?_) | (with_reducible refine Xt.no ?_)) <;> simp only [Yf, Zz, Z1, Vc.exK, Zm, Zj, Zg, Zh, Zx, Xn, Y1, Z0, Zl, Zi, Zy, Zk, Zn, Xk, Z7, Xj, Vc.ev, Vc.st, Vc.stq, Vc.gst, Xh, St.rd, St.get, St.put, St.find, Zd, St.new, Vc.gdc, Zs, Yr, Yo, Yq, Xg, Zv, Zt, Yj, Yi, Vc.S1.cells, Vc.upd, Vc.del, Zf, Vc.noV, Kd.enc, Kd.dec, Ins.cells, Ln.cells, Z5, Yc, Yn, Ya, Y0, Vc.rvs, Y6, Zc, Y4, Yx, Y3, Y5, Y9, Xa, Yk, Xe, Z8, Zw, Zb, Zu, Vc.kdL, Xm, Yz, Xf, Zq, SV.bd, Vc.S1.bd, At.bd, Value.oneCell', Int.reduceEq, Int.reduceNeg, Int.reduceLE, Int.reduceLT, Vc.lenOf, Yl, Xc, Z4, Vc.atK, Z6, Vc.unK, Vc.wfK, Yh, Yd, Yg, Zp, Yb, Z9, Zr, Ys, Vc.sg, Yw, Y2, Y7, Y8, Z3, Res.own, At.sub, Vc.S1.sub, SV.sub, Res.sub, Xi, Xo, Yt, Yp, Ym, Vc.frS, Kd.sz, Nat.reduceSub, ↓reduceIte, reduceCtorEq, Nat.reduceEqDiff, Nat.reduceAdd, Nat.reduceMul, Nat.reduceLeDiff, Nat.reduceLT, Nat.reduceBEq, Nat.reduceBNe, implies_true, Xp, Xb.rs, Xb.res, hlp, hw, hx, htk, hz, List.drop_zero]) | (with_reducible first | refine T.seq ?_ | refine T.block ?_ | assumption | refine And.intro ?_ ?_) | (intro h; first | (exfalso; omega) | exact (tf h ‹_›).elim | exact (tf ‹_› h).elim | skip))
        all_goals first | omega | skip
        exact ⟨⟨r, by omega, hu⟩, (Ent.mk (id) (by simp [Za, Ze, Vc.bnd, St.get, St.find, Zd, SV.ren, Vc.S1.ren, At.ren, Res.ren, SV.bd, Vc.S1.bd, At.bd, Res.bd, Vc.upd, Vc.del, Kd.enc, Value.oneCell']) (by simp [Za, Ze, Vc.bnd, St.get, St.find, Zd, SV.ren, Vc.S1.ren, At.ren, Res.ren, SV.bd, Vc.S1.bd, At.bd, Res.bd, Vc.upd, Vc.del, Kd.enc, Value.oneCell']) (by simp [Za, Ze, Vc.bnd, St.get, St.find, Zd, SV.ren, Vc.S1.ren, At.ren, Res.ren, SV.bd, Vc.S1.bd, At.bd, Res.bd, Vc.upd, Vc.del, Kd.enc, Value.oneCell']) (by simp [Za, Ze, Vc.bnd, St.get, St.find, Zd, SV.ren, Vc.S1.ren, At.ren, Res.ren, SV.bd, Vc.S1.bd, At.bd, Res.bd, Vc.upd, Vc.del, Kd.enc, Value.oneCell'])), by simp only; omega⟩
      · rw [h] at hx
        repeat' (first | ((first | (with_reducible first | refine T.regs ?_ | refine T.cond ?_ | refine T.reg ?_ | refine T.ret ?_ | refine T.exit ?_ | refine T.skip ?_) | ((with_reducible first | refine T.dregs ?_ ?_ | refine T.dreg ?_ ?_ | refine T.dregts ?_ ?_ | refine T.dregt ?_ ?_ | refine T.danys ?_ ?_ | refine T.dany ?_ ?_); exact mix) | (with_reducible refine Ye.split ?_ ?_) | (with_reducible refine Xt.no ?_)) <;> simp only [Yf, Zz, Z1, Vc.exK, Zm, Zj, Zg, Zh, Zx, Xn, Y1, Z0, Zl, Zi, Zy, Zk, Zn, Xk, Z7, Xj, Vc.ev, Vc.st, Vc.stq, Vc.gst, Xh, St.rd, St.get, St.put, St.find, Zd, St.new, Vc.gdc, Zs, Yr, Yo, Yq, Xg, Zv, Zt, Yj, Yi, Vc.S1.cells, Vc.upd, Vc.del, Zf, Vc.noV, Kd.enc, Kd.dec, Ins.cells, Ln.cells, Z5, Yc, Yn, Ya, Y0, Vc.rvs, Y6, Zc, Y4, Yx, Y3, Y5, Y9, Xa, Yk, Xe, Z8, Zw, Zb, Zu, Vc.kdL, Xm, Yz, Xf, Zq, SV.bd, Vc.S1.bd, At.bd, Value.oneCell', Int.reduceEq, Int.reduceNeg, Int.reduceLE, Int.reduceLT, Vc.lenOf, Yl, Xc, Z4, Vc.atK, Z6, Vc.unK, Vc.wfK, Yh, Yd, Yg, Zp, Yb, Z9, Zr, Ys, Vc.sg, Yw, Y2, Y7, Y8, Z3, Res.own, At.sub, Vc.S1.sub, SV.sub, Res.sub, Xi, Xo, Yt, Yp, Ym, Vc.frS, Kd.sz, Nat.reduceSub, ↓reduceIte, reduceCtorEq, Nat.reduceEqDiff, Nat.reduceAdd, Nat.reduceMul, Nat.reduceLeDiff, Nat.reduceLT, Nat.reduceBEq, Nat.reduceBNe, implies_true, Xp, Xb.rs, Xb.res, hlp, hw, hx, htk, hz, List.drop_zero]) | (with_reducible first | refine T.seq ?_ | refine T.block ?_ | assumption | refine And.intro ?_ ?_) | (intro h; first | (exfalso; omega) | exact (tf h ‹_›).elim | exact (tf ‹_› h).elim | skip))
        all_goals first | omega | skip
        exact ⟨⟨r, by omega, hu⟩, (Ent.mk (id) (by simp [Za, Ze, Vc.bnd, St.get, St.find, Zd, SV.ren, Vc.S1.ren, At.ren, Res.ren, SV.bd, Vc.S1.bd, At.bd, Res.bd, Vc.upd, Vc.del, Kd.enc, Value.oneCell']) (by simp [Za, Ze, Vc.bnd, St.get, St.find, Zd, SV.ren, Vc.S1.ren, At.ren, Res.ren, SV.bd, Vc.S1.bd, At.bd, Res.bd, Vc.upd, Vc.del, Kd.enc, Value.oneCell']) (by simp [Za, Ze, Vc.bnd, St.get, St.find, Zd, SV.ren, Vc.S1.ren, At.ren, Res.ren, SV.bd, Vc.S1.bd, At.bd, Res.bd, Vc.upd, Vc.del, Kd.enc, Value.oneCell']) (by simp [Za, Ze, Vc.bnd, St.get, St.find, Zd, SV.ren, Vc.S1.ren, At.ren, Res.ren, SV.bd, Vc.S1.bd, At.bd, Res.bd, Vc.upd, Vc.del, Kd.enc, Value.oneCell'])), by simp only; omega⟩
    · rw [H0 hb] at hu
      have h1 : ¬ ((x.toNat : Nat) : Int) = 32 := fun e => hb ((Sq x).2 (.inl e))
      have h2 : ¬ ((x.toNat : Nat) : Int) = 9 := fun e => hb ((Sq x).2 (.inr e))
      repeat' (first | ((first | (with_reducible first | refine T.regs ?_ | refine T.cond ?_ | refine T.reg ?_ | refine T.ret ?_ | refine T.exit ?_ | refine T.skip ?_) | ((with_reducible first | refine T.dregs ?_ ?_ | refine T.dreg ?_ ?_ | refine T.dregts ?_ ?_ | refine T.dregt ?_ ?_ | refine T.danys ?_ ?_ | refine T.dany ?_ ?_); exact mix) | (with_reducible refine Ye.split ?_ ?_) | (with_reducible refine Xt.no ?_)) <;> simp only [Yf, Zz, Z1, Vc.exK, Zm, Zj, Zg, Zh, Zx, Xn, Y1, Z0, Zl, Zi, Zy, Zk, Zn, Xk, Z7, Xj, Vc.ev, Vc.st, Vc.stq, Vc.gst, Xh, St.rd, St.get, St.put, St.find, Zd, St.new, Vc.gdc, Zs, Yr, Yo, Yq, Xg, Zv, Zt, Yj, Yi, Vc.S1.cells, Vc.upd, Vc.del, Zf, Vc.noV, Kd.enc, Kd.dec, Ins.cells, Ln.cells, Z5, Yc, Yn, Ya, Y0, Vc.rvs, Y6, Zc, Y4, Yx, Y3, Y5, Y9, Xa, Yk, Xe, Z8, Zw, Zb, Zu, Vc.kdL, Xm, Yz, Xf, Zq, SV.bd, Vc.S1.bd, At.bd, Value.oneCell', Int.reduceEq, Int.reduceNeg, Int.reduceLE, Int.reduceLT, Vc.lenOf, Yl, Xc, Z4, Vc.atK, Z6, Vc.unK, Vc.wfK, Yh, Yd, Yg, Zp, Yb, Z9, Zr, Ys, Vc.sg, Yw, Y2, Y7, Y8, Z3, Res.own, At.sub, Vc.S1.sub, SV.sub, Res.sub, Xi, Xo, Yt, Yp, Ym, Vc.frS, Kd.sz, Nat.reduceSub, ↓reduceIte, reduceCtorEq, Nat.reduceEqDiff, Nat.reduceAdd, Nat.reduceMul, Nat.reduceLeDiff, Nat.reduceLT, Nat.reduceBEq, Nat.reduceBNe, implies_true, Xp, Xb.rs, Xb.res, hlp, hw, hx, h1, h2]) | (with_reducible first | refine T.seq ?_ | refine T.block ?_ | assumption | refine And.intro ?_ ?_) | (intro h; first | (exfalso; omega) | exact (tf h ‹_›).elim | exact (tf ‹_› h).elim | skip))
      all_goals first | omega | skip
      exact hQ _ (Ent.mk (id) (by simp [Za, Ze, Vc.bnd, St.get, St.find, Zd, SV.ren, Vc.S1.ren, At.ren, Res.ren, SV.bd, Vc.S1.bd, At.bd, Res.bd, Vc.upd, Vc.del, Kd.enc, Value.oneCell', hu.symm]) (by simp [Za, Ze, Vc.bnd, St.get, St.find, Zd, SV.ren, Vc.S1.ren, At.ren, Res.ren, SV.bd, Vc.S1.bd, At.bd, Res.bd, Vc.upd, Vc.del, Kd.enc, Value.oneCell', hu.symm]) (by simp [Za, Ze, Vc.bnd, St.get, St.find, Zd, SV.ren, Vc.S1.ren, At.ren, Res.ren, SV.bd, Vc.S1.bd, At.bd, Res.bd, Vc.upd, Vc.del, Kd.enc, Value.oneCell', hu.symm]) (by simp [Za, Ze, Vc.bnd, St.get, St.find, Zd, SV.ren, Vc.S1.ren, At.ren, Res.ren, SV.bd, Vc.S1.bd, At.bd, Res.bd, Vc.upd, Vc.del, Kd.enc, Value.oneCell', hu.symm]))
set_option maxHeartbeats 4000000 in
theorem Hr {w : World} {X : List Nat} {fr : List Value} {Q : Exit → St → Prop} (s : List UInt8) (hs : s.length ≤ 2000000)
    (hQ : ∀ S', Ent ⟨Tryd.prog, w, X, 43, fr⟩ S' ⟨[(0, .one (.a (.str (Lib.trimLeftS s [32, 9]))))], [], 0⟩ → Q (.exit 0) S') :
    T ⟨Tryd.prog, w, X, 43, fr⟩ (.loop Xb.c3) Q ⟨[(0, .one (.a (.str s)))], [], 0⟩ := by
  refine T.loop (ι := { u : List UInt8 // u.length ≤ s.length ∧ Lib.trimLeftS u [32, 9] = Lib.trimLeftS s [32, 9] })
    (fun x => ⟨[(0, .one (.a (.str x.1)))], [], 0⟩) (fun x => x.1.length) ⟨s, Nat.le_refl _, rfl⟩ (Ent.mk (id) (by simp [Za, Ze, Vc.bnd, St.get, St.find, Zd, SV.ren, Vc.S1.ren, At.ren, Res.ren, SV.bd, Vc.S1.bd, At.bd, Res.bd, Vc.upd, Vc.del, Kd.enc, Value.oneCell']) (by simp [Za, Ze, Vc.bnd, St.get, St.find, Zd, SV.ren, Vc.S1.ren, At.ren, Res.ren, SV.bd, Vc.S1.bd, At.bd, Res.bd, Vc.upd, Vc.del, Kd.enc, Value.oneCell']) (by simp [Za, Ze, Vc.bnd, St.get, St.find, Zd, SV.ren, Vc.S1.ren, At.ren, Res.ren, SV.bd, Vc.S1.bd, At.bd, Res.bd, Vc.upd, Vc.del, Kd.enc, Value.oneCell']) (by simp [Za, Ze, Vc.bnd, St.get, St.find, Zd, SV.ren, Vc.S1.ren, At.ren, Res.ren, SV.bd, Vc.S1.bd, At.bd, Res.bd, Vc.upd, Vc.del, Kd.enc, Value.oneCell'])) ?_
  rintro ⟨u, hul, hu⟩
  simp only
  cases u with
  | nil =>
    have e : Lib.trimLeftS [] [32, 9] = [] := rfl
    rw [e] at hu
    repeat' (first | ((first | (with_reducible first | refine T.regs ?_ | refine T.cond ?_ | refine T.reg ?_ | refine T.ret ?_ | refine T.exit ?_ | refine T.skip ?_) | ((with_reducible first | refine T.dregs ?_ ?_ | refine T.dreg ?_ ?_ | refine T.dregts ?_ ?_ | refine T.dregt ?_ ?_ | refine T.danys ?_ ?_ | refine T.dany ?_ ?_); exact mix) | (with_reducible refine Ye.split ?_ ?_) | (with_reducible refine Xt.no ?_)) <;> simp only [Yf, Zz, Z1, Vc.exK, Zm, Zj, Zg, Zh, Zx, Xn, Y1, Z0, Zl, Zi, Zy, Zk, Zn, Xk, Z7, Xj, Vc.ev, Vc.st, Vc.stq, Vc.gst, Xh, St.rd, St.get, St.put, St.find, Zd, St.new, Vc.gdc, Zs, Yr, Yo, Yq, Xg, Zv, Zt, Yj, Yi, Vc.S1.cells, Vc.upd, Vc.del, Zf, Vc.noV, Kd.enc, Kd.dec, Ins.cells, Ln.cells, Z5, Yc, Yn, Ya, Y0, Vc.rvs, Y6, Zc, Y4, Yx, Y3, Y5, Y9, Xa, Yk, Xe, Z8, Zw, Zb, Zu, Vc.kdL, Xm, Yz, Xf, Zq, SV.bd, Vc.S1.bd, At.bd, Value.oneCell', Int.reduceEq, Int.reduceNeg, Int.reduceLE, Int.reduceLT, Vc.lenOf, Yl, Xc, Z4, Vc.atK, Z6, Vc.unK, Vc.wfK, Yh, Yd, Yg, Zp, Yb, Z9, Zr, Ys, Vc.sg, Yw, Y2, Y7, Y8, Z3, Res.own, At.sub, Vc.S1.sub, SV.sub, Res.sub, Xi, Xo, Yt, Yp, Ym, Vc.frS, Kd.sz, Nat.reduceSub, ↓reduceIte, reduceCtorEq, Nat.reduceEqDiff, Nat.reduceAdd, Nat.reduceMul, Nat.reduceLeDiff, Nat.reduceLT, Nat.reduceBEq, Nat.reduceBNe, implies_true, Xp, Xb.rs, Xb.res, List.length_nil]) | (with_reducible first | refine T.seq ?_ | refine T.block ?_ | assumption | refine And.intro ?_ ?_) | (intro h; first | (exfalso; omega) | exact (tf h ‹_›).elim | exact (tf ‹_› h).elim | skip))
    all_goals first | omega | skip
    exact hQ _ (Ent.mk (id) (by simp [Za, Ze, Vc.bnd, St.get, St.find, Zd, SV.ren, Vc.S1.ren, At.ren, Res.ren, SV.bd, Vc.S1.bd, At.bd, Res.bd, Vc.upd, Vc.del, Kd.enc, Value.oneCell', hu.symm]) (by simp [Za, Ze, Vc.bnd, St.get, St.find, Zd, SV.ren, Vc.S1.ren, At.ren, Res.ren, SV.bd, Vc.S1.bd, At.bd, Res.bd, Vc.upd, Vc.del, Kd.enc, Value.oneCell', hu.symm]) (by simp [Za, Ze, Vc.bnd, St.get, St.find, Zd, SV.ren, Vc.S1.ren, At.ren, Res.ren, SV.bd, Vc.S1.bd, At.bd, Res.bd, Vc.upd, Vc.del, Kd.enc, Value.oneCell', hu.symm]) (by simp [Za, Ze, Vc.bnd, St.get, St.find, Zd, SV.ren, Vc.S1.ren, At.ren, Res.ren, SV.bd, Vc.S1.bd, At.bd, Res.bd, Vc.upd, Vc.del, Kd.enc, Value.oneCell', hu.symm]))
  | cons x r =>
    have hlen : (x :: r).length = r.length + 1 := by simp
    have hlp : (0 : Int) < ((x :: r).length : Int) := by rw [hlen]; omega
    have hx : X7 (x :: r) (0 : Int).toNat = ((x.toNat : Nat) : Int) := rfl
    have hsl : (((x :: r).length : Int)).toNat = (x :: r).length := by omega
    have htk : ((x :: r).take (x :: r).length).drop (1 : Int).toNat = r := by rw [List.take_length]; rfl
    by_cases hb : blk x
    · rw [I6 hb] at hu
      rcases (Sq x).1 hb with h | h
      · rw [h] at hx
        repeat' (first | ((first | (with_reducible first | refine T.regs ?_ | refine T.cond ?_ | refine T.reg ?_ | refine T.ret ?_ | refine T.exit ?_ | refine T.skip ?_) | ((with_reducible first | refine T.dregs ?_ ?_ | refine T.dreg ?_ ?_ | refine T.dregts ?_ ?_ | refine T.dregt ?_ ?_ | refine T.danys ?_ ?_ | refine T.dany ?_ ?_); exact mix) | (with_reducible refine Ye.split ?_ ?_) | (with_reducible refine Xt.no ?_)) <;> simp only [Yf, Zz, Z1, Vc.exK, Zm, Zj, Zg, Zh, Zx, Xn, Y1, Z0, Zl, Zi, Zy, Zk, Zn, Xk, Z7, Xj, Vc.ev, Vc.st, Vc.stq, Vc.gst, Xh, St.rd, St.get, St.put, St.find, Zd, St.new, Vc.gdc, Zs, Yr, Yo, Yq, Xg, Zv, Zt, Yj, Yi, Vc.S1.cells, Vc.upd, Vc.del, Zf, Vc.noV, Kd.enc, Kd.dec, Ins.cells, Ln.cells, Z5, Yc, Yn, Ya, Y0, Vc.rvs, Y6, Zc, Y4, Yx, Y3, Y5, Y9, Xa, Yk, Xe, Z8, Zw, Zb, Zu, Vc.kdL, Xm, Yz, Xf, Zq, SV.bd, Vc.S1.bd, At.bd, Value.oneCell', Int.reduceEq, Int.reduceNeg, Int.reduceLE, Int.reduceLT, Vc.lenOf, Yl, Xc, Z4, Vc.atK, Z6, Vc.unK, Vc.wfK, Yh, Yd, Yg, Zp, Yb, Z9, Zr, Ys, Vc.sg, Yw, Y2, Y7, Y8, Z3, Res.own, At.sub, Vc.S1.sub, SV.sub, Res.sub, Xi, Xo, Yt, Yp, Ym, Vc.frS, Kd.sz, Nat.reduceSub, ↓reduceIte, reduceCtorEq, Nat.reduceEqDiff, Nat.reduceAdd, Nat.reduceMul, Nat.reduceLeDiff, Nat.reduceLT, Nat.reduceBEq, Nat.reduceBNe, implies_true, Xp, Xb.rs, Xb.res, hlp, hx, hsl, htk]) | (with_reducible first | refine T.seq ?_ | refine T.block ?_ | assumption | refine And.intro ?_ ?_) | (intro h; first | (exfalso; omega) | exact (tf h ‹_›).elim | exact (tf ‹_› h).elim | skip))
        all_goals first | omega | skip
        exact ⟨⟨r, by omega, hu⟩, (Ent.mk (id) (by simp [Za, Ze, Vc.bnd, St.get, St.find, Zd, SV.ren, Vc.S1.ren, At.ren, Res.ren, SV.bd, Vc.S1.bd, At.bd, Res.bd, Vc.upd, Vc.del, Kd.enc, Value.oneCell']) (by simp [Za, Ze, Vc.bnd, St.get, St.find, Zd, SV.ren, Vc.S1.ren, At.ren, Res.ren, SV.bd, Vc.S1.bd, At.bd, Res.bd, Vc.upd, Vc.del, Kd.enc, Value.oneCell']) (by simp [Za, Ze, Vc.bnd, St.get, St.find, Zd, SV.ren, Vc.S1.ren, At.ren, Res.ren, SV.bd, Vc.S1.bd, At.bd, Res.bd, Vc.upd, Vc.del, Kd.enc, Value.oneCell']) (by simp [Za, Ze, Vc.bnd, St.get, St.find, Zd, SV.ren, Vc.S1.ren, At.ren, Res.ren, SV.bd, Vc.S1.bd, At.bd, Res.bd, Vc.upd, Vc.del, Kd.enc, Value.oneCell'])), by simp only; omega⟩
      · rw [h] at hx
        repeat' (first | ((first | (with_reducible first | refine T.regs ?_ | refine T.cond ?_ | refine T.reg ?_ | refine T.ret ?_ | refine T.exit ?_ | refine T.skip ?_) | ((with_reducible first | refine T.dregs ?_ ?_ | refine T.dreg ?_ ?_ | refine T.dregts ?_ ?_ | refine T.dregt ?_ ?_ | refine T.danys ?_ ?_ | refine T.dany ?_ ?_); exact mix) | (with_reducible refine Ye.split ?_ ?_) | (with_reducible refine Xt.no ?_)) <;> simp only [Yf, Zz, Z1, Vc.exK, Zm, Zj, Zg, Zh, Zx, Xn, Y1, Z0, Zl, Zi, Zy, Zk, Zn, Xk, Z7, Xj, Vc.ev, Vc.st, Vc.stq, Vc.gst, Xh, St.rd, St.get, St.put, St.find, Zd, St.new, Vc.gdc, Zs, Yr, Yo, Yq, Xg, Zv, Zt, Yj, Yi, Vc.S1.cells, Vc.upd, Vc.del, Zf, Vc.noV, Kd.enc, Kd.dec, Ins.cells, Ln.cells, Z5, Yc, Yn, Ya, Y0, Vc.rvs, Y6, Zc, Y4, Yx, Y3, Y5, Y9, Xa, Yk, Xe, Z8, Zw, Zb, Zu, Vc.kdL, Xm, Yz, Xf, Zq, SV.bd, Vc.S1.bd, At.bd, Value.oneCell', Int.reduceEq, Int.reduceNeg, Int.reduceLE, Int.reduceLT, Vc.lenOf, Yl, Xc, Z4, Vc.atK, Z6, Vc.unK, Vc.wfK, Yh, Yd, Yg, Zp, Yb, Z9, Zr, Ys, Vc.sg, Yw, Y2, Y7, Y8, Z3, Res.own, At.sub, Vc.S1.sub, SV.sub, Res.sub, Xi, Xo, Yt, Yp, Ym, Vc.frS, Kd.sz, Nat.reduceSub, ↓reduceIte, reduceCtorEq, Nat.reduceEqDiff, Nat.reduceAdd, Nat.reduceMul, Nat.reduceLeDiff, Nat.reduceLT, Nat.reduceBEq, Nat.reduceBNe, implies_true, Xp, Xb.rs, Xb.res, hlp, hx, hsl, htk]) | (with_reducible first | refine T.seq ?_ | refine T.block ?_ | assumption | refine And.intro ?_ ?_) | (intro h; first | (exfalso; omega) | exact (tf h ‹_›).elim | exact (tf ‹_› h).elim | skip))
        all_goals first | omega | skip
        exact ⟨⟨r, by omega, hu⟩, (Ent.mk (id) (by simp [Za, Ze, Vc.bnd, St.get, St.find, Zd, SV.ren, Vc.S1.ren, At.ren, Res.ren, SV.bd, Vc.S1.bd, At.bd, Res.bd, Vc.upd, Vc.del, Kd.enc, Value.oneCell']) (by simp [Za, Ze, Vc.bnd, St.get, St.find, Zd, SV.ren, Vc.S1.ren, At.ren, Res.ren, SV.bd, Vc.S1.bd, At.bd, Res.bd, Vc.upd, Vc.del, Kd.enc, Value.oneCell']) (by simp [Za, Ze, Vc.bnd, St.get, St.find, Zd, SV.ren, Vc.S1.ren, At.ren, Res.ren, SV.bd, Vc.S1.bd, At.bd, Res.bd, Vc.upd, Vc.del, Kd.enc, Value.oneCell']) (by simp [Za, Ze, Vc.bnd, St.get, St.find, Zd, SV.ren, Vc.S1.ren, At.ren, Res.ren, SV.bd, Vc.S1.bd, At.bd, Res.bd, Vc.upd, Vc.del, Kd.enc, Value.oneCell'])), by simp only; omega⟩
    · rw [left_no hb] at hu
      have h1 : ¬ ((x.toNat : Nat) : Int) = 32 := fun e => hb ((Sq x).2 (.inl e))
      have h2 : ¬ ((x.toNat : Nat) : Int) = 9 := fun e => hb ((Sq x).2 (.inr e))
      repeat' (first | ((first | (with_reducible first | refine T.regs ?_ | refine T.cond ?_ | refine T.reg ?_ | refine T.ret ?_ | refine T.exit ?_ | refine T.skip ?_) | ((with_reducible first | refine T.dregs ?_ ?_ | refine T.dreg ?_ ?_ | refine T.dregts ?_ ?_ | refine T.dregt ?_ ?_ | refine T.danys ?_ ?_ | refine T.dany ?_ ?_); exact mix) | (with_reducible refine Ye.split ?_ ?_) | (with_reducible refine Xt.no ?_)) <;> simp only [Yf, Zz, Z1, Vc.exK, Zm, Zj, Zg, Zh, Zx, Xn, Y1, Z0, Zl, Zi, Zy, Zk, Zn, Xk, Z7, Xj, Vc.ev, Vc.st, Vc.stq, Vc.gst, Xh, St.rd, St.get, St.put, St.find, Zd, St.new, Vc.gdc, Zs, Yr, Yo, Yq, Xg, Zv, Zt, Yj, Yi, Vc.S1.cells, Vc.upd, Vc.del, Zf, Vc.noV, Kd.enc, Kd.dec, Ins.cells, Ln.cells, Z5, Yc, Yn, Ya, Y0, Vc.rvs, Y6, Zc, Y4, Yx, Y3, Y5, Y9, Xa, Yk, Xe, Z8, Zw, Zb, Zu, Vc.kdL, Xm, Yz, Xf, Zq, SV.bd, Vc.S1.bd, At.bd, Value.oneCell', Int.reduceEq, Int.reduceNeg, Int.reduceLE, Int.reduceLT, Vc.lenOf, Yl, Xc, Z4, Vc.atK, Z6, Vc.unK, Vc.wfK, Yh, Yd, Yg, Zp, Yb, Z9, Zr, Ys, Vc.sg, Yw, Y2, Y7, Y8, Z3, Res.own, At.sub, Vc.S1.sub, SV.sub, Res.sub, Xi, Xo, Yt, Yp, Ym, Vc.frS, Kd.sz, Nat.reduceSub, ↓reduceIte, reduceCtorEq, Nat.reduceEqDiff, Nat.reduceAdd, Nat.reduceMul, Nat.reduceLeDiff, Nat.reduceLT, Nat.reduceBEq, Nat.reduceBNe, implies_true, Xp, Xb.rs, Xb.res, hlp, hx, h1, h2]) | (with_reducible first | refine T.seq ?_ | refine T.block ?_ | assumption | refine And.intro ?_ ?_) | (intro h; first | (exfalso; omega) | exact (tf h ‹_›).elim | exact (tf ‹_› h).elim | skip))
      all_goals first | omega | skip
      exact hQ _ (Ent.mk (id) (by simp [Za, Ze, Vc.bnd, St.get, St.find, Zd, SV.ren, Vc.S1.ren, At.ren, Res.ren, SV.bd, Vc.S1.bd, At.bd, Res.bd, Vc.upd, Vc.del, Kd.enc, Value.oneCell', hu.symm]) (by simp [Za, Ze, Vc.bnd, St.get, St.find, Zd, SV.ren, Vc.S1.ren, At.ren, Res.ren, SV.bd, Vc.S1.bd, At.bd, Res.bd, Vc.upd, Vc.del, Kd.enc, Value.oneCell', hu.symm]) (by simp [Za, Ze, Vc.bnd, St.get, St.find, Zd, SV.ren, Vc.S1.ren, At.ren, Res.ren, SV.bd, Vc.S1.bd, At.bd, Res.bd, Vc.upd, Vc.del, Kd.enc, Value.oneCell', hu.symm]) (by simp [Za, Ze, Vc.bnd, St.get, St.find, Zd, SV.ren, Vc.S1.ren, At.ren, Res.ren, SV.bd, Vc.S1.bd, At.bd, Res.bd, Vc.upd, Vc.del, Kd.enc, Value.oneCell', hu.symm]))
theorem Mg (s cs : List UInt8) : (Lib.trimLeftS s cs).length ≤ s.length := by
  unfold Lib.trimLeftS
  exact (List.dropWhile_sublist _).length_le
theorem Rs (s : List UInt8) (hs : s.length ≤ 2000000) :
    RdC Tryd.prog 66 [.v (.a (.str s))] (.one (.a (.str (trimB s)))) := by
  refine Xb.fn.rd (by simp) (by repeat' (first | exact rfl | exact trivial | refine And.intro ?_ ?_ | (simp [SV.bd, Vc.S1.bd, At.bd, Zq, Yv, Ins.cells, Ln.cells]; done))) (by repeat' (first | exact rfl | exact trivial | refine And.intro ?_ ?_ | (simp [SV.bd, Vc.S1.bd, At.bd, Zq, Yv, Ins.cells, Ln.cells]; done))) fun w => ?_
  have hT : trimB s = Lib.trimRightS (Lib.trimLeftS s [32, 9]) [32, 9] := Md [32, 9] s
  rw [hT]
  have hl := Mg s [32, 9]
  repeat' (first | ((first | (with_reducible first | refine T.regs ?_ | refine T.cond ?_ | refine T.reg ?_ | refine T.ret ?_ | refine T.exit ?_ | refine T.skip ?_) | ((with_reducible first | refine T.dregs ?_ ?_ | refine T.dreg ?_ ?_ | refine T.dregts ?_ ?_ | refine T.dregt ?_ ?_ | refine T.danys ?_ ?_ | refine T.dany ?_ ?_); exact mix)); simp only [Yf, Zz, Z1, Vc.exK, Zm, Zj, Zg, Zh, Zx, Xn, Y1, Z0, Zl, Zi, Zy, Zk, Zn, Xk, Z7, Xj, Vc.ev, Vc.st, Vc.stq, Vc.gst, Xh, St.rd, St.get, St.put, St.find, Zd, St.new, Vc.gdc, Zs, Yr, Yo, Yq, Xg, Zv, Zt, Yj, Yi, Vc.S1.cells, Vc.upd, Vc.del, Zf, Vc.noV, Kd.enc, Kd.dec, Ins.cells, Ln.cells, Z5, Yc, Yn, Ya, Y0, Vc.rvs, Y6, Zc, Y4, Yx, Y3, Y5, Y9, Xa, Yk, Xe, Z8, Zw, Zb, Zu, Vc.kdL, Xm, Yz, Xf, Zq, SV.bd, Vc.S1.bd, At.bd, Value.oneCell', Int.reduceEq, Int.reduceNeg, Int.reduceLE, Int.reduceLT, Vc.lenOf, Yl, Xc, Z4, Vc.atK, Z6, Vc.unK, Vc.wfK, Yh, Yd, Yg, Zp, Yb, Z9, Zr, Ys, Vc.sg, Yw, Y2, Y7, Y8, Z3, Res.own, At.sub, Vc.S1.sub, SV.sub, Res.sub, Xi, Xo, Yt, Yp, Ym, Vc.frS, Kd.sz, Nat.reduceSub, ↓reduceIte, reduceCtorEq, Nat.reduceEqDiff, Nat.reduceAdd, Nat.reduceMul, Nat.reduceLeDiff, Nat.reduceLT, Nat.reduceBEq, Nat.reduceBNe, implies_true, Xp, Xb.rs, Xb.res]) | (with_reducible first | refine T.seq ?_ | refine T.block ?_ | assumption | refine And.intro ?_ ?_) | (intro h; first | (exfalso; omega) | exact (tf h ‹_›).elim | exact (tf ‹_› h).elim | skip))
  refine T.weak (S2 := ⟨[(0, .one (.a (.str s)))], [], 0⟩) (Ent.mk (id) (by simp [Za, Ze, Vc.bnd, St.get, St.find, Zd, SV.ren, Vc.S1.ren, At.ren, Res.ren, SV.bd, Vc.S1.bd, At.bd, Res.bd, Vc.upd, Vc.del, Kd.enc, Value.oneCell']) (by simp [Za, Ze, Vc.bnd, St.get, St.find, Zd, SV.ren, Vc.S1.ren, At.ren, Res.ren, SV.bd, Vc.S1.bd, At.bd, Res.bd, Vc.upd, Vc.del, Kd.enc, Value.oneCell']) (by simp [Za, Ze, Vc.bnd, St.get, St.find, Zd, SV.ren, Vc.S1.ren, At.ren, Res.ren, SV.bd, Vc.S1.bd, At.bd, Res.bd, Vc.upd, Vc.del, Kd.enc, Value.oneCell']) (by simp [Za, Ze, Vc.bnd, St.get, St.find, Zd, SV.ren, Vc.S1.ren, At.ren, Res.ren, SV.bd, Vc.S1.bd, At.bd, Res.bd, Vc.upd, Vc.del, Kd.enc, Value.oneCell'])) (Hr s hs fun S' hE => ?_)
  simp only [Yf, Zz, Z1, Vc.exK, Zm, Zj, Zg, Zh, Zx, Xn, Y1, Z0, Zl, Zi, Zy, Zk, Zn, Xk, Z7, Xj, Vc.ev, Vc.st, Vc.stq, Vc.gst, Xh, St.rd, St.get, St.put, St.find, Zd, St.new, Vc.gdc, Zs, Yr, Yo, Yq, Xg, Zv, Zt, Yj, Yi, Vc.S1.cells, Vc.upd, Vc.del, Zf, Vc.noV, Kd.enc, Kd.dec, Ins.cells, Ln.cells, Z5, Yc, Yn, Ya, Y0, Vc.rvs, Y6, Zc, Y4, Yx, Y3, Y5, Y9, Xa, Yk, Xe, Z8, Zw, Zb, Zu, Vc.kdL, Xm, Yz, Xf, Zq, SV.bd, Vc.S1.bd, At.bd, Value.oneCell', Int.reduceEq, Int.reduceNeg, Int.reduceLE, Int.reduceLT, Vc.lenOf, Yl, Xc, Z4, Vc.atK, Z6, Vc.unK, Vc.wfK, Yh, Yd, Yg, Zp, Yb, Z9, Zr, Ys, Vc.sg, Yw, Y2, Y7, Y8, Z3, Res.own, At.sub, Vc.S1.sub, SV.sub, Res.sub, Xi, Xo, Yt, Yp, Ym, Vc.frS, Kd.sz, Nat.reduceSub, ↓reduceIte, reduceCtorEq, Nat.reduceEqDiff, Nat.reduceAdd, Nat.reduceMul, Nat.reduceLeDiff, Nat.reduceLT, Nat.reduceBEq, Nat.reduceBNe, implies_true, Xp, Xb.rs]
  refine T.weak hE ?_
  repeat' (first | ((first | (with_reducible first | refine T.regs ?_ | refine T.cond ?_ | refine T.reg ?_ | refine T.ret ?_ | refine T.exit ?_ | refine T.skip ?_) | ((with_reducible first | refine T.dregs ?_ ?_ | refine T.dreg ?_ ?_ | refine T.dregts ?_ ?_ | refine T.dregt ?_ ?_ | refine T.danys ?_ ?_ | refine T.dany ?_ ?_); exact mix)); simp only [Yf, Zz, Z1, Vc.exK, Zm, Zj, Zg, Zh, Zx, Xn, Y1, Z0, Zl, Zi, Zy, Zk, Zn, Xk, Z7, Xj, Vc.ev, Vc.st, Vc.stq, Vc.gst, Xh, St.rd, St.get, St.put, St.find, Zd, St.new, Vc.gdc, Zs, Yr, Yo, Yq, Xg, Zv, Zt, Yj, Yi, Vc.S1.cells, Vc.upd, Vc.del, Zf, Vc.noV, Kd.enc, Kd.dec, Ins.cells, Ln.cells, Z5, Yc, Yn, Ya, Y0, Vc.rvs, Y6, Zc, Y4, Yx, Y3, Y5, Y9, Xa, Yk, Xe, Z8, Zw, Zb, Zu, Vc.kdL, Xm, Yz, Xf, Zq, SV.bd, Vc.S1.bd, At.bd, Value.oneCell', Int.reduceEq, Int.reduceNeg, Int.reduceLE, Int.reduceLT, Vc.lenOf, Yl, Xc, Z4, Vc.atK, Z6, Vc.unK, Vc.wfK, Yh, Yd, Yg, Zp, Yb, Z9, Zr, Ys, Vc.sg, Yw, Y2, Y7, Y8, Z3, Res.own, At.sub, Vc.S1.sub, SV.sub, Res.sub, Xi, Xo, Yt, Yp, Ym, Vc.frS, Kd.sz, Nat.reduceSub, ↓reduceIte, reduceCtorEq, Nat.reduceEqDiff, Nat.reduceAdd, Nat.reduceMul, Nat.reduceLeDiff, Nat.reduceLT, Nat.reduceBEq, Nat.reduceBNe, implies_true, Xp, Xb.rs, Xb.res]) | (with_reducible first | refine T.seq ?_ | refine T.block ?_ | assumption | refine And.intro ?_ ?_) | (intro h; first | (exfalso; omega) | exact (tf h ‹_›).elim | exact (tf ‹_› h).elim | skip))
  refine Hy _ (by omega) fun S' hE => ?_
  simp only [Yf, Zz, Z1, Vc.exK, Zm, Zj, Zg, Zh, Zx, Xn, Y1, Z0, Zl, Zi, Zy, Zk, Zn, Xk, Z7, Xj, Vc.ev, Vc.st, Vc.stq, Vc.gst, Xh, St.rd, St.get, St.put, St.find, Zd, St.new, Vc.gdc, Zs, Yr, Yo, Yq, Xg, Zv, Zt, Yj, Yi, Vc.S1.cells, Vc.upd, Vc.del, Zf, Vc.noV, Kd.enc, Kd.dec, Ins.cells, Ln.cells, Z5, Yc, Yn, Ya, Y0, Vc.rvs, Y6, Zc, Y4, Yx, Y3, Y5, Y9, Xa, Yk, Xe, Z8, Zw, Zb, Zu, Vc.kdL, Xm, Yz, Xf, Zq, SV.bd, Vc.S1.bd, At.bd, Value.oneCell', Int.reduceEq, Int.reduceNeg, Int.reduceLE, Int.reduceLT, Vc.lenOf, Yl, Xc, Z4, Vc.atK, Z6, Vc.unK, Vc.wfK, Yh, Yd, Yg, Zp, Yb, Z9, Zr, Ys, Vc.sg, Yw, Y2, Y7, Y8, Z3, Res.own, At.sub, Vc.S1.sub, SV.sub, Res.sub, Xi, Xo, Yt, Yp, Ym, Vc.frS, Kd.sz, Nat.reduceSub, ↓reduceIte, reduceCtorEq, Nat.reduceEqDiff, Nat.reduceAdd, Nat.reduceMul, Nat.reduceLeDiff, Nat.reduceLT, Nat.reduceBEq, Nat.reduceBNe, implies_true, Xp, Xb.rs]
  refine T.weak hE ?_
  repeat' (first | ((first | (with_reducible first | refine T.regs ?_ | refine T.cond ?_ | refine T.reg ?_ | refine T.ret ?_ | refine T.exit ?_ | refine T.skip ?_) | ((with_reducible first | refine T.dregs ?_ ?_ | refine T.dreg ?_ ?_ | refine T.dregts ?_ ?_ | refine T.dregt ?_ ?_ | refine T.danys ?_ ?_ | refine T.dany ?_ ?_); exact mix)); simp only [Yf, Zz, Z1, Vc.exK, Zm, Zj, Zg, Zh, Zx, Xn, Y1, Z0, Zl, Zi, Zy, Zk, Zn, Xk, Z7, Xj, Vc.ev, Vc.st, Vc.stq, Vc.gst, Xh, St.rd, St.get, St.put, St.find, Zd, St.new, Vc.gdc, Zs, Yr, Yo, Yq, Xg, Zv, Zt, Yj, Yi, Vc.S1.cells, Vc.upd, Vc.del, Zf, Vc.noV, Kd.enc, Kd.dec, Ins.cells, Ln.cells, Z5, Yc, Yn, Ya, Y0, Vc.rvs, Y6, Zc, Y4, Yx, Y3, Y5, Y9, Xa, Yk, Xe, Z8, Zw, Zb, Zu, Vc.kdL, Xm, Yz, Xf, Zq, SV.bd, Vc.S1.bd, At.bd, Value.oneCell', Int.reduceEq, Int.reduceNeg, Int.reduceLE, Int.reduceLT, Vc.lenOf, Yl, Xc, Z4, Vc.atK, Z6, Vc.unK, Vc.wfK, Yh, Yd, Yg, Zp, Yb, Z9, Zr, Ys, Vc.sg, Yw, Y2, Y7, Y8, Z3, Res.own, At.sub, Vc.S1.sub, SV.sub, Res.sub, Xi, Xo, Yt, Yp, Ym, Vc.frS, Kd.sz, Nat.reduceSub, ↓reduceIte, reduceCtorEq, Nat.reduceEqDiff, Nat.reduceAdd, Nat.reduceMul, Nat.reduceLeDiff, Nat.reduceLT, Nat.reduceBEq, Nat.reduceBNe, implies_true, Xp, Xb.rs, Xb.res]) | (with_reducible first | refine T.seq ?_ | refine T.block ?_ | assumption | refine And.intro ?_ ?_) | (intro h; first | (exfalso; omega) | exact (tf h ‹_›).elim | exact (tf ‹_› h).elim | skip))
end Go.Proofs.YtccjjcdjgibilaaDoor
namespace Go.Proofs.YtccjjcdjgibilaaDoor
open Go Go.RowKit Vc
set_option linter.unusedVariables false
set_option linter.unusedSimpArgs false
attribute [local irreducible] T Z2 Wd Ent RdC RwC Up Ye Xt
def Ke (s : List UInt8) (most : Int) : Int := match Rc s with
  | some v => if most < v then -1 else v
  | none => -1
set_option maxHeartbeats 8000000 in
set_option maxRecDepth 100000 in
theorem Hk {w : World} {X : List Nat} {fr : List Value} {Q : Exit → St → Prop} (s : List UInt8) (most : Int) (h5 : s.length ≤ 5)
    (hQ : ∀ n : Nat, Lib.decFrom 0 s = some n → ∀ S', Ent ⟨Tryd.prog, w, X, 50, fr⟩ S' ⟨[(5, .one (.a (.int .i64 (n : Int)))), (1, .one (.a (.int .i64 most)))], [], 0⟩ → Q (.exit 0) S')
    (hE : Lib.decFrom 0 s = none → ∀ S' : St, Zd S'.slots 4 = some (.one (.a (.int .i64 (-1)))) → Q .ret S') :
    T ⟨Tryd.prog, w, X, 50, fr⟩ (.loop Yy.c12) Q ⟨[(29, .one (.a (.int .i64 0))), (28, .one (.a (.int .i64 s.length))), (27, .one (.a (.ref 0))), (5, .one (.a (.int .i64 0))), (1, .one (.a (.int .i64 most)))], [(0, .ro (.int .u8) (s.map fun b => ((b.toNat : Nat) : Int)))], 1⟩ := by
  refine T.loop (ι := { p : Nat × Nat // p.1 ≤ s.length ∧ Lib.decFrom 0 (s.take p.1) = some p.2 })
    (fun x => ⟨[(29, .one (.a (.int .i64 (x.1.1 : Int)))), (28, .one (.a (.int .i64 s.length))), (27, .one (.a (.ref 0))), (5, .one (.a (.int .i64 (x.1.2 : Int)))), (1, .one (.a (.int .i64 most)))], [(0, .ro (.int .u8) (s.map fun b => ((b.toNat : Nat) : Int)))], 1⟩) (fun x => s.length - x.1.1) ⟨(0, 0), by simp, rfl⟩ (Ent.mk (id) (by simp [Za, Ze, Vc.bnd, St.get, St.find, Zd, SV.ren, Vc.S1.ren, At.ren, Res.ren, SV.bd, Vc.S1.bd, At.bd, Res.bd, Vc.upd, Vc.del, Kd.enc, Value.oneCell']) (by simp [Za, Ze, Vc.bnd, St.get, St.find, Zd, SV.ren, Vc.S1.ren, At.ren, Res.ren, SV.bd, Vc.S1.bd, At.bd, Res.bd, Vc.upd, Vc.del, Kd.enc, Value.oneCell']) (by simp [Za, Ze, Vc.bnd, St.get, St.find, Zd, SV.ren, Vc.S1.ren, At.ren, Res.ren, SV.bd, Vc.S1.bd, At.bd, Res.bd, Vc.upd, Vc.del, Kd.enc, Value.oneCell']) (by simp [Za, Ze, Vc.bnd, St.get, St.find, Zd, SV.ren, Vc.S1.ren, At.ren, Res.ren, SV.bd, Vc.S1.bd, At.bd, Res.bd, Vc.upd, Vc.del, Kd.enc, Value.oneCell'])) ?_
  rintro ⟨⟨i, n⟩, hi, hd⟩
  simp only at hi hd
  have hn := Lib.decFrom_lt _ 0 n hd
  have hnl : n < 1000000 := by
    have h1 : (s.take i).length ≤ 5 := by simp; omega
    have : (10 : Nat) ^ (s.take i).length ≤ 10 ^ 5 := Nat.pow_le_pow_right (by decide) h1
    omega
  by_cases hlt : i < s.length
  · have hw : IntKind.i64.wrap ((i : Int) + 1) = ((i + 1 : Nat) : Int) := We (by omega)
    have ht : ((i : Int)).toNat = i := by omega
    generalize hb : s[i] = b
    have hg : s[i]? = some b := by rw [List.getElem?_eq_getElem hlt, hb]
    have hget : (s.map fun b => ((b.toNat : Nat) : Int)).getD i (Kd.int .u8).dflt = ((b.toNat : Nat) : Int) := by simp [List.getD, hlt, hb]
    have hbl := b.toNat_lt
    by_cases hdig : 48 ≤ b.toNat ∧ b.toNat ≤ 57
    · have hv : Lib.digitVal b = some (b.toNat - 48) := by unfold Lib.digitVal; rw [if_pos hdig]
      have hst := Lib.decFrom_take s i 0 n b _ hd hg hv
      have c1 : ¬ ((b.toNat : Nat) : Int) < 48 := by omega
      have c2 : ¬ (57 : Int) < ((b.toNat : Nat) : Int) := by omega
      have a1 : IntKind.i64.wrap (10 * (n : Int)) = 10 * (n : Int) := Vv (by omega) (by omega)
      have a2 : IntKind.u8.wrap (((b.toNat : Nat) : Int) - 48) = ((b.toNat : Nat) : Int) - 48 := by rw [IntKind.wrap_u8]; omega
      have a3 : IntKind.i64.wrap (((b.toNat : Nat) : Int) - 48) = ((b.toNat : Nat) : Int) - 48 := Vv (by omega) (by omega)
      have a4 : IntKind.i64.wrap (10 * (n : Int) + (((b.toNat : Nat) : Int) - 48)) = ((n * 10 + (b.toNat - 48) : Nat) : Int) := by rw [Vv (by omega) (by omega)]; omega
      repeat' (first | ((first | (with_reducible first | refine T.regs ?_ | refine T.cond ?_ | refine T.reg ?_ | refine T.ret ?_ | refine T.exit ?_ | refine T.skip ?_) | ((with_reducible first | refine T.dregs ?_ ?_ | refine T.dreg ?_ ?_ | refine T.dregts ?_ ?_ | refine T.dregt ?_ ?_ | refine T.danys ?_ ?_ | refine T.dany ?_ ?_); exact mix) | (with_reducible refine Ye.split ?_ ?_) | (with_reducible refine Xt.no ?_)) <;> simp only [Yf, Zz, Z1, Vc.exK, Zm, Zj, Zg, Zh, Zx, Xn, Y1, Z0, Zl, Zi, Zy, Zk, Zn, Xk, Z7, Xj, Vc.ev, Vc.st, Vc.stq, Vc.gst, Xh, St.rd, St.get, St.put, St.find, Zd, St.new, Vc.gdc, Zs, Yr, Yo, Yq, Xg, Zv, Zt, Yj, Yi, Vc.S1.cells, Vc.upd, Vc.del, Zf, Vc.noV, Kd.enc, Kd.dec, Ins.cells, Ln.cells, Z5, Yc, Yn, Ya, Y0, Vc.rvs, Y6, Zc, Y4, Yx, Y3, Y5, Y9, Xa, Yk, Xe, Z8, Zw, Zb, Zu, Vc.kdL, Xm, Yz, Xf, Zq, SV.bd, Vc.S1.bd, At.bd, Value.oneCell', Int.reduceEq, Int.reduceNeg, Int.reduceLE, Int.reduceLT, Vc.lenOf, Yl, Xc, Z4, Vc.atK, Z6, Vc.unK, Vc.wfK, Yh, Yd, Yg, Zp, Yb, Z9, Zr, Ys, Vc.sg, Yw, Y2, Y7, Y8, Z3, Res.own, At.sub, Vc.S1.sub, SV.sub, Res.sub, Xi, Xo, Yt, Yp, Ym, Vc.frS, Kd.sz, Nat.reduceSub, ↓reduceIte, reduceCtorEq, Nat.reduceEqDiff, Nat.reduceAdd, Nat.reduceMul, Nat.reduceLeDiff, Nat.reduceLT, Nat.reduceBEq, Nat.reduceBNe, implies_true, Xp, Yy.rs, Yy.res, hw, ht, hget, c1, c2, a1, a2, a3, a4, Int.ofNat_lt, List.length_map]) | (with_reducible first | refine T.seq ?_ | refine T.block ?_ | assumption | refine And.intro ?_ ?_) | (intro h; first | (exfalso; omega) | exact (tf h ‹_›).elim | exact (tf ‹_› h).elim | skip))
      all_goals first | omega | skip
      exact ⟨⟨(i + 1, n * 10 + (b.toNat - 48)), hlt, hst⟩, (Ent.mk (id) (by simp [Za, Ze, Vc.bnd, St.get, St.find, Zd, SV.ren, Vc.S1.ren, At.ren, Res.ren, SV.bd, Vc.S1.bd, At.bd, Res.bd, Vc.upd, Vc.del, Kd.enc, Value.oneCell', hw]) (by simp [Za, Ze, Vc.bnd, St.get, St.find, Zd, SV.ren, Vc.S1.ren, At.ren, Res.ren, SV.bd, Vc.S1.bd, At.bd, Res.bd, Vc.upd, Vc.del, Kd.enc, Value.oneCell', hw]) (by simp [Za, Ze, Vc.bnd, St.get, St.find, Zd, SV.ren, Vc.S1.ren, At.ren, Res.ren, SV.bd, Vc.S1.bd, At.bd, Res.bd, Vc.upd, Vc.del, Kd.enc, Value.oneCell', hw]) (by simp [Za, Ze, Vc.bnd, St.get, St.find, Zd, SV.ren, Vc.S1.ren, At.ren, Res.ren, SV.bd, Vc.S1.bd, At.bd, Res.bd, Vc.upd, Vc.del, Kd.enc, Value.oneCell', hw])), by simp only; omega⟩
    · have hno : Lib.decFrom 0 s = none := by
        cases hz : Lib.decFrom 0 s with
        | none => rfl
        | some v =>
          obtain ⟨d, hd2⟩ := Lib.digit_of_decFrom s 0 v hz i b hg
          have := Lib.digitVal_eq hd2
          omega
      by_cases c1 : ((b.toNat : Nat) : Int) < 48
      · repeat' (first | ((first | (with_reducible first | refine T.regs ?_ | refine T.cond ?_ | refine T.reg ?_ | refine T.ret ?_ | refine T.exit ?_ | refine T.skip ?_) | ((with_reducible first | refine T.dregs ?_ ?_ | refine T.dreg ?_ ?_ | refine T.dregts ?_ ?_ | refine T.dregt ?_ ?_ | refine T.danys ?_ ?_ | refine T.dany ?_ ?_); exact mix) | (with_reducible refine Ye.split ?_ ?_) | (with_reducible refine Xt.no ?_)) <;> simp only [Yf, Zz, Z1, Vc.exK, Zm, Zj, Zg, Zh, Zx, Xn, Y1, Z0, Zl, Zi, Zy, Zk, Zn, Xk, Z7, Xj, Vc.ev, Vc.st, Vc.stq, Vc.gst, Xh, St.rd, St.get, St.put, St.find, Zd, St.new, Vc.gdc, Zs, Yr, Yo, Yq, Xg, Zv, Zt, Yj, Yi, Vc.S1.cells, Vc.upd, Vc.del, Zf, Vc.noV, Kd.enc, Kd.dec, Ins.cells, Ln.cells, Z5, Yc, Yn, Ya, Y0, Vc.rvs, Y6, Zc, Y4, Yx, Y3, Y5, Y9, Xa, Yk, Xe, Z8, Zw, Zb, Zu, Vc.kdL, Xm, Yz, Xf, Zq, SV.bd, Vc.S1.bd, At.bd, Value.oneCell', Int.reduceEq, Int.reduceNeg, Int.reduceLE, Int.reduceLT, Vc.lenOf, Yl, Xc, Z4, Vc.atK, Z6, Vc.unK, Vc.wfK, Yh, Yd, Yg, Zp, Yb, Z9, Zr, Ys, Vc.sg, Yw, Y2, Y7, Y8, Z3, Res.own, At.sub, Vc.S1.sub, SV.sub, Res.sub, Xi, Xo, Yt, Yp, Ym, Vc.frS, Kd.sz, Nat.reduceSub, ↓reduceIte, reduceCtorEq, Nat.reduceEqDiff, Nat.reduceAdd, Nat.reduceMul, Nat.reduceLeDiff, Nat.reduceLT, Nat.reduceBEq, Nat.reduceBNe, implies_true, Xp, Yy.rs, Yy.res, hw, ht, hget, c1, Int.ofNat_lt, List.length_map]) | (with_reducible first | refine T.seq ?_ | refine T.block ?_ | assumption | refine And.intro ?_ ?_) | (intro h; first | (exfalso; omega) | exact (tf h ‹_›).elim | exact (tf ‹_› h).elim | skip))
        all_goals first | omega | skip
        exact hE hno _ rfl
      · have c2 : (57 : Int) < ((b.toNat : Nat) : Int) := by omega
        repeat' (first | ((first | (with_reducible first | refine T.regs ?_ | refine T.cond ?_ | refine T.reg ?_ | refine T.ret ?_ | refine T.exit ?_ | refine T.skip ?_) | ((with_reducible first | refine T.dregs ?_ ?_ | refine T.dreg ?_ ?_ | refine T.dregts ?_ ?_ | refine T.dregt ?_ ?_ | refine T.danys ?_ ?_ | refine T.dany ?_ ?_); exact mix) | (with_reducible refine Ye.split ?_ ?_) | (with_reducible refine Xt.no ?_)) <;> simp only [Yf, Zz, Z1, Vc.exK, Zm, Zj, Zg, Zh, Zx, Xn, Y1, Z0, Zl, Zi, Zy, Zk, Zn, Xk, Z7, Xj, Vc.ev, Vc.st, Vc.stq, Vc.gst, Xh, St.rd, St.get, St.put, St.find, Zd, St.new, Vc.gdc, Zs, Yr, Yo, Yq, Xg, Zv, Zt, Yj, Yi, Vc.S1.cells, Vc.upd, Vc.del, Zf, Vc.noV, Kd.enc, Kd.dec, Ins.cells, Ln.cells, Z5, Yc, Yn, Ya, Y0, Vc.rvs, Y6, Zc, Y4, Yx, Y3, Y5, Y9, Xa, Yk, Xe, Z8, Zw, Zb, Zu, Vc.kdL, Xm, Yz, Xf, Zq, SV.bd, Vc.S1.bd, At.bd, Value.oneCell', Int.reduceEq, Int.reduceNeg, Int.reduceLE, Int.reduceLT, Vc.lenOf, Yl, Xc, Z4, Vc.atK, Z6, Vc.unK, Vc.wfK, Yh, Yd, Yg, Zp, Yb, Z9, Zr, Ys, Vc.sg, Yw, Y2, Y7, Y8, Z3, Res.own, At.sub, Vc.S1.sub, SV.sub, Res.sub, Xi, Xo, Yt, Yp, Ym, Vc.frS, Kd.sz, Nat.reduceSub, ↓reduceIte, reduceCtorEq, Nat.reduceEqDiff, Nat.reduceAdd, Nat.reduceMul, Nat.reduceLeDiff, Nat.reduceLT, Nat.reduceBEq, Nat.reduceBNe, implies_true, Xp, Yy.rs, Yy.res, hw, ht, hget, c1, c2, Int.ofNat_lt, List.length_map]) | (with_reducible first | refine T.seq ?_ | refine T.block ?_ | assumption | refine And.intro ?_ ?_) | (intro h; first | (exfalso; omega) | exact (tf h ‹_›).elim | exact (tf ‹_› h).elim | skip))
        all_goals first | omega | skip
        exact hE hno _ rfl
  · have hk : i = s.length := by omega
    rw [hk, List.take_length] at hd
    repeat' (first | ((first | (with_reducible first | refine T.regs ?_ | refine T.cond ?_ | refine T.reg ?_ | refine T.ret ?_ | refine T.exit ?_ | refine T.skip ?_) | ((with_reducible first | refine T.dregs ?_ ?_ | refine T.dreg ?_ ?_ | refine T.dregts ?_ ?_ | refine T.dregt ?_ ?_ | refine T.danys ?_ ?_ | refine T.dany ?_ ?_); exact mix) | (with_reducible refine Ye.split ?_ ?_) | (with_reducible refine Xt.no ?_)) <;> simp only [Yf, Zz, Z1, Vc.exK, Zm, Zj, Zg, Zh, Zx, Xn, Y1, Z0, Zl, Zi, Zy, Zk, Zn, Xk, Z7, Xj, Vc.ev, Vc.st, Vc.stq, Vc.gst, Xh, St.rd, St.get, St.put, St.find, Zd, St.new, Vc.gdc, Zs, Yr, Yo, Yq, Xg, Zv, Zt, Yj, Yi, Vc.S1.cells, Vc.upd, Vc.del, Zf, Vc.noV, Kd.enc, Kd.dec, Ins.cells, Ln.cells, Z5, Yc, Yn, Ya, Y0, Vc.rvs, Y6, Zc, Y4, Yx, Y3, Y5, Y9, Xa, Yk, Xe, Z8, Zw, Zb, Zu, Vc.kdL, Xm, Yz, Xf, Zq, SV.bd, Vc.S1.bd, At.bd, Value.oneCell', Int.reduceEq, Int.reduceNeg, Int.reduceLE, Int.reduceLT, Vc.lenOf, Yl, Xc, Z4, Vc.atK, Z6, Vc.unK, Vc.wfK, Yh, Yd, Yg, Zp, Yb, Z9, Zr, Ys, Vc.sg, Yw, Y2, Y7, Y8, Z3, Res.own, At.sub, Vc.S1.sub, SV.sub, Res.sub, Xi, Xo, Yt, Yp, Ym, Vc.frS, Kd.sz, Nat.reduceSub, ↓reduceIte, reduceCtorEq, Nat.reduceEqDiff, Nat.reduceAdd, Nat.reduceMul, Nat.reduceLeDiff, Nat.reduceLT, Nat.reduceBEq, Nat.reduceBNe, implies_true, Xp, Yy.rs, Yy.res, hk, Int.ofNat_lt]) | (with_reducible first | refine T.seq ?_ | refine T.block ?_ | assumption | refine And.intro ?_ ?_) | (intro h; first | (exfalso; omega) | exact (tf h ‹_›).elim | exact (tf ‹_› h).elim | skip))
    all_goals first | omega | skip
    exact hQ n hd _ (Ent.mk (id) (by simp [Za, Ze, Vc.bnd, St.get, St.find, Zd, SV.ren, Vc.S1.ren, At.ren, Res.ren, SV.bd, Vc.S1.bd, At.bd, Res.bd, Vc.upd, Vc.del, Kd.enc, Value.oneCell']) (by simp [Za, Ze, Vc.bnd, St.get, St.find, Zd, SV.ren, Vc.S1.ren, At.ren, Res.ren, SV.bd, Vc.S1.bd, At.bd, Res.bd, Vc.upd, Vc.del, Kd.enc, Value.oneCell']) (by simp [Za, Ze, Vc.bnd, St.get, St.find, Zd, SV.ren, Vc.S1.ren, At.ren, Res.ren, SV.bd, Vc.S1.bd, At.bd, Res.bd, Vc.upd, Vc.del, Kd.enc, Value.oneCell']) (by simp [Za, Ze, Vc.bnd, St.get, St.find, Zd, SV.ren, Vc.S1.ren, At.ren, Res.ren, SV.bd, Vc.S1.bd, At.bd, Res.bd, Vc.upd, Vc.del, Kd.enc, Value.oneCell']))
set_option maxHeartbeats 8000000 in
set_option maxRecDepth 100000 in
theorem Sg (s : List UInt8) (most : Int) (hs : s.length ≤ 9223372036854775807) :
    RdC Tryd.prog 67 [.v (.a (.str s)), .v (.a (.int .i64 most))] (.one (.a (.int .i64 (Ke s most)))) := by
  refine Yy.fn.rd (by simp) (by repeat' (first | exact rfl | exact trivial | refine And.intro ?_ ?_ | (simp [SV.bd, Vc.S1.bd, At.bd, Zq, Yv, Ins.cells, Ln.cells]; done))) (by repeat' (first | exact rfl | exact trivial | refine And.intro ?_ ?_ | (simp [SV.bd, Vc.S1.bd, At.bd, Zq, Yv, Ins.cells, Ln.cells]; done))) fun w => ?_
  generalize hR : Ke s most = R
  unfold Ke at hR
  by_cases hbad : s = [] ∨ 5 < s.length ∨ (1 < s.length ∧ s.getD 0 0 = 48)
  · have e : Rc s = none := by unfold Rc; rw [if_pos hbad]
    rw [e] at hR
    subst hR
    by_cases h0 : s = []
    · subst h0
      repeat' (first | ((first | (with_reducible first | refine T.regs ?_ | refine T.cond ?_ | refine T.reg ?_ | refine T.ret ?_ | refine T.exit ?_ | refine T.skip ?_) | ((with_reducible first | refine T.dregs ?_ ?_ | refine T.dreg ?_ ?_ | refine T.dregts ?_ ?_ | refine T.dregt ?_ ?_ | refine T.danys ?_ ?_ | refine T.dany ?_ ?_); exact mix) | (with_reducible refine Ye.split ?_ ?_) | (with_reducible refine Xt.no ?_)) <;> simp only [Yf, Zz, Z1, Vc.exK, Zm, Zj, Zg, Zh, Zx, Xn, Y1, Z0, Zl, Zi, Zy, Zk, Zn, Xk, Z7, Xj, Vc.ev, Vc.st, Vc.stq, Vc.gst, Xh, St.rd, St.get, St.put, St.find, Zd, St.new, Vc.gdc, Zs, Yr, Yo, Yq, Xg, Zv, Zt, Yj, Yi, Vc.S1.cells, Vc.upd, Vc.del, Zf, Vc.noV, Kd.enc, Kd.dec, Ins.cells, Ln.cells, Z5, Yc, Yn, Ya, Y0, Vc.rvs, Y6, Zc, Y4, Yx, Y3, Y5, Y9, Xa, Yk, Xe, Z8, Zw, Zb, Zu, Vc.kdL, Xm, Yz, Xf, Zq, SV.bd, Vc.S1.bd, At.bd, Value.oneCell', Int.reduceEq, Int.reduceNeg, Int.reduceLE, Int.reduceLT, Vc.lenOf, Yl, Xc, Z4, Vc.atK, Z6, Vc.unK, Vc.wfK, Yh, Yd, Yg, Zp, Yb, Z9, Zr, Ys, Vc.sg, Yw, Y2, Y7, Y8, Z3, Res.own, At.sub, Vc.S1.sub, SV.sub, Res.sub, Xi, Xo, Yt, Yp, Ym, Vc.frS, Kd.sz, Nat.reduceSub, ↓reduceIte, reduceCtorEq, Nat.reduceEqDiff, Nat.reduceAdd, Nat.reduceMul, Nat.reduceLeDiff, Nat.reduceLT, Nat.reduceBEq, Nat.reduceBNe, implies_true, Xp, Yy.rs, Yy.res]) | (with_reducible first | refine T.seq ?_ | refine T.block ?_ | assumption | refine And.intro ?_ ?_) | (intro h; first | (exfalso; omega) | exact (tf h ‹_›).elim | exact (tf ‹_› h).elim | skip))
      all_goals first | omega | (exfalso; simp_all; done) | skip
    have hl0 : ¬ (s.length : Int) = 0 := by have := List.length_pos_iff.2 h0; omega
    by_cases h5 : 5 < s.length
    · have h5' : (5 : Int) < s.length := by omega
      repeat' (first | ((first | (with_reducible first | refine T.regs ?_ | refine T.cond ?_ | refine T.reg ?_ | refine T.ret ?_ | refine T.exit ?_ | refine T.skip ?_) | ((with_reducible first | refine T.dregs ?_ ?_ | refine T.dreg ?_ ?_ | refine T.dregts ?_ ?_ | refine T.dregt ?_ ?_ | refine T.danys ?_ ?_ | refine T.dany ?_ ?_); exact mix) | (with_reducible refine Ye.split ?_ ?_) | (with_reducible refine Xt.no ?_)) <;> simp only [Yf, Zz, Z1, Vc.exK, Zm, Zj, Zg, Zh, Zx, Xn, Y1, Z0, Zl, Zi, Zy, Zk, Zn, Xk, Z7, Xj, Vc.ev, Vc.st, Vc.stq, Vc.gst, Xh, St.rd, St.get, St.put, St.find, Zd, St.new, Vc.gdc, Zs, Yr, Yo, Yq, Xg, Zv, Zt, Yj, Yi, Vc.S1.cells, Vc.upd, Vc.del, Zf, Vc.noV, Kd.enc, Kd.dec, Ins.cells, Ln.cells, Z5, Yc, Yn, Ya, Y0, Vc.rvs, Y6, Zc, Y4, Yx, Y3, Y5, Y9, Xa, Yk, Xe, Z8, Zw, Zb, Zu, Vc.kdL, Xm, Yz, Xf, Zq, SV.bd, Vc.S1.bd, At.bd, Value.oneCell', Int.reduceEq, Int.reduceNeg, Int.reduceLE, Int.reduceLT, Vc.lenOf, Yl, Xc, Z4, Vc.atK, Z6, Vc.unK, Vc.wfK, Yh, Yd, Yg, Zp, Yb, Z9, Zr, Ys, Vc.sg, Yw, Y2, Y7, Y8, Z3, Res.own, At.sub, Vc.S1.sub, SV.sub, Res.sub, Xi, Xo, Yt, Yp, Ym, Vc.frS, Kd.sz, Nat.reduceSub, ↓reduceIte, reduceCtorEq, Nat.reduceEqDiff, Nat.reduceAdd, Nat.reduceMul, Nat.reduceLeDiff, Nat.reduceLT, Nat.reduceBEq, Nat.reduceBNe, implies_true, Xp, Yy.rs, Yy.res, hl0, h5', Int.ofNat_lt]) | (with_reducible first | refine T.seq ?_ | refine T.block ?_ | assumption | refine And.intro ?_ ?_) | (intro h; first | (exfalso; omega) | exact (tf h ‹_›).elim | exact (tf ‹_› h).elim | skip))
      all_goals first | omega | (exfalso; simp_all; done) | skip
    have h5' : ¬ (5 : Int) < s.length := by omega
    have h3 : 1 < s.length ∧ s.getD 0 0 = 48 := by
      rcases hbad with h | h | h
      · exact absurd h h0
      · exact absurd h h5
      · exact h
    have h7 : (1 : Int) < s.length := by omega
    have h9 : X7 s (0 : Int).toNat = 48 := by show X7 s 0 = 48; unfold X7; rw [h3.2]; rfl
    repeat' (first | ((first | (with_reducible first | refine T.regs ?_ | refine T.cond ?_ | refine T.reg ?_ | refine T.ret ?_ | refine T.exit ?_ | refine T.skip ?_) | ((with_reducible first | refine T.dregs ?_ ?_ | refine T.dreg ?_ ?_ | refine T.dregts ?_ ?_ | refine T.dregt ?_ ?_ | refine T.danys ?_ ?_ | refine T.dany ?_ ?_); exact mix) | (with_reducible refine Ye.split ?_ ?_) | (with_reducible refine Xt.no ?_)) <;> simp only [Yf, Zz, Z1, Vc.exK, Zm, Zj, Zg, Zh, Zx, Xn, Y1, Z0, Zl, Zi, Zy, Zk, Zn, Xk, Z7, Xj, Vc.ev, Vc.st, Vc.stq, Vc.gst, Xh, St.rd, St.get, St.put, St.find, Zd, St.new, Vc.gdc, Zs, Yr, Yo, Yq, Xg, Zv, Zt, Yj, Yi, Vc.S1.cells, Vc.upd, Vc.del, Zf, Vc.noV, Kd.enc, Kd.dec, Ins.cells, Ln.cells, Z5, Yc, Yn, Ya, Y0, Vc.rvs, Y6, Zc, Y4, Yx, Y3, Y5, Y9, Xa, Yk, Xe, Z8, Zw, Zb, Zu, Vc.kdL, Xm, Yz, Xf, Zq, SV.bd, Vc.S1.bd, At.bd, Value.oneCell', Int.reduceEq, Int.reduceNeg, Int.reduceLE, Int.reduceLT, Vc.lenOf, Yl, Xc, Z4, Vc.atK, Z6, Vc.unK, Vc.wfK, Yh, Yd, Yg, Zp, Yb, Z9, Zr, Ys, Vc.sg, Yw, Y2, Y7, Y8, Z3, Res.own, At.sub, Vc.S1.sub, SV.sub, Res.sub, Xi, Xo, Yt, Yp, Ym, Vc.frS, Kd.sz, Nat.reduceSub, ↓reduceIte, reduceCtorEq, Nat.reduceEqDiff, Nat.reduceAdd, Nat.reduceMul, Nat.reduceLeDiff, Nat.reduceLT, Nat.reduceBEq, Nat.reduceBNe, implies_true, Xp, Yy.rs, Yy.res, hl0, h5', h7, h9, Int.ofNat_lt]) | (with_reducible first | refine T.seq ?_ | refine T.block ?_ | assumption | refine And.intro ?_ ?_) | (intro h; first | (exfalso; omega) | exact (tf h ‹_›).elim | exact (tf ‹_› h).elim | skip))
    all_goals first | omega | (exfalso; simp_all; done) | skip
  · have e : Rc s = Lib.decNat s := by unfold Rc; rw [if_neg hbad]
    simp only [not_or] at hbad
    obtain ⟨h0, h5, h3⟩ := hbad
    have hl0 : ¬ (s.length : Int) = 0 := by have := List.length_pos_iff.2 h0; omega
    have h5' : ¬ (5 : Int) < s.length := by omega
    have hem : s.isEmpty = false := by cases s with | nil => exact absurd rfl h0 | cons _ _ => rfl
    have e2 : Lib.decNat s = Lib.decFrom 0 s := by unfold Lib.decNat; rw [hem]; rfl
    rw [e, e2] at hR
    have h8 : 1 < s.length → ¬ X7 s (0 : Int).toNat = 48 := by
      intro h6 e
      refine h3 ⟨h6, ?_⟩
      have e' : X7 s 0 = 48 := e
      unfold X7 at e'
      have : (s.getD 0 0).toNat = 48 := by omega
      exact UInt8.toNat_inj.1 this
    have h1c : ¬ (1 : Int) < s.length ∨ ¬ X7 s (0 : Int).toNat = 48 := by
      by_cases h : 1 < s.length
      · exact .inr (h8 h)
      · exact .inl (by omega)
    rcases h1c with hq | hq
    all_goals
      repeat' (first | ((first | (with_reducible first | refine T.regs ?_ | refine T.cond ?_ | refine T.reg ?_ | refine T.ret ?_ | refine T.exit ?_ | refine T.skip ?_) | ((with_reducible first | refine T.dregs ?_ ?_ | refine T.dreg ?_ ?_ | refine T.dregts ?_ ?_ | refine T.dregt ?_ ?_ | refine T.danys ?_ ?_ | refine T.dany ?_ ?_); exact mix) | (with_reducible refine Ye.split ?_ ?_) | (with_reducible refine Xt.no ?_)) <;> simp only [Yf, Zz, Z1, Vc.exK, Zm, Zj, Zg, Zh, Zx, Xn, Y1, Z0, Zl, Zi, Zy, Zk, Zn, Xk, Z7, Xj, Vc.ev, Vc.st, Vc.stq, Vc.gst, Xh, St.rd, St.get, St.put, St.find, Zd, St.new, Vc.gdc, Zs, Yr, Yo, Yq, Xg, Zv, Zt, Yj, Yi, Vc.S1.cells, Vc.upd, Vc.del, Zf, Vc.noV, Kd.enc, Kd.dec, Ins.cells, Ln.cells, Z5, Yc, Yn, Ya, Y0, Vc.rvs, Y6, Zc, Y4, Yx, Y3, Y5, Y9, Xa, Yk, Xe, Z8, Zw, Zb, Zu, Vc.kdL, Xm, Yz, Xf, Zq, SV.bd, Vc.S1.bd, At.bd, Value.oneCell', Int.reduceEq, Int.reduceNeg, Int.reduceLE, Int.reduceLT, Vc.lenOf, Yl, Xc, Z4, Vc.atK, Z6, Vc.unK, Vc.wfK, Yh, Yd, Yg, Zp, Yb, Z9, Zr, Ys, Vc.sg, Yw, Y2, Y7, Y8, Z3, Res.own, At.sub, Vc.S1.sub, SV.sub, Res.sub, Xi, Xo, Yt, Yp, Ym, Vc.frS, Kd.sz, Nat.reduceSub, ↓reduceIte, reduceCtorEq, Nat.reduceEqDiff, Nat.reduceAdd, Nat.reduceMul, Nat.reduceLeDiff, Nat.reduceLT, Nat.reduceBEq, Nat.reduceBNe, implies_true, Xp, Yy.rs, Yy.res, hl0, h5', hq, Int.ofNat_lt, List.length_map]) | (with_reducible first | refine T.seq ?_ | refine T.block ?_ | assumption | refine And.intro ?_ ?_) | (intro h; first | (exfalso; omega) | exact (tf h ‹_›).elim | exact (tf ‹_› h).elim | skip))
    all_goals first | omega | (exfalso; simp_all; done) | skip
    all_goals
      first | refine T.block ?_ | skip
      refine T.weak (S2 := ⟨[(29, .one (.a (.int .i64 0))), (28, .one (.a (.int .i64 s.length))), (27, .one (.a (.ref 0))), (5, .one (.a (.int .i64 0))), (1, .one (.a (.int .i64 most)))], [(0, .ro (.int .u8) (s.map fun b => ((b.toNat : Nat) : Int)))], 1⟩) (Ent.mk (id) (by simp [Za, Ze, Vc.bnd, St.get, St.find, Zd, SV.ren, Vc.S1.ren, At.ren, Res.ren, SV.bd, Vc.S1.bd, At.bd, Res.bd, Vc.upd, Vc.del, Kd.enc, Value.oneCell']) (by simp [Za, Ze, Vc.bnd, St.get, St.find, Zd, SV.ren, Vc.S1.ren, At.ren, Res.ren, SV.bd, Vc.S1.bd, At.bd, Res.bd, Vc.upd, Vc.del, Kd.enc, Value.oneCell']) (by simp [Za, Ze, Vc.bnd, St.get, St.find, Zd, SV.ren, Vc.S1.ren, At.ren, Res.ren, SV.bd, Vc.S1.bd, At.bd, Res.bd, Vc.upd, Vc.del, Kd.enc, Value.oneCell']) (by simp [Za, Ze, Vc.bnd, St.get, St.find, Zd, SV.ren, Vc.S1.ren, At.ren, Res.ren, SV.bd, Vc.S1.bd, At.bd, Res.bd, Vc.upd, Vc.del, Kd.enc, Value.oneCell'])) (Hk s most (by omega) (fun n hn S' hE => ?_) (fun hn S' hE => ?_))
      · rw [hn] at hR
        simp only at hR
        simp only [Yf, Zz, Z1, Vc.exK, Zm, Zj, Zg, Zh, Zx, Xn, Y1, Z0, Zl, Zi, Zy, Zk, Zn, Xk, Z7, Xj, Vc.ev, Vc.st, Vc.stq, Vc.gst, Xh, St.rd, St.get, St.put, St.find, Zd, St.new, Vc.gdc, Zs, Yr, Yo, Yq, Xg, Zv, Zt, Yj, Yi, Vc.S1.cells, Vc.upd, Vc.del, Zf, Vc.noV, Kd.enc, Kd.dec, Ins.cells, Ln.cells, Z5, Yc, Yn, Ya, Y0, Vc.rvs, Y6, Zc, Y4, Yx, Y3, Y5, Y9, Xa, Yk, Xe, Z8, Zw, Zb, Zu, Vc.kdL, Xm, Yz, Xf, Zq, SV.bd, Vc.S1.bd, At.bd, Value.oneCell', Int.reduceEq, Int.reduceNeg, Int.reduceLE, Int.reduceLT, Vc.lenOf, Yl, Xc, Z4, Vc.atK, Z6, Vc.unK, Vc.wfK, Yh, Yd, Yg, Zp, Yb, Z9, Zr, Ys, Vc.sg, Yw, Y2, Y7, Y8, Z3, Res.own, At.sub, Vc.S1.sub, SV.sub, Res.sub, Xi, Xo, Yt, Yp, Ym, Vc.frS, Kd.sz, Nat.reduceSub, ↓reduceIte, reduceCtorEq, Nat.reduceEqDiff, Nat.reduceAdd, Nat.reduceMul, Nat.reduceLeDiff, Nat.reduceLT, Nat.reduceBEq, Nat.reduceBNe, implies_true, Xp, Yy.rs]
        refine T.weak hE ?_
        by_cases hm : most < (n : Int)
        · rw [if_pos hm] at hR
          subst hR
          repeat' (first | ((first | (with_reducible first | refine T.regs ?_ | refine T.cond ?_ | refine T.reg ?_ | refine T.ret ?_ | refine T.exit ?_ | refine T.skip ?_) | ((with_reducible first | refine T.dregs ?_ ?_ | refine T.dreg ?_ ?_ | refine T.dregts ?_ ?_ | refine T.dregt ?_ ?_ | refine T.danys ?_ ?_ | refine T.dany ?_ ?_); exact mix)); simp only [Yf, Zz, Z1, Vc.exK, Zm, Zj, Zg, Zh, Zx, Xn, Y1, Z0, Zl, Zi, Zy, Zk, Zn, Xk, Z7, Xj, Vc.ev, Vc.st, Vc.stq, Vc.gst, Xh, St.rd, St.get, St.put, St.find, Zd, St.new, Vc.gdc, Zs, Yr, Yo, Yq, Xg, Zv, Zt, Yj, Yi, Vc.S1.cells, Vc.upd, Vc.del, Zf, Vc.noV, Kd.enc, Kd.dec, Ins.cells, Ln.cells, Z5, Yc, Yn, Ya, Y0, Vc.rvs, Y6, Zc, Y4, Yx, Y3, Y5, Y9, Xa, Yk, Xe, Z8, Zw, Zb, Zu, Vc.kdL, Xm, Yz, Xf, Zq, SV.bd, Vc.S1.bd, At.bd, Value.oneCell', Int.reduceEq, Int.reduceNeg, Int.reduceLE, Int.reduceLT, Vc.lenOf, Yl, Xc, Z4, Vc.atK, Z6, Vc.unK, Vc.wfK, Yh, Yd, Yg, Zp, Yb, Z9, Zr, Ys, Vc.sg, Yw, Y2, Y7, Y8, Z3, Res.own, At.sub, Vc.S1.sub, SV.sub, Res.sub, Xi, Xo, Yt, Yp, Ym, Vc.frS, Kd.sz, Nat.reduceSub, ↓reduceIte, reduceCtorEq, Nat.reduceEqDiff, Nat.reduceAdd, Nat.reduceMul, Nat.reduceLeDiff, Nat.reduceLT, Nat.reduceBEq, Nat.reduceBNe, implies_true, Xp, Yy.rs, Yy.res, hm]) | (with_reducible first | refine T.seq ?_ | refine T.block ?_ | assumption | refine And.intro ?_ ?_) | (intro h; first | (exfalso; omega) | exact (tf h ‹_›).elim | exact (tf ‹_› h).elim | skip))
          all_goals first | omega | skip
        · rw [if_neg hm] at hR
          subst hR
          repeat' (first | ((first | (with_reducible first | refine T.regs ?_ | refine T.cond ?_ | refine T.reg ?_ | refine T.ret ?_ | refine T.exit ?_ | refine T.skip ?_) | ((with_reducible first | refine T.dregs ?_ ?_ | refine T.dreg ?_ ?_ | refine T.dregts ?_ ?_ | refine T.dregt ?_ ?_ | refine T.danys ?_ ?_ | refine T.dany ?_ ?_); exact mix)); simp only [Yf, Zz, Z1, Vc.exK, Zm, Zj, Zg, Zh, Zx, Xn, Y1, Z0, Zl, Zi, Zy, Zk, Zn, Xk, Z7, Xj, Vc.ev, Vc.st, Vc.stq, Vc.gst, Xh, St.rd, St.get, St.put, St.find, Zd, St.new, Vc.gdc, Zs, Yr, Yo, Yq, Xg, Zv, Zt, Yj, Yi, Vc.S1.cells, Vc.upd, Vc.del, Zf, Vc.noV, Kd.enc, Kd.dec, Ins.cells, Ln.cells, Z5, Yc, Yn, Ya, Y0, Vc.rvs, Y6, Zc, Y4, Yx, Y3, Y5, Y9, Xa, Yk, Xe, Z8, Zw, Zb, Zu, Vc.kdL, Xm, Yz, Xf, Zq, SV.bd, Vc.S1.bd, At.bd, Value.oneCell', Int.reduceEq, Int.reduceNeg, Int.reduceLE, Int.reduceLT, Vc.lenOf, Yl, Xc, Z4, Vc.atK, Z6, Vc.unK, Vc.wfK, Yh, Yd, Yg, Zp, Yb, Z9, Zr, Ys, Vc.sg, Yw, Y2, Y7, Y8, Z3, Res.own, At.sub, Vc.S1.sub, SV.sub, Res.sub, Xi, Xo, Yt, Yp, Ym, Vc.frS, Kd.sz, Nat.reduceSub, ↓reduceIte, reduceCtorEq, Nat.reduceEqDiff, Nat.reduceAdd, Nat.reduceMul, Nat.reduceLeDiff, Nat.reduceLT, Nat.reduceBEq, Nat.reduceBNe, implies_true, Xp, Yy.rs, Yy.res, hm]) | (with_reducible first | refine T.seq ?_ | refine T.block ?_ | assumption | refine And.intro ?_ ?_) | (intro h; first | (exfalso; omega) | exact (tf h ‹_›).elim | exact (tf ‹_› h).elim | skip))
          all_goals first | omega | skip
      · rw [hn] at hR
        simp only at hR
        subst hR
        simp only [Yf, Zz, Z1, Vc.exK, Zm, Zj, Zg, Zh, Zx, Xn, Y1, Z0, Zl, Zi, Zy, Zk, Zn, Xk, Z7, Xj, Vc.ev, Vc.st, Vc.stq, Vc.gst, Xh, St.rd, St.get, St.put, St.find, Zd, St.new, Vc.gdc, Zs, Yr, Yo, Yq, Xg, Zv, Zt, Yj, Yi, Vc.S1.cells, Vc.upd, Vc.del, Zf, Vc.noV, Kd.enc, Kd.dec, Ins.cells, Ln.cells, Z5, Yc, Yn, Ya, Y0, Vc.rvs, Y6, Zc, Y4, Yx, Y3, Y5, Y9, Xa, Yk, Xe, Z8, Zw, Zb, Zu, Vc.kdL, Xm, Yz, Xf, Zq, SV.bd, Vc.S1.bd, At.bd, Value.oneCell', Int.reduceEq, Int.reduceNeg, Int.reduceLE, Int.reduceLT, Vc.lenOf, Yl, Xc, Z4, Vc.atK, Z6, Vc.unK, Vc.wfK, Yh, Yd, Yg, Zp, Yb, Z9, Zr, Ys, Vc.sg, Yw, Y2, Y7, Y8, Z3, Res.own, At.sub, Vc.S1.sub, SV.sub, Res.sub, Xi, Xo, Yt, Yp, Ym, Vc.frS, Kd.sz, Nat.reduceSub, ↓reduceIte, reduceCtorEq, Nat.reduceEqDiff, Nat.reduceAdd, Nat.reduceMul, Nat.reduceLeDiff, Nat.reduceLT, Nat.reduceBEq, Nat.reduceBNe, implies_true, Xp, Yy.rs, Yy.res, hE]
end Go.Proofs.YtccjjcdjgibilaaDoor
