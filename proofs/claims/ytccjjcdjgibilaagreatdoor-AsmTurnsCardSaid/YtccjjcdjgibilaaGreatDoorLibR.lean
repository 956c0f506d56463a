/-
  A part of the proofs of this seat's laws: a step on the way. It has no conditions of its own.
-/
import Derived.Test.YtccjjcdjgibilaaGreatDoorReadP
import Derived.Test.YtccjjcdjgibilaaGreatDoorLibA
import Derived.Test.YtccjjcdjgibilaaGreatDoorInstr
import Derived.Test.YtccjjcdjgibilaaGreatDoorShelfR
import Derived.Test.YtccjjcdjgibilaaGreatDoorIrR
import Derived.Shelf.Strings.SlTrimAscii
import Derived.Lib.AtoiErrMem
namespace Go.Proofs.YtccjjcdjgibilaaGreatDoor
open Go Go.RowKit Vc
set_option linter.unusedVariables false
set_option linter.unusedSimpArgs false
attribute [local irreducible] T Zq Wa Ent RdC RwC V2 Yl Xt
@[reducible] def Rr (G : Nat) (H : Nat → Option Obj) : Prop := ∀ w X, Vs G H w X → ∃ m, w.cell? ⟨1, 0, none⟩ = some (.int .i64 m)
theorem Oq (G : Nat) (H : Nat → Option Obj) (s cs : List UInt8) (hs : s.length ≤ 9223372036854775807) (hcl : cs.length ≤ 100) (hc : cs.all (fun b => decide (b.toNat < 128)) = true) :
    GCp G H Tryz.prog 35 [.a (.str s), .a (.str cs)] [] 0 [] (.one (.a (.str (Lib.trimS s cs)))) [] 0 :=
  GCp.plain (by simp [S1.bd, At.bd]) (by simp [SV.bd, S1.bd, At.bd]) (by simp [Vr, V1, Vu, Wo, Wc, Vc.S1.okN, At.okN, SV.okN, Res.okN, Res.outOk, Zb, Res.own, Value.oneCell']) fun w hg =>
    Any.strings_Trim_laid Tryz.lays160 (by kernel_rfl) ⟨s.toArray⟩ ⟨cs.toArray⟩ w (by simpa [ByteArray.size] using hs) (by simp [ByteArray.size]; omega) (ascii_of_all (by simpa using hc))
theorem Tj (G : Nat) (H : Nat → Option Obj) (s p : List UInt8) :
    GCp G H Tryz.prog 59 [.a (.str s), .a (.str p)] [] 0 [] (.tup [.a (.str (Lib.trimPrefix s p)), .a (.bool (Lib.hasPrefix s p))]) [] 0 :=
  GCp.plain (by simp [S1.bd, At.bd]) (by simp [SV.bd, S1.bd, At.bd]) (by simp [Vr, V1, Vu, Wo, Wc, Vc.S1.okN, At.okN, SV.okN, Res.okN, Res.outOk, Zb, Res.own, Value.oneCell']) fun w hg =>
    (Tryz.strings_CutPrefix ⟨s.toArray⟩ ⟨p.toArray⟩ w).mono fun e w' ⟨he, hw⟩ => ⟨he, hw ▸ Below.refl _ _⟩
theorem Ox (G : Nat) (H : Nat → Option Obj) (s p : List UInt8) (hs : s.length ≤ 9223372036854775807) :
    GCp G H Tryz.prog 36 [.a (.str s), .a (.str p)] [] 0 [] (.tup [.a (.str (Lib.trimSuffix s p)), .a (.bool (Lib.hasSuffix s p))]) [] 0 :=
  GCp.plain (by simp [S1.bd, At.bd]) (by simp [SV.bd, S1.bd, At.bd]) (by simp [Vr, V1, Vu, Wo, Wc, Vc.S1.okN, At.okN, SV.okN, Res.okN, Res.outOk, Zb, Res.own, Value.oneCell']) fun w hg =>
    (Tryz.strings_CutSuffix ⟨s.toArray⟩ ⟨p.toArray⟩ w (by simpa [ByteArray.size] using hs)).mono fun e w' ⟨he, hw⟩ => ⟨he, hw ▸ Below.refl _ _⟩
theorem K3 {G : Nat} {H : Nat → Option Obj} (hM : Rr G H) (s : List UInt8) (c : UInt8) (hs : s.length < 4294967281) :
    GCp G H Tryz.prog 34 [.a (.str s), .a (.str [c])] [] 0 [] (.tup [.a (.str (upToS c s).1), .a (.str (upToS c s).2.1), .a (.bool (upToS c s).2.2)]) [] 0 :=
  GCp.plain (by simp [S1.bd, At.bd]) (by simp [SV.bd, S1.bd, At.bd]) (by simp [Vr, V1, Vu, Wo, Wc, Vc.S1.okN, At.okN, SV.okN, Res.okN, Res.outOk, Zb, Res.own, Value.oneCell']) fun w hg => by
    obtain ⟨m, hm⟩ := hM w _ hg
    have := Tryz.strings_Cut ⟨s.toArray⟩ ⟨[c].toArray⟩ m w (by simpa [ByteArray.size] using hs) hm
    simp only [List.toList_toArray, Rt] at this
    exact this.mono fun e w' ⟨he, n, hw⟩ => ⟨he, hw ▸ ⟨rfl, rfl, rfl, Nat.le_refl _, fun _ _ => rfl⟩⟩
theorem Iy (G : Nat) (H : Nat → Option Obj) (s : List UInt8) (n : Int) (hs : s.length ≤ 18) (hn : Lib.atoi s = some n) :
    GCp G H Tryz.prog 60 [.a (.str s)] [] 0 [] (.tup [.a (.int .i64 n), .a (.raw .nilIface)]) [] 0 :=
  GCp.plain (by simp [S1.bd, At.bd]) (by simp [SV.bd, S1.bd, At.bd, Value.oneCell']) (by simp [Vr, V1, Vu, Wo, Wc, Vc.S1.okN, At.okN, SV.okN, Res.okN, Res.outOk, Zb, Res.own, Value.oneCell']) fun w hg =>
    (Tryz.strconv_Atoi ⟨s.toArray⟩ n (by simpa [ByteArray.size] using hs) hn w).mono fun e w' ⟨he, t, hw⟩ => ⟨he, hw ▸ Lib.bytesWorld_below w _ t⟩
theorem Nj {G : Nat} {H : Nat → Option Obj} (hM : Rr G H) (s : List UInt8) (c : UInt8) (hs : s.length ≤ 2000000) :
    GCp G H Tryz.prog 19 [.a (.str s), .a (.str [c])] [] 0 [] (.one (.a (.ref 0))) [(0, .row 9 .str (splitS c s))] 1 := by
  refine ⟨(by simp [Vr, V1, Vu, Wo, Wc, Vc.S1.okN, At.okN, SV.okN, Res.okN, Res.outOk, Zb, Res.own, Value.oneCell']), fun ρ w hm hg => ?_⟩
  obtain ⟨m, hmx⟩ := hM w _ hg
  have hcnt : Lib.countB ⟨s.toArray⟩ ⟨[c].toArray⟩ = s.count c := by simpa [Lib.countB] using Lib.count_one c s
  have hsp : (Lib.splitB ⟨[c].toArray⟩ 0 (s.count c) ⟨s.toArray⟩).map (·.data.toList) = splitS c s := by
    rw [Lib.splitB_data]
    exact Kw c _ s rfl
  have hl := T1 c s
  have := Tryz.strings_Split ⟨s.toArray⟩ ⟨[c].toArray⟩ m w (by simp [ByteArray.size]; omega) hmx (by simp [ByteArray.size])
  refine this.mono fun e w' ⟨he, hw⟩ => ?_
  rw [hcnt] at he hw
  have hB : Below w.heap.size w w' := hw ▸ (Below.refl _ w).alloc (Nat.le_refl _) _
  have hcells : (Lib.splitB ⟨[c].toArray⟩ 0 (s.count c) ⟨s.toArray⟩).map Value.string = (splitS c s).map fun y => Value.string ⟨y.toArray⟩ := by
    rw [← hsp, List.map_map]
    rfl
  have hcl := List.count_le_length (a := c) (l := s)
  have hown : Sh w.heap.size w' (.slice (some ⟨w.heap.size, 0, none⟩) (s.count c + 1) (s.count c + 1)) 9 .str (splitS c s) := by
    unfold Sh
    rw [Od, hl]
    refine ⟨by simp [hl, Kd.sz], .inr ⟨w.heap.size, s.count c + 1, ((splitS c s).map fun y => Value.string ⟨y.toArray⟩).toArray, rfl, Nat.le_refl _, ?_, Nat.le_refl _, by simp only [maxLen]; omega, ?_, ?_⟩⟩
    · rw [hw, hcells]; exact heap_alloc_new w _
    · simp [hl, Kd.sz]
    · simp [Kd.sz, hl]
      exact List.take_of_length_le (by simp [hl])
  refine ⟨Wk ρ 0 (.slice (some ⟨w.heap.size, 0, none⟩) (s.count c + 1) (s.count c + 1)), (fun n hn => nomatch hn), by rw [he]; simp [SV.den, S1.den, At.den, Yy], ?_⟩
  exact hm.addRow hB hown
end Go.Proofs.YtccjjcdjgibilaaGreatDoor
namespace Go.Proofs.YtccjjcdjgibilaaGreatDoor
open Go Go.RowKit Vc
set_option linter.unusedVariables false
set_option linter.unusedSimpArgs false
attribute [local irreducible] T Zq Wa Ent RdC RwC V2 Yl Xt
theorem I1 {s : List UInt8} {v : Nat} (h : Lib.decNat s = some v) : Lib.atoi s = some (v : Int) := by
  obtain ⟨hne, hd⟩ := Lib.decNat_some h
  cases s with
  | nil => exact absurd rfl hne
  | cons b r =>
    obtain ⟨d, hd0⟩ := Lib.digit_of_decFrom (b :: r) 0 v hd 0 b rfl
    have hb := Lib.digitVal_eq hd0
    have h45 : (b == 45) = false := by rw [beq_eq_false_iff_ne]; intro e; rw [e] at hb; simp at hb
    have h43 : (b == 43) = false := by rw [beq_eq_false_iff_ne]; intro e; rw [e] at hb; simp at hb
    unfold Lib.atoi
    simp only [h45, h43, Bool.false_eq_true, if_false, h, Option.map_some]
set_option maxHeartbeats 4000000 in
set_option maxRecDepth 100000 in
theorem Tv (G : Nat) (H : Nat → Option Obj) {s : List UInt8} {v : Nat} (h : T9 s = some v) (most : Int) :
    GCp G H Tryz.prog 39 [.a (.str s), .a (.int .i64 most)] [] 0 [] (.tup [.a (.int .i64 (v : Int)), .a (.bool (decide ((v : Int) ≤ most)))]) [] 0 := by
  have hlt := numV_lt h
  unfold T9 at h
  split at h
  · cases h
  rename_i hn
  simp only [not_or] at hn
  obtain ⟨h1, h2, h3⟩ := hn
  have hne : decide (s = []) = false := decide_eq_false h1
  have hT := Oq G H s Pu (by omega) (by decide) (by decide)
  have ht : Lib.trimS s Pu = [] := (K7 h1).2 ⟨v, h⟩
  rw [ht] at hT
  unfold Pu at hT
  have hA := Iy G H s (v : Int) (by omega) (I1 h)
  have h5 : ¬ (5 : Int) < s.length := by omega
  refine Wh.fn.gcp (by simp) (by simp [Vr, V1, Vu, Wo, Wc, Vc.S1.okN, At.okN, SV.okN, Res.okN, Res.outOk, Zb, Res.own, Value.oneCell']) fun w X fr hglob => ?_
  by_cases h6 : 1 < s.length
  · have h7 : (1 : Int) < s.length := by omega
    have h8 : ¬ Wr s 0 = 48 := by
      intro e
      refine h3 ⟨h6, ?_⟩
      unfold Wr at e
      have : (s.getD 0 0).toNat = 48 := by omega
      exact UInt8.toNat_inj.1 this
    have h9 : ¬ Wr s (0 : Int).toNat = 48 := h8
    repeat' (first | ((first | (with_reducible first | refine T.regs ?_ | refine T.cond ?_ | refine T.reg ?_ | refine T.ret ?_ | refine T.exit ?_ | refine T.skip ?_) | ((with_reducible first | refine T.dregs ?_ ?_ | refine T.dreg ?_ ?_ | refine T.dregts ?_ ?_ | refine T.dregt ?_ ?_ | refine T.danys ?_ ?_ | refine T.dany ?_ ?_); exact mix) | ((with_reducible refine Zq.gcp hglob (hT) ?_ ?_); (focus ((simp [Yz, X3, Vc.mtR, Vc.roA, Vc.roM, X1, X4, Xz, X2, Xy, Vc.fnM, Zs, St.find, Zb, Vc.del, Zr, Res.own, Vc.sg, Zx, Zu, Zw, Zc, Zt, Ze, At.sub, Vc.S1.sub, Res.sub, Kd.enc, Ins.cells, Ln.cells, Value.oneCell', Y5, List.nodup_cons]); done))) | ((with_reducible refine Zq.gcp hglob (hA) ?_ ?_); (focus ((simp [Yz, X3, Vc.mtR, Vc.roA, Vc.roM, X1, X4, Xz, X2, Xy, Vc.fnM, Zs, St.find, Zb, Vc.del, Zr, Res.own, Vc.sg, Zx, Zu, Zw, Zc, Zt, Ze, At.sub, Vc.S1.sub, Res.sub, Kd.enc, Ins.cells, Ln.cells, Value.oneCell', Y5, List.nodup_cons]); done))) | (with_reducible refine Yl.split ?_ ?_) | (with_reducible refine Xt.no ?_)) <;> simp only [Yg, Z3, Z6, Vc.exK, Zk, Zn, Zh, Zi, Z2, Xq, Y7, Z4, Zj, Zl, Z5, Zm, Zo, Xo, Yb, Xn, Vc.ev, Vc.st, Vc.stq, Vc.gst, Xk, St.rd, St.get, St.put, St.find, Zb, St.new, Vc.gdc, Zv, Yv, Yw, Yu, Xl, Z0, Zy, Yn, Yi, Vc.S1.cells, Vc.upd, Vc.del, Zg, Vc.noV, Kd.enc, Kd.dec, Ins.cells, Ln.cells, Zs, Yd, Yq, Ye, Y4, Vc.rvs, Xe, Zf, Xb, Y2, Y6, Xa, Xg, Xf, Yo, Xi, Ya, Z1, Zd, Zz, Vc.kdL, Xr, Y3, Xj, Z7, SV.bd, Vc.S1.bd, At.bd, Value.oneCell', Int.reduceEq, Int.reduceNeg, Int.reduceLE, Int.reduceLT, Vc.lenOf, Yp, Xh, Z8, Vc.atK, Z9, Vc.unK, Vc.wfK, Zx, Zu, Zw, Zc, Yf, Zt, Ze, Yt, Vc.sg, Y1, Y8, Xd, Xc, Zr, Res.own, At.sub, Vc.S1.sub, SV.sub, Res.sub, Xm, Xp, Ys, Yx, Yr, Vc.frS, Kd.sz, Nat.reduceSub, ↓reduceIte, reduceCtorEq, Nat.reduceEqDiff, Nat.reduceAdd, Nat.reduceMul, Nat.reduceLeDiff, Nat.reduceLT, Nat.reduceBEq, Nat.reduceBNe, implies_true, Xs, Wh.rs, Wh.res, hne, h5, h7, h8, h1, Int.ofNat_lt]) | (with_reducible first | refine T.seq ?_ | refine T.block ?_ | assumption | refine And.intro ?_ ?_) | (intro h; first | (exfalso; omega) | exact (tf h ‹_›).elim | exact (tf ‹_› h).elim | skip))
    all_goals first | omega | (exfalso; exact h8 (by assumption)) | (exfalso; simp_all; done) | skip
  · have h7 : ¬ (1 : Int) < s.length := by omega
    repeat' (first | ((first | (with_reducible first | refine T.regs ?_ | refine T.cond ?_ | refine T.reg ?_ | refine T.ret ?_ | refine T.exit ?_ | refine T.skip ?_) | ((with_reducible first | refine T.dregs ?_ ?_ | refine T.dreg ?_ ?_ | refine T.dregts ?_ ?_ | refine T.dregt ?_ ?_ | refine T.danys ?_ ?_ | refine T.dany ?_ ?_); exact mix) | ((with_reducible refine Zq.gcp hglob (hT) ?_ ?_); (focus ((simp [Yz, X3, Vc.mtR, Vc.roA, Vc.roM, X1, X4, Xz, X2, Xy, Vc.fnM, Zs, St.find, Zb, Vc.del, Zr, Res.own, Vc.sg, Zx, Zu, Zw, Zc, Zt, Ze, At.sub, Vc.S1.sub, Res.sub, Kd.enc, Ins.cells, Ln.cells, Value.oneCell', Y5, List.nodup_cons]); done))) | ((with_reducible refine Zq.gcp hglob (hA) ?_ ?_); (focus ((simp [Yz, X3, Vc.mtR, Vc.roA, Vc.roM, X1, X4, Xz, X2, Xy, Vc.fnM, Zs, St.find, Zb, Vc.del, Zr, Res.own, Vc.sg, Zx, Zu, Zw, Zc, Zt, Ze, At.sub, Vc.S1.sub, Res.sub, Kd.enc, Ins.cells, Ln.cells, Value.oneCell', Y5, List.nodup_cons]); done))) | (with_reducible refine Yl.split ?_ ?_) | (with_reducible refine Xt.no ?_)) <;> simp only [Yg, Z3, Z6, Vc.exK, Zk, Zn, Zh, Zi, Z2, Xq, Y7, Z4, Zj, Zl, Z5, Zm, Zo, Xo, Yb, Xn, Vc.ev, Vc.st, Vc.stq, Vc.gst, Xk, St.rd, St.get, St.put, St.find, Zb, St.new, Vc.gdc, Zv, Yv, Yw, Yu, Xl, Z0, Zy, Yn, Yi, Vc.S1.cells, Vc.upd, Vc.del, Zg, Vc.noV, Kd.enc, Kd.dec, Ins.cells, Ln.cells, Zs, Yd, Yq, Ye, Y4, Vc.rvs, Xe, Zf, Xb, Y2, Y6, Xa, Xg, Xf, Yo, Xi, Ya, Z1, Zd, Zz, Vc.kdL, Xr, Y3, Xj, Z7, SV.bd, Vc.S1.bd, At.bd, Value.oneCell', Int.reduceEq, Int.reduceNeg, Int.reduceLE, Int.reduceLT, Vc.lenOf, Yp, Xh, Z8, Vc.atK, Z9, Vc.unK, Vc.wfK, Zx, Zu, Zw, Zc, Yf, Zt, Ze, Yt, Vc.sg, Y1, Y8, Xd, Xc, Zr, Res.own, At.sub, Vc.S1.sub, SV.sub, Res.sub, Xm, Xp, Ys, Yx, Yr, Vc.frS, Kd.sz, Nat.reduceSub, ↓reduceIte, reduceCtorEq, Nat.reduceEqDiff, Nat.reduceAdd, Nat.reduceMul, Nat.reduceLeDiff, Nat.reduceLT, Nat.reduceBEq, Nat.reduceBNe, implies_true, Xs, Wh.rs, Wh.res, hne, h5, h7, h1, Int.ofNat_lt]) | (with_reducible first | refine T.seq ?_ | refine T.block ?_ | assumption | refine And.intro ?_ ?_) | (intro h; first | (exfalso; omega) | exact (tf h ‹_›).elim | exact (tf ‹_› h).elim | skip))
    all_goals first | omega | skip
set_option maxHeartbeats 4000000 in
set_option maxRecDepth 100000 in
theorem O6 (G : Nat) (H : Nat → Option Obj) {s : List UInt8} (h : T9 s = none) (most : Int) (hs : s.length ≤ 9223372036854775807) :
    GCp G H Tryz.prog 39 [.a (.str s), .a (.int .i64 most)] [] 0 [] (.tup [.a (.int .i64 0), .a (.bool false)]) [] 0 := by
  refine Wh.fn.gcp (by simp) (by simp [Vr, V1, Vu, Wo, Wc, Vc.S1.okN, At.okN, SV.okN, Res.okN, Res.outOk, Zb, Res.own, Value.oneCell']) fun w X fr hglob => ?_
  by_cases h1 : s = []
  · have hne : decide (s = []) = true := decide_eq_true h1
    repeat' (first | ((first | (with_reducible first | refine T.regs ?_ | refine T.cond ?_ | refine T.reg ?_ | refine T.ret ?_ | refine T.exit ?_ | refine T.skip ?_) | ((with_reducible first | refine T.dregs ?_ ?_ | refine T.dreg ?_ ?_ | refine T.dregts ?_ ?_ | refine T.dregt ?_ ?_ | refine T.danys ?_ ?_ | refine T.dany ?_ ?_); exact mix) | (with_reducible refine Yl.split ?_ ?_) | (with_reducible refine Xt.no ?_)) <;> simp only [Yg, Z3, Z6, Vc.exK, Zk, Zn, Zh, Zi, Z2, Xq, Y7, Z4, Zj, Zl, Z5, Zm, Zo, Xo, Yb, Xn, Vc.ev, Vc.st, Vc.stq, Vc.gst, Xk, St.rd, St.get, St.put, St.find, Zb, St.new, Vc.gdc, Zv, Yv, Yw, Yu, Xl, Z0, Zy, Yn, Yi, Vc.S1.cells, Vc.upd, Vc.del, Zg, Vc.noV, Kd.enc, Kd.dec, Ins.cells, Ln.cells, Zs, Yd, Yq, Ye, Y4, Vc.rvs, Xe, Zf, Xb, Y2, Y6, Xa, Xg, Xf, Yo, Xi, Ya, Z1, Zd, Zz, Vc.kdL, Xr, Y3, Xj, Z7, SV.bd, Vc.S1.bd, At.bd, Value.oneCell', Int.reduceEq, Int.reduceNeg, Int.reduceLE, Int.reduceLT, Vc.lenOf, Yp, Xh, Z8, Vc.atK, Z9, Vc.unK, Vc.wfK, Zx, Zu, Zw, Zc, Yf, Zt, Ze, Yt, Vc.sg, Y1, Y8, Xd, Xc, Zr, Res.own, At.sub, Vc.S1.sub, SV.sub, Res.sub, Xm, Xp, Ys, Yx, Yr, Vc.frS, Kd.sz, Nat.reduceSub, ↓reduceIte, reduceCtorEq, Nat.reduceEqDiff, Nat.reduceAdd, Nat.reduceMul, Nat.reduceLeDiff, Nat.reduceLT, Nat.reduceBEq, Nat.reduceBNe, implies_true, Xs, Wh.rs, Wh.res, hne, h1]) | (with_reducible first | refine T.seq ?_ | refine T.block ?_ | assumption | refine And.intro ?_ ?_) | (intro h; first | (exfalso; omega) | exact (tf h ‹_›).elim | exact (tf ‹_› h).elim | skip))
    all_goals first | omega | (exfalso; simp_all; done) | skip
  have hne : decide (s = []) = false := decide_eq_false h1
  by_cases h2 : 5 < s.length
  · have h5 : (5 : Int) < s.length := by omega
    repeat' (first | ((first | (with_reducible first | refine T.regs ?_ | refine T.cond ?_ | refine T.reg ?_ | refine T.ret ?_ | refine T.exit ?_ | refine T.skip ?_) | ((with_reducible first | refine T.dregs ?_ ?_ | refine T.dreg ?_ ?_ | refine T.dregts ?_ ?_ | refine T.dregt ?_ ?_ | refine T.danys ?_ ?_ | refine T.dany ?_ ?_); exact mix) | (with_reducible refine Yl.split ?_ ?_) | (with_reducible refine Xt.no ?_)) <;> simp only [Yg, Z3, Z6, Vc.exK, Zk, Zn, Zh, Zi, Z2, Xq, Y7, Z4, Zj, Zl, Z5, Zm, Zo, Xo, Yb, Xn, Vc.ev, Vc.st, Vc.stq, Vc.gst, Xk, St.rd, St.get, St.put, St.find, Zb, St.new, Vc.gdc, Zv, Yv, Yw, Yu, Xl, Z0, Zy, Yn, Yi, Vc.S1.cells, Vc.upd, Vc.del, Zg, Vc.noV, Kd.enc, Kd.dec, Ins.cells, Ln.cells, Zs, Yd, Yq, Ye, Y4, Vc.rvs, Xe, Zf, Xb, Y2, Y6, Xa, Xg, Xf, Yo, Xi, Ya, Z1, Zd, Zz, Vc.kdL, Xr, Y3, Xj, Z7, SV.bd, Vc.S1.bd, At.bd, Value.oneCell', Int.reduceEq, Int.reduceNeg, Int.reduceLE, Int.reduceLT, Vc.lenOf, Yp, Xh, Z8, Vc.atK, Z9, Vc.unK, Vc.wfK, Zx, Zu, Zw, Zc, Yf, Zt, Ze, Yt, Vc.sg, Y1, Y8, Xd, Xc, Zr, Res.own, At.sub, Vc.S1.sub, SV.sub, Res.sub, Xm, Xp, Ys, Yx, Yr, Vc.frS, Kd.sz, Nat.reduceSub, ↓reduceIte, reduceCtorEq, Nat.reduceEqDiff, Nat.reduceAdd, Nat.reduceMul, Nat.reduceLeDiff, Nat.reduceLT, Nat.reduceBEq, Nat.reduceBNe, implies_true, Xs, Wh.rs, Wh.res, hne, h5, h1, Int.ofNat_lt]) | (with_reducible first | refine T.seq ?_ | refine T.block ?_ | assumption | refine And.intro ?_ ?_) | (intro h; first | (exfalso; omega) | exact (tf h ‹_›).elim | exact (tf ‹_› h).elim | skip))
    all_goals first | omega | (exfalso; simp_all; done) | skip
  have h5 : ¬ (5 : Int) < s.length := by omega
  have hT := Oq G H s Pu hs (by decide) (by decide)
  have hda := K7 h1
  generalize Lib.trimS s Pu = t at hT hda
  unfold Pu at hT
  by_cases ht : t = []
  · subst ht
    obtain ⟨v, hv⟩ := hda.1 rfl
    have h3 : 1 < s.length ∧ s.getD 0 0 = 48 := by
      unfold T9 at h
      split at h
      · rename_i hn
        rcases hn with hn | hn | hn
        · exact absurd hn h1
        · exact absurd hn h2
        · exact hn
      · rw [hv] at h; cases h
    have h7 : (1 : Int) < s.length := by omega
    have h8 : Wr s 0 = 48 := by unfold Wr; rw [h3.2]; rfl
    have h9 : Wr s (0 : Int).toNat = 48 := h8
    repeat' (first | ((first | (with_reducible first | refine T.regs ?_ | refine T.cond ?_ | refine T.reg ?_ | refine T.ret ?_ | refine T.exit ?_ | refine T.skip ?_) | ((with_reducible first | refine T.dregs ?_ ?_ | refine T.dreg ?_ ?_ | refine T.dregts ?_ ?_ | refine T.dregt ?_ ?_ | refine T.danys ?_ ?_ | refine T.dany ?_ ?_); exact mix) | ((with_reducible refine Zq.gcp hglob (hT) ?_ ?_); (focus ((simp [Yz, X3, Vc.mtR, Vc.roA, Vc.roM, X1, X4, Xz, X2, Xy, Vc.fnM, Zs, St.find, Zb, Vc.del, Zr, Res.own, Vc.sg, Zx, Zu, Zw, Zc, Zt, Ze, At.sub, Vc.S1.sub, Res.sub, Kd.enc, Ins.cells, Ln.cells, Value.oneCell', Y5, List.nodup_cons]); done))) | (with_reducible refine Yl.split ?_ ?_) | (with_reducible refine Xt.no ?_)) <;> simp only [Yg, Z3, Z6, Vc.exK, Zk, Zn, Zh, Zi, Z2, Xq, Y7, Z4, Zj, Zl, Z5, Zm, Zo, Xo, Yb, Xn, Vc.ev, Vc.st, Vc.stq, Vc.gst, Xk, St.rd, St.get, St.put, St.find, Zb, St.new, Vc.gdc, Zv, Yv, Yw, Yu, Xl, Z0, Zy, Yn, Yi, Vc.S1.cells, Vc.upd, Vc.del, Zg, Vc.noV, Kd.enc, Kd.dec, Ins.cells, Ln.cells, Zs, Yd, Yq, Ye, Y4, Vc.rvs, Xe, Zf, Xb, Y2, Y6, Xa, Xg, Xf, Yo, Xi, Ya, Z1, Zd, Zz, Vc.kdL, Xr, Y3, Xj, Z7, SV.bd, Vc.S1.bd, At.bd, Value.oneCell', Int.reduceEq, Int.reduceNeg, Int.reduceLE, Int.reduceLT, Vc.lenOf, Yp, Xh, Z8, Vc.atK, Z9, Vc.unK, Vc.wfK, Zx, Zu, Zw, Zc, Yf, Zt, Ze, Yt, Vc.sg, Y1, Y8, Xd, Xc, Zr, Res.own, At.sub, Vc.S1.sub, SV.sub, Res.sub, Xm, Xp, Ys, Yx, Yr, Vc.frS, Kd.sz, Nat.reduceSub, ↓reduceIte, reduceCtorEq, Nat.reduceEqDiff, Nat.reduceAdd, Nat.reduceMul, Nat.reduceLeDiff, Nat.reduceLT, Nat.reduceBEq, Nat.reduceBNe, implies_true, Xs, Wh.rs, Wh.res, hne, h5, h7, h9, h1, Int.ofNat_lt]) | (with_reducible first | refine T.seq ?_ | refine T.block ?_ | assumption | refine And.intro ?_ ?_) | (intro h; first | (exfalso; omega) | exact (tf h ‹_›).elim | exact (tf ‹_› h).elim | skip))
    all_goals first | omega | (exfalso; simp_all; done) | skip
  · have ht2 : decide (t = []) = false := decide_eq_false ht
    repeat' (first | ((first | (with_reducible first | refine T.regs ?_ | refine T.cond ?_ | refine T.reg ?_ | refine T.ret ?_ | refine T.exit ?_ | refine T.skip ?_) | ((with_reducible first | refine T.dregs ?_ ?_ | refine T.dreg ?_ ?_ | refine T.dregts ?_ ?_ | refine T.dregt ?_ ?_ | refine T.danys ?_ ?_ | refine T.dany ?_ ?_); exact mix) | ((with_reducible refine Zq.gcp hglob (hT) ?_ ?_); (focus ((simp [Yz, X3, Vc.mtR, Vc.roA, Vc.roM, X1, X4, Xz, X2, Xy, Vc.fnM, Zs, St.find, Zb, Vc.del, Zr, Res.own, Vc.sg, Zx, Zu, Zw, Zc, Zt, Ze, At.sub, Vc.S1.sub, Res.sub, Kd.enc, Ins.cells, Ln.cells, Value.oneCell', Y5, List.nodup_cons]); done))) | (with_reducible refine Yl.split ?_ ?_) | (with_reducible refine Xt.no ?_)) <;> simp only [Yg, Z3, Z6, Vc.exK, Zk, Zn, Zh, Zi, Z2, Xq, Y7, Z4, Zj, Zl, Z5, Zm, Zo, Xo, Yb, Xn, Vc.ev, Vc.st, Vc.stq, Vc.gst, Xk, St.rd, St.get, St.put, St.find, Zb, St.new, Vc.gdc, Zv, Yv, Yw, Yu, Xl, Z0, Zy, Yn, Yi, Vc.S1.cells, Vc.upd, Vc.del, Zg, Vc.noV, Kd.enc, Kd.dec, Ins.cells, Ln.cells, Zs, Yd, Yq, Ye, Y4, Vc.rvs, Xe, Zf, Xb, Y2, Y6, Xa, Xg, Xf, Yo, Xi, Ya, Z1, Zd, Zz, Vc.kdL, Xr, Y3, Xj, Z7, SV.bd, Vc.S1.bd, At.bd, Value.oneCell', Int.reduceEq, Int.reduceNeg, Int.reduceLE, Int.reduceLT, Vc.lenOf, Yp, Xh, Z8, Vc.atK, Z9, Vc.unK, Vc.wfK, Zx, Zu, Zw, Zc, Yf, Zt, Ze, Yt, Vc.sg, Y1, Y8, Xd, Xc, Zr, Res.own, At.sub, Vc.S1.sub, SV.sub, Res.sub, Xm, Xp, Ys, Yx, Yr, Vc.frS, Kd.sz, Nat.reduceSub, ↓reduceIte, reduceCtorEq, Nat.reduceEqDiff, Nat.reduceAdd, Nat.reduceMul, Nat.reduceLeDiff, Nat.reduceLT, Nat.reduceBEq, Nat.reduceBNe, implies_true, Xs, Wh.rs, Wh.res, hne, h5, ht, ht2, h1, Int.ofNat_lt]) | (with_reducible first | refine T.seq ?_ | refine T.block ?_ | assumption | refine And.intro ?_ ?_) | (intro h; first | (exfalso; omega) | exact (tf h ‹_›).elim | exact (tf ‹_› h).elim | skip))
    all_goals first | omega | (exfalso; simp_all; done) | skip
theorem Tx (t : List UInt8) : Lib.hasPrefix (114 :: t) [114] = true ∧ Lib.trimPrefix (114 :: t) [114] = t := by
  have h : Lib.hasPrefix (114 :: t) [114] = true := by simp [Lib.hasPrefix]
  exact ⟨h, by simp [Lib.trimPrefix, h]⟩
theorem Jo {s : List UInt8} (h : ∀ t, s ≠ 114 :: t) : Lib.hasPrefix s [114] = false := by
  cases s with
  | nil => rfl
  | cons b t =>
    have : b ≠ 114 := fun e => h t (by rw [e])
    simp only [Lib.hasPrefix, List.isPrefixOf, Bool.and_eq_false_iff, beq_eq_false_iff_ne]
    exact .inl fun e => this e.symm
set_option maxHeartbeats 4000000 in
set_option maxRecDepth 100000 in
theorem Rh (G : Nat) (H : Nat → Option Obj) {s : List UInt8} {n : Nat} (h : Tr s = some n) :
    GCp G H Tryz.prog 38 [.a (.str s)] [] 0 [] (.tup [.a (.int .i64 (n : Int)), .a (.bool true)]) [] 0 := by
  obtain ⟨t, rfl, hn⟩ : ∃ t, s = 114 :: t ∧ numS t 7 = some n := by
    cases s with
    | nil => cases h
    | cons b t =>
      have e : Tr (b :: t) = if b = 114 then numS t 7 else none := rfl
      rw [e] at h
      by_cases hb : b = 114
      · rw [if_pos hb] at h; exact ⟨t, by rw [hb], h⟩
      · rw [if_neg hb] at h; cases h
  obtain ⟨hv, h7⟩ : T9 t = some n ∧ n ≤ 7 := by
    unfold numS at hn
    split at hn
    · rename_i v hv
      split at hn
      · cases hn; exact ⟨hv, by assumption⟩
      · cases hn
    · cases hn
  have hP := Tj G H (114 :: t) [114]
  rw [(Tx t).1, (Tx t).2] at hP
  have hN := Tv G H hv 7
  rw [decide_eq_true (by omega)] at hN
  refine We.fn.gcp (by simp) (by simp [Vr, V1, Vu, Wo, Wc, Vc.S1.okN, At.okN, SV.okN, Res.okN, Res.outOk, Zb, Res.own, Value.oneCell']) fun w X fr hglob => ?_
  repeat' (first | ((first | (with_reducible first | refine T.regs ?_ | refine T.cond ?_ | refine T.reg ?_ | refine T.ret ?_ | refine T.exit ?_ | refine T.skip ?_) | ((with_reducible first | refine T.dregs ?_ ?_ | refine T.dreg ?_ ?_ | refine T.dregts ?_ ?_ | refine T.dregt ?_ ?_ | refine T.danys ?_ ?_ | refine T.dany ?_ ?_); exact mix) | ((with_reducible refine Zq.gcp hglob (hP) ?_ ?_); (focus ((simp [Yz, X3, Vc.mtR, Vc.roA, Vc.roM, X1, X4, Xz, X2, Xy, Vc.fnM, Zs, St.find, Zb, Vc.del, Zr, Res.own, Vc.sg, Zx, Zu, Zw, Zc, Zt, Ze, At.sub, Vc.S1.sub, Res.sub, Kd.enc, Ins.cells, Ln.cells, Value.oneCell', Y5, List.nodup_cons]); done))) | ((with_reducible refine Zq.gcp hglob (hN) ?_ ?_); (focus ((simp [Yz, X3, Vc.mtR, Vc.roA, Vc.roM, X1, X4, Xz, X2, Xy, Vc.fnM, Zs, St.find, Zb, Vc.del, Zr, Res.own, Vc.sg, Zx, Zu, Zw, Zc, Zt, Ze, At.sub, Vc.S1.sub, Res.sub, Kd.enc, Ins.cells, Ln.cells, Value.oneCell', Y5, List.nodup_cons]); done)))); simp only [Yg, Z3, Z6, Vc.exK, Zk, Zn, Zh, Zi, Z2, Xq, Y7, Z4, Zj, Zl, Z5, Zm, Zo, Xo, Yb, Xn, Vc.ev, Vc.st, Vc.stq, Vc.gst, Xk, St.rd, St.get, St.put, St.find, Zb, St.new, Vc.gdc, Zv, Yv, Yw, Yu, Xl, Z0, Zy, Yn, Yi, Vc.S1.cells, Vc.upd, Vc.del, Zg, Vc.noV, Kd.enc, Kd.dec, Ins.cells, Ln.cells, Zs, Yd, Yq, Ye, Y4, Vc.rvs, Xe, Zf, Xb, Y2, Y6, Xa, Xg, Xf, Yo, Xi, Ya, Z1, Zd, Zz, Vc.kdL, Xr, Y3, Xj, Z7, SV.bd, Vc.S1.bd, At.bd, Value.oneCell', Int.reduceEq, Int.reduceNeg, Int.reduceLE, Int.reduceLT, Vc.lenOf, Yp, Xh, Z8, Vc.atK, Z9, Vc.unK, Vc.wfK, Zx, Zu, Zw, Zc, Yf, Zt, Ze, Yt, Vc.sg, Y1, Y8, Xd, Xc, Zr, Res.own, At.sub, Vc.S1.sub, SV.sub, Res.sub, Xm, Xp, Ys, Yx, Yr, Vc.frS, Kd.sz, Nat.reduceSub, ↓reduceIte, reduceCtorEq, Nat.reduceEqDiff, Nat.reduceAdd, Nat.reduceMul, Nat.reduceLeDiff, Nat.reduceLT, Nat.reduceBEq, Nat.reduceBNe, implies_true, Xs, We.rs, We.res]) | (with_reducible first | refine T.seq ?_ | refine T.block ?_ | assumption | refine And.intro ?_ ?_) | (intro h; first | (exfalso; omega) | exact (tf h ‹_›).elim | exact (tf ‹_› h).elim | skip))
  all_goals first | omega | skip
set_option maxHeartbeats 4000000 in
set_option maxRecDepth 100000 in
theorem Qw (G : Nat) (H : Nat → Option Obj) {s : List UInt8} (h : Tr s = none) (hs : s.length ≤ 9223372036854775807) :
    ∃ m : Int, GCp G H Tryz.prog 38 [.a (.str s)] [] 0 [] (.tup [.a (.int .i64 m), .a (.bool false)]) [] 0 := by
  by_cases hp : ∃ t, s = 114 :: t
  · obtain ⟨t, rfl⟩ := hp
    have hP := Tj G H (114 :: t) [114]
    rw [(Tx t).1, (Tx t).2] at hP
    simp only [Tr, if_true, numS] at h
    cases hv : T9 t with
    | none =>
      have hN := O6 G H hv 7 (by simp only [List.length_cons] at hs; omega)
      refine ⟨0, We.fn.gcp (by simp) (by simp [Vr, V1, Vu, Wo, Wc, Vc.S1.okN, At.okN, SV.okN, Res.okN, Res.outOk, Zb, Res.own, Value.oneCell']) fun w X fr hglob => ?_⟩
      repeat' (first | ((first | (with_reducible first | refine T.regs ?_ | refine T.cond ?_ | refine T.reg ?_ | refine T.ret ?_ | refine T.exit ?_ | refine T.skip ?_) | ((with_reducible first | refine T.dregs ?_ ?_ | refine T.dreg ?_ ?_ | refine T.dregts ?_ ?_ | refine T.dregt ?_ ?_ | refine T.danys ?_ ?_ | refine T.dany ?_ ?_); exact mix) | ((with_reducible refine Zq.gcp hglob (hP) ?_ ?_); (focus ((simp [Yz, X3, Vc.mtR, Vc.roA, Vc.roM, X1, X4, Xz, X2, Xy, Vc.fnM, Zs, St.find, Zb, Vc.del, Zr, Res.own, Vc.sg, Zx, Zu, Zw, Zc, Zt, Ze, At.sub, Vc.S1.sub, Res.sub, Kd.enc, Ins.cells, Ln.cells, Value.oneCell', Y5, List.nodup_cons]); done))) | ((with_reducible refine Zq.gcp hglob (hN) ?_ ?_); (focus ((simp [Yz, X3, Vc.mtR, Vc.roA, Vc.roM, X1, X4, Xz, X2, Xy, Vc.fnM, Zs, St.find, Zb, Vc.del, Zr, Res.own, Vc.sg, Zx, Zu, Zw, Zc, Zt, Ze, At.sub, Vc.S1.sub, Res.sub, Kd.enc, Ins.cells, Ln.cells, Value.oneCell', Y5, List.nodup_cons]); done)))); simp only [Yg, Z3, Z6, Vc.exK, Zk, Zn, Zh, Zi, Z2, Xq, Y7, Z4, Zj, Zl, Z5, Zm, Zo, Xo, Yb, Xn, Vc.ev, Vc.st, Vc.stq, Vc.gst, Xk, St.rd, St.get, St.put, St.find, Zb, St.new, Vc.gdc, Zv, Yv, Yw, Yu, Xl, Z0, Zy, Yn, Yi, Vc.S1.cells, Vc.upd, Vc.del, Zg, Vc.noV, Kd.enc, Kd.dec, Ins.cells, Ln.cells, Zs, Yd, Yq, Ye, Y4, Vc.rvs, Xe, Zf, Xb, Y2, Y6, Xa, Xg, Xf, Yo, Xi, Ya, Z1, Zd, Zz, Vc.kdL, Xr, Y3, Xj, Z7, SV.bd, Vc.S1.bd, At.bd, Value.oneCell', Int.reduceEq, Int.reduceNeg, Int.reduceLE, Int.reduceLT, Vc.lenOf, Yp, Xh, Z8, Vc.atK, Z9, Vc.unK, Vc.wfK, Zx, Zu, Zw, Zc, Yf, Zt, Ze, Yt, Vc.sg, Y1, Y8, Xd, Xc, Zr, Res.own, At.sub, Vc.S1.sub, SV.sub, Res.sub, Xm, Xp, Ys, Yx, Yr, Vc.frS, Kd.sz, Nat.reduceSub, ↓reduceIte, reduceCtorEq, Nat.reduceEqDiff, Nat.reduceAdd, Nat.reduceMul, Nat.reduceLeDiff, Nat.reduceLT, Nat.reduceBEq, Nat.reduceBNe, implies_true, Xs, We.rs, We.res]) | (with_reducible first | refine T.seq ?_ | refine T.block ?_ | assumption | refine And.intro ?_ ?_) | (intro h; first | (exfalso; omega) | exact (tf h ‹_›).elim | exact (tf ‹_› h).elim | skip))
      all_goals first | omega | skip
    | some v =>
      rw [hv] at h
      have h7 : ¬ v ≤ 7 := by
        intro e
        simp [e] at h
      have hN := Tv G H hv 7
      rw [decide_eq_false (by omega)] at hN
      refine ⟨v, We.fn.gcp (by simp) (by simp [Vr, V1, Vu, Wo, Wc, Vc.S1.okN, At.okN, SV.okN, Res.okN, Res.outOk, Zb, Res.own, Value.oneCell']) fun w X fr hglob => ?_⟩
      repeat' (first | ((first | (with_reducible first | refine T.regs ?_ | refine T.cond ?_ | refine T.reg ?_ | refine T.ret ?_ | refine T.exit ?_ | refine T.skip ?_) | ((with_reducible first | refine T.dregs ?_ ?_ | refine T.dreg ?_ ?_ | refine T.dregts ?_ ?_ | refine T.dregt ?_ ?_ | refine T.danys ?_ ?_ | refine T.dany ?_ ?_); exact mix) | ((with_reducible refine Zq.gcp hglob (hP) ?_ ?_); (focus ((simp [Yz, X3, Vc.mtR, Vc.roA, Vc.roM, X1, X4, Xz, X2, Xy, Vc.fnM, Zs, St.find, Zb, Vc.del, Zr, Res.own, Vc.sg, Zx, Zu, Zw, Zc, Zt, Ze, At.sub, Vc.S1.sub, Res.sub, Kd.enc, Ins.cells, Ln.cells, Value.oneCell', Y5, List.nodup_cons]); done))) | ((with_reducible refine Zq.gcp hglob (hN) ?_ ?_); (focus ((simp [Yz, X3, Vc.mtR, Vc.roA, Vc.roM, X1, X4, Xz, X2, Xy, Vc.fnM, Zs, St.find, Zb, Vc.del, Zr, Res.own, Vc.sg, Zx, Zu, Zw, Zc, Zt, Ze, At.sub, Vc.S1.sub, Res.sub, Kd.enc, Ins.cells, Ln.cells, Value.oneCell', Y5, List.nodup_cons]); done)))); simp only [Yg, Z3, Z6, Vc.exK, Zk, Zn, Zh, Zi, Z2, Xq, Y7, Z4, Zj, Zl, Z5, Zm, Zo, Xo, Yb, Xn, Vc.ev, Vc.st, Vc.stq, Vc.gst, Xk, St.rd, St.get, St.put, St.find, Zb, St.new, Vc.gdc, Zv, Yv, Yw, Yu, Xl, Z0, Zy, Yn, Yi, Vc.S1.cells, Vc.upd, Vc.del, Zg, Vc.noV, Kd.enc, Kd.dec, Ins.cells, Ln.cells, Zs, Yd, Yq, Ye, Y4, Vc.rvs, Xe, Zf, Xb, Y2, Y6, Xa, Xg, Xf, Yo, Xi, Ya, Z1, Zd, Zz, Vc.kdL, Xr, Y3, Xj, Z7, SV.bd, Vc.S1.bd, At.bd, Value.oneCell', Int.reduceEq, Int.reduceNeg, Int.reduceLE, Int.reduceLT, Vc.lenOf, Yp, Xh, Z8, Vc.atK, Z9, Vc.unK, Vc.wfK, Zx, Zu, Zw, Zc, Yf, Zt, Ze, Yt, Vc.sg, Y1, Y8, Xd, Xc, Zr, Res.own, At.sub, Vc.S1.sub, SV.sub, Res.sub, Xm, Xp, Ys, Yx, Yr, Vc.frS, Kd.sz, Nat.reduceSub, ↓reduceIte, reduceCtorEq, Nat.reduceEqDiff, Nat.reduceAdd, Nat.reduceMul, Nat.reduceLeDiff, Nat.reduceLT, Nat.reduceBEq, Nat.reduceBNe, implies_true, Xs, We.rs, We.res]) | (with_reducible first | refine T.seq ?_ | refine T.block ?_ | assumption | refine And.intro ?_ ?_) | (intro h; first | (exfalso; omega) | exact (tf h ‹_›).elim | exact (tf ‹_› h).elim | skip))
      all_goals first | omega | skip
  · have hP := Tj G H s [114]
    rw [Jo (fun t e => hp ⟨t, e⟩)] at hP
    generalize Lib.trimPrefix s [114] = t at hP
    refine ⟨0, We.fn.gcp (by simp) (by simp [Vr, V1, Vu, Wo, Wc, Vc.S1.okN, At.okN, SV.okN, Res.okN, Res.outOk, Zb, Res.own, Value.oneCell']) fun w X fr hglob => ?_⟩
    repeat' (first | ((first | (with_reducible first | refine T.regs ?_ | refine T.cond ?_ | refine T.reg ?_ | refine T.ret ?_ | refine T.exit ?_ | refine T.skip ?_) | ((with_reducible first | refine T.dregs ?_ ?_ | refine T.dreg ?_ ?_ | refine T.dregts ?_ ?_ | refine T.dregt ?_ ?_ | refine T.danys ?_ ?_ | refine T.dany ?_ ?_); exact mix) | ((with_reducible refine Zq.gcp hglob (hP) ?_ ?_); (focus ((simp [Yz, X3, Vc.mtR, Vc.roA, Vc.roM, X1, X4, Xz, X2, Xy, Vc.fnM, Zs, St.find, Zb, Vc.del, Zr, Res.own, Vc.sg, Zx, Zu, Zw, Zc, Zt, Ze, At.sub, Vc.S1.sub, Res.sub, Kd.enc, Ins.cells, Ln.cells, Value.oneCell', Y5, List.nodup_cons]); done)))); simp only [Yg, Z3, Z6, Vc.exK, Zk, Zn, Zh, Zi, Z2, Xq, Y7, Z4, Zj, Zl, Z5, Zm, Zo, Xo, Yb, Xn, Vc.ev, Vc.st, Vc.stq, Vc.gst, Xk, St.rd, St.get, St.put, St.find, Zb, St.new, Vc.gdc, Zv, Yv, Yw, Yu, Xl, Z0, Zy, Yn, Yi, Vc.S1.cells, Vc.upd, Vc.del, Zg, Vc.noV, Kd.enc, Kd.dec, Ins.cells, Ln.cells, Zs, Yd, Yq, Ye, Y4, Vc.rvs, Xe, Zf, Xb, Y2, Y6, Xa, Xg, Xf, Yo, Xi, Ya, Z1, Zd, Zz, Vc.kdL, Xr, Y3, Xj, Z7, SV.bd, Vc.S1.bd, At.bd, Value.oneCell', Int.reduceEq, Int.reduceNeg, Int.reduceLE, Int.reduceLT, Vc.lenOf, Yp, Xh, Z8, Vc.atK, Z9, Vc.unK, Vc.wfK, Zx, Zu, Zw, Zc, Yf, Zt, Ze, Yt, Vc.sg, Y1, Y8, Xd, Xc, Zr, Res.own, At.sub, Vc.S1.sub, SV.sub, Res.sub, Xm, Xp, Ys, Yx, Yr, Vc.frS, Kd.sz, Nat.reduceSub, ↓reduceIte, reduceCtorEq, Nat.reduceEqDiff, Nat.reduceAdd, Nat.reduceMul, Nat.reduceLeDiff, Nat.reduceLT, Nat.reduceBEq, Nat.reduceBNe, implies_true, Xs, We.rs, We.res]) | (with_reducible first | refine T.seq ?_ | refine T.block ?_ | assumption | refine And.intro ?_ ?_) | (intro h; first | (exfalso; omega) | exact (tf h ‹_›).elim | exact (tf ‹_› h).elim | skip))
    all_goals first | omega | skip
end Go.Proofs.YtccjjcdjgibilaaGreatDoor
namespace Go.Proofs.YtccjjcdjgibilaaGreatDoor
open Go Go.RowKit Vc
set_option linter.unusedVariables false
set_option linter.unusedSimpArgs false
attribute [local irreducible] T Zq Wa Ent RdC RwC V2 Yl Xt
theorem Ko {s : List UInt8} {i : Nat} (h : i < s.length) {c : UInt8} (e : Wr s i = ((c.toNat : Nat) : Int)) : s[i]? = some c := by
  unfold Wr at e
  rw [List.getD_eq_getElem?_getD, List.getElem?_eq_getElem h] at e
  simp only [Option.getD_some] at e
  rw [List.getElem?_eq_getElem h]
  congr 1
  exact UInt8.toNat_inj.1 (by omega)
theorem byteAt_ne {s : List UInt8} {i : Nat} (h : i < s.length) {c : UInt8} (e : ¬ Wr s i = ((c.toNat : Nat) : Int)) (hn : c ∉ s.take i) : c ∉ s.take (i + 1) := by
  rw [List.take_add_one, List.getElem?_eq_getElem h]
  simp only [Option.toList_some, List.mem_append, List.mem_singleton, not_or]
  refine ⟨hn, fun e2 => e ?_⟩
  unfold Wr
  rw [List.getD_eq_getElem?_getD, List.getElem?_eq_getElem h, e2]
  rfl
end Go.Proofs.YtccjjcdjgibilaaGreatDoor
namespace Go.Proofs.YtccjjcdjgibilaaGreatDoor
open Go Go.RowKit Vc
set_option linter.unusedVariables false
set_option linter.unusedSimpArgs false
attribute [local irreducible] T Zq Wa Ent RdC RwC V2 Yl Xt
theorem cut_at {t : List UInt8} {f i : Nat} (hf : f ≤ i) (hi : i < t.length) (hb : Wr t i = 10) : t.drop f = (t.take i).drop f ++ 10 :: t.drop (i + 1) := by
  have hg := Ko (c := 10) hi hb
  have h1 : t = t.take i ++ t.drop i := (List.take_append_drop i t).symm
  have h2 : t.drop i = 10 :: t.drop (i + 1) := by
    rw [List.drop_eq_getElem_cons hi]
    rw [List.getElem?_eq_getElem hi] at hg
    rw [Option.some.inj hg]
  conv => lhs; rw [h1]
  rw [List.drop_append_of_le_length (by simp; omega), h2]
end Go.Proofs.YtccjjcdjgibilaaGreatDoor
namespace Go.Proofs.YtccjjcdjgibilaaGreatDoor
open Go Go.RowKit Vc
set_option linter.unusedVariables false
set_option linter.unusedSimpArgs false
attribute [local irreducible] T Zq Wa Ent RdC RwC V2 Yl Xt
def blk (b : UInt8) : Prop := b = 32 ∨ b = 9
theorem Pb (b : UInt8) : ([32, 9] : List UInt8).contains b = true ↔ blk b := by simp [blk]
theorem Iw {x : UInt8} {r : List UInt8} (h : blk x) : Lib.trimLeftS (x :: r) [32, 9] = Lib.trimLeftS r [32, 9] := by
  unfold Lib.trimLeftS; rw [List.dropWhile_cons, if_pos ((Pb x).2 h)]
theorem left_no {x : UInt8} {r : List UInt8} (h : ¬ blk x) : Lib.trimLeftS (x :: r) [32, 9] = x :: r := by
  unfold Lib.trimLeftS; rw [List.dropWhile_cons, if_neg (fun e => h ((Pb x).1 e))]
theorem right_yes {x : UInt8} {r : List UInt8} (h : blk x) : Lib.trimRightS (r ++ [x]) [32, 9] = Lib.trimRightS r [32, 9] := by
  unfold Lib.trimRightS; rw [List.reverse_append, List.reverse_singleton, List.singleton_append, List.dropWhile_cons, if_pos ((Pb x).2 h)]
theorem I4 {x : UInt8} {r : List UInt8} (h : ¬ blk x) : Lib.trimRightS (r ++ [x]) [32, 9] = r ++ [x] := by
  unfold Lib.trimRightS; rw [List.reverse_append, List.reverse_singleton, List.singleton_append, List.dropWhile_cons, if_neg (fun e => h ((Pb x).1 e))]; simp
theorem byte_blk (x : UInt8) : blk x ↔ (((x.toNat : Nat) : Int) = 32 ∨ ((x.toNat : Nat) : Int) = 9) := by
  unfold blk
  constructor
  · rintro (rfl | rfl) <;> decide
  · rintro (h | h)
    · left; exact UInt8.toNat_inj.1 (by simp; omega)
    · right; exact UInt8.toNat_inj.1 (by simp; omega)
theorem trimLeft_len (s cs : List UInt8) : (Lib.trimLeftS s cs).length ≤ s.length := by
  unfold Lib.trimLeftS
  exact (List.dropWhile_sublist _).length_le
end Go.Proofs.YtccjjcdjgibilaaGreatDoor
namespace Go.Proofs.YtccjjcdjgibilaaGreatDoor
open Go Go.RowKit Vc
set_option linter.unusedVariables false
set_option linter.unusedSimpArgs false
attribute [local irreducible] T Zq Wa Ent RdC RwC V2 Yl Xt
def Is (s : List UInt8) (most : Int) : Int := match T9 s with
  | some v => if most < v then -1 else v
  | none => -1
end Go.Proofs.YtccjjcdjgibilaaGreatDoor
