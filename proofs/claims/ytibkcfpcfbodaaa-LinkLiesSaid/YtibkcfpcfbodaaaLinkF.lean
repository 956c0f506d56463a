/-
  A part of the proofs of this seat's laws: a step on the way. It has no conditions of its own.
-/
import Derived.Test.YtibkcfpcfbodaaaLinkE
namespace Go.Proofs.Ytibkcfpcfbodaaa
open Go.RowKit Vc
set_option linter.unusedVariables false
set_option linter.unusedSimpArgs false
def entQ (c : Cx) (Q : Exit → St → Prop) (e : Exit) (S : St) : Prop := ∃ S2, Ent c S S2 ∧ Q e S2
theorem T.entQ {c : Cx} {Q : Exit → St → Prop} {S : St} {x : IC} (h : T c x (entQ c Q) S) : T c x Q S := by
  intro ρ a w hh code hc
  refine wp_mono (h ρ a w hh code hc) fun e a' w' hl => ?_
  obtain ⟨S', ρ', g1, S2, g2, g3⟩ := hl
  obtain ⟨ρ2, g4⟩ := g2 ρ' a' w' g1
  exact ⟨S2, ρ2, g4, g3⟩
attribute [local irreducible] T Z9 Wm Ent RdC RwC Sb Yc Wg
theorem Lx : ∀ (l : List Ins) (k : Nat) (acc : List Int), acc.length ≤ 65536 → (Ro l k acc).1.length ≤ 65536
  | [], _, _, h => h
  | x :: l, k, acc, h => by
    simp only [Ro]
    split
    · split
      · simp
      · exact Lx l _ _ (by omega)
    · simp
theorem Kf (l : List Ins) : (Uw l).1.length ≤ 65536 := Lx l 0 [] (by simp)
def lk2 (l : X3) (g : Own) : List Int → Int → List Int → List Int
  | [], _, acc => acc
  | u :: us, at_, acc => lk2 l g us (Y1 (linesOf l u) at_).2.1 (acc ++ (Uw (W7 (T8 g (Y1 (linesOf l u) at_).1) (linesOf l u)).1).1)
set_option maxHeartbeats 8000000 in
theorem I3 {w : World} {X : List Nat} {fr : List Value} {Q : Exit → St → Prop} (l : X3) (own g : Own) (us : List Int) (n : Nat) (sps : List Spot)
    (hu : ∀ u ∈ l, u.2.length ≤ 40000 ∧ (Y1 u.2 0).2.2.1 = 0) (hus : Qf l.length us) (hul : us.length ≤ 400) (hgood : ∀ k, k < us.length → Ry l own us k)
    (hQ : ∀ S', Ent ⟨Try.prog, w, X, 199, fr⟩ S' ⟨[(10, .one (.a (.loc 2 0))), (5, .one (.a (.loc 8 0))), (4, .one (.a (.loc 7 0)))], [(2, .cells 26 [.ref 9, .ref 3, .ref 4]), (3, .row 3 (.int .i64) us), (4, .row 54 .spot sps), (7, .cells 26 [(.raw (.slice none 0 0)), (.raw (.slice none 0 0)), (.raw (.slice none 0 0))]), (8, .cells 29 [.int .i64 0, .int .i64 0]), (9, .row 3 (.int .i64) (lk2 l g us 0 []))], 10⟩ → Q (.exit 6) S') :
    T ⟨Try.prog, w, X, 199, fr⟩ (.loop Yz.c65) Q ⟨[(160, .one (.a (.int .i64 0))), (159, .one (.a (.int .i64 us.length))), (158, .one (.a (.ref 3))), (12, .one (.a (.int .i64 0))), (11, .one (.a (.loc 5 0))), (10, .one (.a (.loc 2 0))), (5, .one (.a (.loc 8 0))), (4, .one (.a (.loc 7 0))), (0, .one (.a (.ref 0)))], [(0, .rou l), (2, .cells 26 [.ref 9, .ref 3, .ref 4]), (3, .row 3 (.int .i64) us), (4, .row 54 .spot sps), (5, .cells 52 [.ref 6]), (6, .smap Try.prog 9 3 (.int .i64) g n), (7, .cells 26 [(.raw (.slice none 0 0)), (.raw (.slice none 0 0)), (.raw (.slice none 0 0))]), (8, .cells 29 [.int .i64 0, .int .i64 0]), (9, .row 3 (.int .i64) [])], 10⟩ := by
  refine T.loop (ι := { p : Nat × Int × List Int // p.1 ≤ us.length ∧ lk2 l g (us.drop p.1) p.2.1 p.2.2 = lk2 l g us 0 [] ∧ p.2.1 = Wr l us p.1 ∧ (0 ≤ p.2.1 ∧ p.2.1 ≤ 65536) ∧ p.2.2.length ≤ 65536 * p.1 })
    (fun x => ⟨[(160, .one (.a (.int .i64 (x.1.1 : Int)))), (159, .one (.a (.int .i64 us.length))), (158, .one (.a (.ref 3))), (12, .one (.a (.int .i64 x.1.2.1))), (11, .one (.a (.loc 5 0))), (10, .one (.a (.loc 2 0))), (5, .one (.a (.loc 8 0))), (4, .one (.a (.loc 7 0))), (0, .one (.a (.ref 0)))], [(0, .rou l), (2, .cells 26 [.ref 9, .ref 3, .ref 4]), (3, .row 3 (.int .i64) us), (4, .row 54 .spot sps), (5, .cells 52 [.ref 6]), (6, .smap Try.prog 9 3 (.int .i64) g n), (7, .cells 26 [(.raw (.slice none 0 0)), (.raw (.slice none 0 0)), (.raw (.slice none 0 0))]), (8, .cells 29 [.int .i64 0, .int .i64 0]), (9, .row 3 (.int .i64) x.1.2.2)], 10⟩) (fun x => us.length - x.1.1) ⟨(0, 0, []), by simp, by simp, by cases us <;> rfl, by simp, by simp⟩ (Ent.mk (id) (by simp [Za, Zb, Vc.bnd, St.get, St.find, Ze, SV.ren, Vc.S1.ren, At.ren, Res.ren, SV.bd, Vc.S1.bd, At.bd, Res.bd, Vc.upd, Vc.del, Kd.enc, Value.oneCell']) (by simp [Za, Zb, Vc.bnd, St.get, St.find, Ze, SV.ren, Vc.S1.ren, At.ren, Res.ren, SV.bd, Vc.S1.bd, At.bd, Res.bd, Vc.upd, Vc.del, Kd.enc, Value.oneCell']) (by simp [Za, Zb, Vc.bnd, St.get, St.find, Ze, SV.ren, Vc.S1.ren, At.ren, Res.ren, SV.bd, Vc.S1.bd, At.bd, Res.bd, Vc.upd, Vc.del, Kd.enc, Value.oneCell']) (by simp [Za, Zb, Vc.bnd, St.get, St.find, Ze, SV.ren, Vc.S1.ren, At.ren, Res.ren, SV.bd, Vc.S1.bd, At.bd, Res.bd, Vc.upd, Vc.del, Kd.enc, Value.oneCell'])) ?_
  rintro ⟨⟨k, at_, ws⟩, hk, hrun, hat, ⟨ha0, ha1⟩, hws⟩
  simp only at hk hrun hat ha0 ha1 hws
  by_cases hlt : k < us.length
  · have hdrop : us.drop k = us.getD k 0 :: us.drop (k + 1) := by
      rw [List.drop_eq_getElem_cons hlt]; simp [List.getD, hlt]
    have hmem : us.getD k 0 ∈ us := by simp [List.getD, hlt]
    have hgk := hgood k hlt
    unfold Ry at hgk
    rw [← hat] at hgk
    generalize hx : us.getD k 0 = u at hdrop hmem hgk
    have hx' : us.getD k (Kd.dflt (.int .i64)) = u := hx
    have hur := hus.2 u hmem
    have humem : l.getD u.toNat Ud ∈ l := by
      have : u.toNat < l.length := by omega
      simp [List.getD, this]
    obtain ⟨hUl, hU0⟩ := hu _ humem
    have hU' : l.getD u.toNat ([], []) = l.getD u.toNat Ud := rfl
    have hU2 : (l.getD u.toNat Ud).2 = linesOf l u := rfl
    rw [hU2] at hUl hU0
    have hwr := Vv (linesOf l u) 0 0 [] [] hU0
    obtain ⟨hsok, hslen, he0, he1⟩ := S9 (linesOf l u) at_ ha0 ha1
    have hSp := S4 (linesOf l u) at_ hUl ha0 ha1
    obtain ⟨hend, hnm⟩ := Tq hgk.1
    have hoff : (Y1 (linesOf l u) at_).2.1 = Wr l us (k + 1) := by rw [hend, Vr l us k hlt, hx, hat]
    rw [hdrop] at hrun
    simp only [lk2] at hrun
    have hw : IntKind.i64.wrap ((k : Int) + 1) = ((k + 1 : Nat) : Int) := Wi (by omega)
    have ht : ((k : Int)).toNat = k := by omega
    have hKn : Iw (kn2 g (Y1 (linesOf l u) at_).1) (T8 g (Y1 (linesOf l u) at_).1) (linesOf l u) := by
      intro x hx hlb hrf
      have hxl := Um ((U2 (hwr x hx) hlb).2 hrf).1
      have h2 := hgk.2 x hx hrf
      unfold kn2
      simp only
      rw [if_pos ⟨hrf, hxl, fun ho => by
        rw [if_pos ho] at h2
        rw [Rc, hnm]; simpa using h2⟩]
    have hRs := P0 (linesOf l u) (kn2 g (Y1 (linesOf l u) at_).1) (T8 g (Y1 (linesOf l u) at_).1) hKn hUl
    generalize hsp1 : (Y1 (linesOf l u) at_).1 = sp at hrun hsok hslen hSp hRs
    generalize hend1 : (Y1 (linesOf l u) at_).2.1 = end_ at hrun hSp he0 he1 hoff
    have hEn := Nl (W7 (T8 g sp) (linesOf l u)).1
    have hem := Kf (W7 (T8 g sp) (linesOf l u)).1
    generalize hen : Uw (W7 (T8 g sp) (linesOf l u)).1 = en at hrun hEn hem
    repeat' (first | ((first | (with_reducible first | refine T.regs ?_ | refine T.cond ?_ | refine T.reg ?_ | refine T.ret ?_ | refine T.exit ?_ | refine T.skip ?_) | ((with_reducible first | refine T.dregs ?_ ?_ | refine T.dreg ?_ ?_ | refine T.dregts ?_ ?_ | refine T.dregt ?_ ?_ | refine T.danys ?_ ?_ | refine T.dany ?_ ?_); exact mix) | ((with_reducible apply Z9.rw (hSp)); (focus ((repeat' (first | exact rfl | exact trivial | refine And.intro ?_ ?_ | (simp [SV.bd, Vc.S1.bd, At.bd, Zo, Yx, Ins.cells, Ln.cells]; done))); done))) | ((with_reducible apply Z9.rw (hEn)); (focus ((repeat' (first | exact rfl | exact trivial | refine And.intro ?_ ?_ | (simp [SV.bd, Vc.S1.bd, At.bd, Zo, Yx, Ins.cells, Ln.cells]; done))); done))) | ((with_reducible refine Z9.gc (hRs) ?_ ?_); rotate_left)); simp only [Z8, Zx, Zy, Vc.exK, Zl, Zn, Zg, Zh, Zu, Xo, Y5, Zw, Zm, Zi, Zv, Zk, Zj, Xn, Z3, Xm, Vc.ev, Vc.st, Vc.stq, Vc.gst, Xj, St.rd, St.get, St.put, St.find, Ze, St.new, Vc.gdc, Zp, Yw, Yr, Yv, Xk, Zs, Zq, Yl, Yf, Vc.S1.cells, Vc.upd, Vc.del, Zf, Vc.noV, Kd.enc, Kd.dec, Ins.cells, Ln.cells, Yb, Z7, Yo, Z5, Y7, Vc.rvs, Xb, Zd, Xa, Y3, Y6, Y9, Xc, Xd, Ym, Xi, Z4, Zt, Zc, Zr, Y4, Xh, Zo, SV.bd, Vc.S1.bd, At.bd, Value.oneCell', Int.reduceEq, Int.reduceNeg, Int.reduceLE, Int.reduceLT, Vc.lenOf, Yq, Xf, Z1, Vc.atK, Z2, Vc.unK, Vc.wfK, Yk, Yg, Yi, Zz, Z6, Yh, Z0, Yu, Vc.sg, Y2, Y8, Xg, Xe, Ya, Res.own, At.sub, Vc.S1.sub, SV.sub, Res.sub, Xl, Xp, Ys, Yt, Yp, Vc.frS, Kd.sz, Nat.reduceSub, ↓reduceIte, reduceCtorEq, Nat.reduceEqDiff, Nat.reduceAdd, Nat.reduceMul, Nat.reduceLeDiff, Nat.reduceLT, Nat.reduceBEq, Nat.reduceBNe, implies_true, Xq, Yz.rs, Yz.res, hx', hU', hU2, hw, ht, Int.ofNat_lt]) | (with_reducible first | refine T.seq ?_ | refine T.block ?_ | assumption | refine And.intro ?_ ?_) | (intro h; first | (exfalso; omega) | exact (tf h ‹_›).elim | exact (tf ‹_› h).elim | skip))
    all_goals first | omega | skip
    · exact ⟨⟨(k + 1, end_, ws ++ en.1), hlt, hrun, hoff, ⟨he0, he1⟩, by simp only [List.length_append]; omega⟩, (Ent.mk (fun n => if n = 9 then 19 else n) (by simp [Za, Zb, Vc.bnd, St.get, St.find, Ze, SV.ren, Vc.S1.ren, At.ren, Res.ren, SV.bd, Vc.S1.bd, At.bd, Res.bd, Vc.upd, Vc.del, Kd.enc, Value.oneCell', hw]) (by simp [Za, Zb, Vc.bnd, St.get, St.find, Ze, SV.ren, Vc.S1.ren, At.ren, Res.ren, SV.bd, Vc.S1.bd, At.bd, Res.bd, Vc.upd, Vc.del, Kd.enc, Value.oneCell', hw]) (by simp [Za, Zb, Vc.bnd, St.get, St.find, Ze, SV.ren, Vc.S1.ren, At.ren, Res.ren, SV.bd, Vc.S1.bd, At.bd, Res.bd, Vc.upd, Vc.del, Kd.enc, Value.oneCell', hw]) (by simp [Za, Zb, Vc.bnd, St.get, St.find, Ze, SV.ren, Vc.S1.ren, At.ren, Res.ren, SV.bd, Vc.S1.bd, At.bd, Res.bd, Vc.upd, Vc.del, Kd.enc, Value.oneCell', hw])), by simp only; omega⟩
    · exact ⟨rfl, ⟨rfl, ⟨rfl, by simp, I4 _ _ 5 6 12 11 g n sp (by omega) rfl rfl rfl rfl (by decide)⟩, trivial⟩, List.nodup_nil⟩
  · have hk2 : k = us.length := by omega
    subst hk2
    rw [List.drop_length] at hrun
    simp only [lk2] at hrun
    subst hrun
    repeat' (first | ((first | (with_reducible first | refine T.regs ?_ | refine T.cond ?_ | refine T.reg ?_ | refine T.ret ?_ | refine T.exit ?_ | refine T.skip ?_) | ((with_reducible first | refine T.dregs ?_ ?_ | refine T.dreg ?_ ?_ | refine T.dregts ?_ ?_ | refine T.dregt ?_ ?_ | refine T.danys ?_ ?_ | refine T.dany ?_ ?_); exact mix)); simp only [Z8, Zx, Zy, Vc.exK, Zl, Zn, Zg, Zh, Zu, Xo, Y5, Zw, Zm, Zi, Zv, Zk, Zj, Xn, Z3, Xm, Vc.ev, Vc.st, Vc.stq, Vc.gst, Xj, St.rd, St.get, St.put, St.find, Ze, St.new, Vc.gdc, Zp, Yw, Yr, Yv, Xk, Zs, Zq, Yl, Yf, Vc.S1.cells, Vc.upd, Vc.del, Zf, Vc.noV, Kd.enc, Kd.dec, Ins.cells, Ln.cells, Yb, Z7, Yo, Z5, Y7, Vc.rvs, Xb, Zd, Xa, Y3, Y6, Y9, Xc, Xd, Ym, Xi, Z4, Zt, Zc, Zr, Y4, Xh, Zo, SV.bd, Vc.S1.bd, At.bd, Value.oneCell', Int.reduceEq, Int.reduceNeg, Int.reduceLE, Int.reduceLT, Vc.lenOf, Yq, Xf, Z1, Vc.atK, Z2, Vc.unK, Vc.wfK, Yk, Yg, Yi, Zz, Z6, Yh, Z0, Yu, Vc.sg, Y2, Y8, Xg, Xe, Ya, Res.own, At.sub, Vc.S1.sub, SV.sub, Res.sub, Xl, Xp, Ys, Yt, Yp, Vc.frS, Kd.sz, Nat.reduceSub, ↓reduceIte, reduceCtorEq, Nat.reduceEqDiff, Nat.reduceAdd, Nat.reduceMul, Nat.reduceLeDiff, Nat.reduceLT, Nat.reduceBEq, Nat.reduceBNe, implies_true, Xq, Yz.rs, Yz.res, Int.ofNat_lt]) | (with_reducible first | refine T.seq ?_ | refine T.block ?_ | assumption | refine And.intro ?_ ?_) | (intro h; first | (exfalso; omega) | exact (tf h ‹_›).elim | exact (tf ‹_› h).elim | skip))
    all_goals first | omega | skip
    exact hQ _ (Ent.mk (id) (by simp [Za, Zb, Vc.bnd, St.get, St.find, Ze, SV.ren, Vc.S1.ren, At.ren, Res.ren, SV.bd, Vc.S1.bd, At.bd, Res.bd, Vc.upd, Vc.del, Kd.enc, Value.oneCell']) (by simp [Za, Zb, Vc.bnd, St.get, St.find, Ze, SV.ren, Vc.S1.ren, At.ren, Res.ren, SV.bd, Vc.S1.bd, At.bd, Res.bd, Vc.upd, Vc.del, Kd.enc, Value.oneCell']) (by simp [Za, Zb, Vc.bnd, St.get, St.find, Ze, SV.ren, Vc.S1.ren, At.ren, Res.ren, SV.bd, Vc.S1.bd, At.bd, Res.bd, Vc.upd, Vc.del, Kd.enc, Value.oneCell']) (by simp [Za, Zb, Vc.bnd, St.get, St.find, Ze, SV.ren, Vc.S1.ren, At.ren, Res.ren, SV.bd, Vc.S1.bd, At.bd, Res.bd, Vc.upd, Vc.del, Kd.enc, Value.oneCell']))
def Wt (l : X3) (entry : List UInt8) : (List Int × List Int × List Spot) × Int × Int :=
  if (Yn l).2.1 ≠ 0 then (([], [], []), (Yn l).2.1, (Yn l).2.2) else
  match (Yn l).1 entry with
  | none => (([], [], []), 6, (l.length : Int))
  | some first => if (lk1 l (Yn l).1 402 0 [first] 0 Wk []).2.1 ≠ 0 then (([], [], []), (lk1 l (Yn l).1 402 0 [first] 0 Wk []).2) else
      ((lk2 l (lk1 l (Yn l).1 402 0 [first] 0 Wk []).1.2.1 (lk1 l (Yn l).1 402 0 [first] 0 Wk []).1.1 0 [], (lk1 l (Yn l).1 402 0 [first] 0 Wk []).1.1, (lk1 l (Yn l).1 402 0 [first] 0 Wk []).1.2.2), 0, 0)
def lkV (r : (List Int × List Int × List Spot) × Int × Int) : SV := if r.2.1 = 0 then .tup [.agg [.ref 1, .ref 2, .ref 3], .agg [.int .i64 0, .int .i64 0]] else .tup [.agg [.raw (.slice none 0 0), .raw (.slice none 0 0), .raw (.slice none 0 0)], .agg [.int .i64 r.2.1, .int .i64 r.2.2]]
def lkR (r : (List Int × List Int × List Spot) × Int × Int) : List (Nat × Res) := if r.2.1 = 0 then [(1, .row 3 (.int .i64) r.1.1), (2, .row 3 (.int .i64) r.1.2.1), (3, .row 54 .spot r.1.2.2)] else []
theorem Md {r : (List Int × List Int × List Spot) × Int × Int} (h : r.2.1 ≠ 0) : lkV r = .tup [.agg [.raw (.slice none 0 0), .raw (.slice none 0 0), .raw (.slice none 0 0)], .agg [.int .i64 r.2.1, .int .i64 r.2.2]] ∧ lkR r = [] := by
  unfold lkV lkR; rw [if_neg h, if_neg h]; exact ⟨rfl, rfl⟩
theorem Lw {r : (List Int × List Int × List Spot) × Int × Int} (h : r.2.1 = 0) : lkV r = .tup [.agg [.ref 1, .ref 2, .ref 3], .agg [.int .i64 0, .int .i64 0]] ∧ lkR r = [(1, .row 3 (.int .i64) r.1.1), (2, .row 3 (.int .i64) r.1.2.1), (3, .row 54 .spot r.1.2.2)] := by
  unfold lkV lkR; rw [if_pos h, if_pos h]; exact ⟨rfl, rfl⟩
set_option maxHeartbeats 8000000 in
theorem Og (l : X3) (entry : List UInt8) (hf : I7 l) (hen : entry.length ≤ 9223372036854775807) :
    GC Try.prog 8 [.a (.ref 0), .a (.str entry)] [(0, .rou l)] 1 [] (lkV (Wt l entry)) (lkR (Wt l entry)) 4 := by
  refine Yz.fn.gc (by simp) (by
    unfold lkV lkR
    by_cases h : (Wt l entry).2.1 = 0
    · rw [if_pos h, if_pos h]; exact (by simp [Pt, Pb, Qt, U4, Uj, Vc.S1.okN, At.okN, SV.okN, Res.okN, Res.outOk, Ze, Res.own, Value.oneCell'])
    · rw [if_neg h, if_neg h]; exact (by simp [Pt, Pb, Qt, U4, Uj, Vc.S1.okN, At.okN, SV.okN, Res.okN, Res.outOk, Ze, Res.own, Value.oneCell'])) fun w X fr => ?_
  have hch := Jf l hf
  generalize hR : Wt l entry = R
  unfold Wt at hR
  by_cases he : (Yn l).2.1 = 0
  · rw [if_neg (by simpa using he)] at hR
    obtain ⟨hl, hu, ho⟩ := W8 he
    obtain ⟨e1, e2⟩ := ch_ok (l := l) (k := (Yn l).2.2) (f := (Yn l).1) (by rw [← he])
    rw [e1, e2] at hch
    generalize hown : (Yn l).1 = own at hR hch ho
    cases hoe : own entry with
    | none =>
      rw [hoe] at hR
      simp only at hR
      obtain ⟨e3, e4⟩ := Md (r := R) (by rw [← hR]; simp)
      rw [e3, e4, ← hR]
      repeat' (first | ((first | (with_reducible first | refine T.regs ?_ | refine T.cond ?_ | refine T.reg ?_ | refine T.ret ?_ | refine T.exit ?_ | refine T.skip ?_) | ((with_reducible first | refine T.dregs ?_ ?_ | refine T.dreg ?_ ?_ | refine T.dregts ?_ ?_ | refine T.dregt ?_ ?_ | refine T.danys ?_ ?_ | refine T.dany ?_ ?_); exact mix) | ((with_reducible refine Z9.gc (hch) ?_ ?_); (focus ((simp [So, Qg, Vc.mtR, Vc.roA, Vc.roM, Qd, Qb, Rs, Qh, Rb, Vc.fnM, Yb, St.find, Ze, Vc.del, Ya, Res.own, Vc.sg, Yk, Yg, Yi, Zz, Yh, Z0, At.sub, Vc.S1.sub, Res.sub, Kd.enc, Ins.cells, Ln.cells, Value.oneCell', W3, List.nodup_cons]))))); simp only [Z8, Zx, Zy, Vc.exK, Zl, Zn, Zg, Zh, Zu, Xo, Y5, Zw, Zm, Zi, Zv, Zk, Zj, Xn, Z3, Xm, Vc.ev, Vc.st, Vc.stq, Vc.gst, Xj, St.rd, St.get, St.put, St.find, Ze, St.new, Vc.gdc, Zp, Yw, Yr, Yv, Xk, Zs, Zq, Yl, Yf, Vc.S1.cells, Vc.upd, Vc.del, Zf, Vc.noV, Kd.enc, Kd.dec, Ins.cells, Ln.cells, Yb, Z7, Yo, Z5, Y7, Vc.rvs, Xb, Zd, Xa, Y3, Y6, Y9, Xc, Xd, Ym, Xi, Z4, Zt, Zc, Zr, Y4, Xh, Zo, SV.bd, Vc.S1.bd, At.bd, Value.oneCell', Int.reduceEq, Int.reduceNeg, Int.reduceLE, Int.reduceLT, Vc.lenOf, Yq, Xf, Z1, Vc.atK, Z2, Vc.unK, Vc.wfK, Yk, Yg, Yi, Zz, Z6, Yh, Z0, Yu, Vc.sg, Y2, Y8, Xg, Xe, Ya, Res.own, At.sub, Vc.S1.sub, SV.sub, Res.sub, Xl, Xp, Ys, Yt, Yp, Vc.frS, Kd.sz, Nat.reduceSub, ↓reduceIte, reduceCtorEq, Nat.reduceEqDiff, Nat.reduceAdd, Nat.reduceMul, Nat.reduceLeDiff, Nat.reduceLT, Nat.reduceBEq, Nat.reduceBNe, implies_true, Xq, Yz.rs, Yz.res, hoe]) | (with_reducible first | refine T.seq ?_ | refine T.block ?_ | assumption | refine And.intro ?_ ?_) | (intro h; first | (exfalso; omega) | exact (tf h ‹_›).elim | exact (tf ‹_› h).elim | skip))
      all_goals first | omega | skip
    | some first =>
      rw [hoe] at hR
      simp only at hR
      generalize hRES : lk1 l own 402 0 [first] 0 Wk [] = RES at hR
      repeat' (first | ((first | (with_reducible first | refine T.regs ?_ | refine T.cond ?_ | refine T.reg ?_ | refine T.ret ?_ | refine T.exit ?_ | refine T.skip ?_) | ((with_reducible first | refine T.dregs ?_ ?_ | refine T.dreg ?_ ?_ | refine T.dregts ?_ ?_ | refine T.dregt ?_ ?_ | refine T.danys ?_ ?_ | refine T.dany ?_ ?_); exact mix) | ((with_reducible refine Z9.gc (hch) ?_ ?_); (focus ((simp [So, Qg, Vc.mtR, Vc.roA, Vc.roM, Qd, Qb, Rs, Qh, Rb, Vc.fnM, Yb, St.find, Ze, Vc.del, Ya, Res.own, Vc.sg, Yk, Yg, Yi, Zz, Yh, Z0, At.sub, Vc.S1.sub, Res.sub, Kd.enc, Ins.cells, Ln.cells, Value.oneCell', W3, List.nodup_cons]))))); simp only [Z8, Zx, Zy, Vc.exK, Zl, Zn, Zg, Zh, Zu, Xo, Y5, Zw, Zm, Zi, Zv, Zk, Zj, Xn, Z3, Xm, Vc.ev, Vc.st, Vc.stq, Vc.gst, Xj, St.rd, St.get, St.put, St.find, Ze, St.new, Vc.gdc, Zp, Yw, Yr, Yv, Xk, Zs, Zq, Yl, Yf, Vc.S1.cells, Vc.upd, Vc.del, Zf, Vc.noV, Kd.enc, Kd.dec, Ins.cells, Ln.cells, Yb, Z7, Yo, Z5, Y7, Vc.rvs, Xb, Zd, Xa, Y3, Y6, Y9, Xc, Xd, Ym, Xi, Z4, Zt, Zc, Zr, Y4, Xh, Zo, SV.bd, Vc.S1.bd, At.bd, Value.oneCell', Int.reduceEq, Int.reduceNeg, Int.reduceLE, Int.reduceLT, Vc.lenOf, Yq, Xf, Z1, Vc.atK, Z2, Vc.unK, Vc.wfK, Yk, Yg, Yi, Zz, Z6, Yh, Z0, Yu, Vc.sg, Y2, Y8, Xg, Xe, Ya, Res.own, At.sub, Vc.S1.sub, SV.sub, Res.sub, Xl, Xp, Ys, Yt, Yp, Vc.frS, Kd.sz, Nat.reduceSub, ↓reduceIte, reduceCtorEq, Nat.reduceEqDiff, Nat.reduceAdd, Nat.reduceMul, Nat.reduceLeDiff, Nat.reduceLT, Nat.reduceBEq, Nat.reduceBNe, implies_true, Xq, Yz.rs, Yz.res, hoe]) | (with_reducible first | refine T.seq ?_ | refine T.block ?_ | assumption | refine And.intro ?_ ?_) | (intro h; first | (exfalso; omega) | exact (tf h ‹_›).elim | exact (tf ‹_› h).elim | skip))
      all_goals first | omega | skip
      refine T.weak (Ent.litRow (m := 8) (.int .i64) [first] rfl rfl rfl rfl (by decide)) ?_
      refine T.weak (Ent.nilCell (m := 5) (j := 2) 54 .spot rfl rfl) ?_
      refine T.entQ ?_
      have hgl := R5 (l := l) (own := own) 402 0 [first] 0 Wk []
      rw [hRES] at hgl
      refine T.weak (Ent.mk (fun n => if n = 1 then 3 else if n = 2 then 5 else if n = 3 then 8 else if n = 4 then 9 else if n = 5 then 7 else if n = 7 then 1 else if n = 8 then 2 else n) (by simp [Za, Zb, Vc.bnd, St.get, St.find, Ze, SV.ren, Vc.S1.ren, At.ren, Res.ren, SV.bd, Vc.S1.bd, At.bd, Res.bd, Vc.upd, Vc.del, Kd.enc, Value.oneCell', Ve]) (by simp [Za, Zb, Vc.bnd, St.get, St.find, Ze, SV.ren, Vc.S1.ren, At.ren, Res.ren, SV.bd, Vc.S1.bd, At.bd, Res.bd, Vc.upd, Vc.del, Kd.enc, Value.oneCell', Ve]) (by simp [Za, Zb, Vc.bnd, St.get, St.find, Ze, SV.ren, Vc.S1.ren, At.ren, Res.ren, SV.bd, Vc.S1.bd, At.bd, Res.bd, Vc.upd, Vc.del, Kd.enc, Value.oneCell', Ve]) (by simp [Za, Zb, Vc.bnd, St.get, St.find, Ze, SV.ren, Vc.S1.ren, At.ren, Res.ren, SV.bd, Vc.S1.bd, At.bd, Res.bd, Vc.upd, Vc.del, Kd.enc, Value.oneCell', Ve])) (Ic l own [first] RES hl hu ho ⟨by simp, fun v hv => by
          simp only [List.mem_singleton] at hv; subst hv; exact ho _ _ hoe⟩ hRES (fun hz S1 i at_ n hus hsl he1 => ⟨_, he1, ?_⟩) fun hz S1 he1 => ⟨_, he1, ?_⟩)
      · obtain ⟨hgood, _⟩ := hgl hz (by simp) (by simp [Wr]) (fun k hk => by omega)
        rw [if_neg (by simpa using hz)] at hR
        obtain ⟨e3, e4⟩ := Lw (r := R) (by rw [← hR])
        rw [e3, e4, ← hR]
        generalize RES.1.1 = us at *
        generalize RES.1.2.1 = g at *
        generalize RES.1.2.2 = sps at *
        have hul := T0 _ _ hus
        simp only [Z8, Zx, Zy, Vc.exK, Zl, Zn, Zg, Zh, Zu, Xo, Y5, Zw, Zm, Zi, Zv, Zk, Zj, Xn, Z3, Xm, Vc.ev, Vc.st, Vc.stq, Vc.gst, Xj, St.rd, St.get, St.put, St.find, Ze, St.new, Vc.gdc, Zp, Yw, Yr, Yv, Xk, Zs, Zq, Yl, Yf, Vc.S1.cells, Vc.upd, Vc.del, Zf, Vc.noV, Kd.enc, Kd.dec, Ins.cells, Ln.cells, Yb, Z7, Yo, Z5, Y7, Vc.rvs, Xb, Zd, Xa, Y3, Y6, Y9, Xc, Xd, Ym, Xi, Z4, Zt, Zc, Zr, Y4, Xh, Zo, SV.bd, Vc.S1.bd, At.bd, Value.oneCell', Int.reduceEq, Int.reduceNeg, Int.reduceLE, Int.reduceLT, Vc.lenOf, Yq, Xf, Z1, Vc.atK, Z2, Vc.unK, Vc.wfK, Yk, Yg, Yi, Zz, Z6, Yh, Z0, Yu, Vc.sg, Y2, Y8, Xg, Xe, Ya, Res.own, At.sub, Vc.S1.sub, SV.sub, Res.sub, Xl, Xp, Ys, Yt, Yp, Vc.frS, Kd.sz, Nat.reduceSub, ↓reduceIte, reduceCtorEq, Nat.reduceEqDiff, Nat.reduceAdd, Nat.reduceMul, Nat.reduceLeDiff, Nat.reduceLT, Nat.reduceBEq, Nat.reduceBNe, implies_true, Xq]
        refine T.weak (Ent.nilCell (m := 2) (j := 0) 3 (.int .i64) rfl rfl) ?_
        repeat' (first | ((first | (with_reducible first | refine T.regs ?_ | refine T.cond ?_ | refine T.reg ?_ | refine T.ret ?_ | refine T.exit ?_ | refine T.skip ?_) | ((with_reducible first | refine T.dregs ?_ ?_ | refine T.dreg ?_ ?_ | refine T.dregts ?_ ?_ | refine T.dregt ?_ ?_ | refine T.danys ?_ ?_ | refine T.dany ?_ ?_); exact mix)); simp only [Z8, Zx, Zy, Vc.exK, Zl, Zn, Zg, Zh, Zu, Xo, Y5, Zw, Zm, Zi, Zv, Zk, Zj, Xn, Z3, Xm, Vc.ev, Vc.st, Vc.stq, Vc.gst, Xj, St.rd, St.get, St.put, St.find, Ze, St.new, Vc.gdc, Zp, Yw, Yr, Yv, Xk, Zs, Zq, Yl, Yf, Vc.S1.cells, Vc.upd, Vc.del, Zf, Vc.noV, Kd.enc, Kd.dec, Ins.cells, Ln.cells, Yb, Z7, Yo, Z5, Y7, Vc.rvs, Xb, Zd, Xa, Y3, Y6, Y9, Xc, Xd, Ym, Xi, Z4, Zt, Zc, Zr, Y4, Xh, Zo, SV.bd, Vc.S1.bd, At.bd, Value.oneCell', Int.reduceEq, Int.reduceNeg, Int.reduceLE, Int.reduceLT, Vc.lenOf, Yq, Xf, Z1, Vc.atK, Z2, Vc.unK, Vc.wfK, Yk, Yg, Yi, Zz, Z6, Yh, Z0, Yu, Vc.sg, Y2, Y8, Xg, Xe, Ya, Res.own, At.sub, Vc.S1.sub, SV.sub, Res.sub, Xl, Xp, Ys, Yt, Yp, Vc.frS, Kd.sz, Nat.reduceSub, ↓reduceIte, reduceCtorEq, Nat.reduceEqDiff, Nat.reduceAdd, Nat.reduceMul, Nat.reduceLeDiff, Nat.reduceLT, Nat.reduceBEq, Nat.reduceBNe, implies_true, Xq, Yz.rs, Yz.res]) | (with_reducible first | refine T.seq ?_ | refine T.block ?_ | assumption | refine And.intro ?_ ?_) | (intro h; first | (exfalso; omega) | exact (tf h ‹_›).elim | exact (tf ‹_› h).elim | skip))
        all_goals first | omega | skip
        refine T.weak (Ent.mk (id) (by simp [Za, Zb, Vc.bnd, St.get, St.find, Ze, SV.ren, Vc.S1.ren, At.ren, Res.ren, SV.bd, Vc.S1.bd, At.bd, Res.bd, Vc.upd, Vc.del, Kd.enc, Value.oneCell']) (by simp [Za, Zb, Vc.bnd, St.get, St.find, Ze, SV.ren, Vc.S1.ren, At.ren, Res.ren, SV.bd, Vc.S1.bd, At.bd, Res.bd, Vc.upd, Vc.del, Kd.enc, Value.oneCell']) (by simp [Za, Zb, Vc.bnd, St.get, St.find, Ze, SV.ren, Vc.S1.ren, At.ren, Res.ren, SV.bd, Vc.S1.bd, At.bd, Res.bd, Vc.upd, Vc.del, Kd.enc, Value.oneCell']) (by simp [Za, Zb, Vc.bnd, St.get, St.find, Ze, SV.ren, Vc.S1.ren, At.ren, Res.ren, SV.bd, Vc.S1.bd, At.bd, Res.bd, Vc.upd, Vc.del, Kd.enc, Value.oneCell'])) (I3 l own g us n sps hu hus (by omega) hgood fun S2 he2 => ?_)
        simp only [Z8, Zx, Zy, Vc.exK, Zl, Zn, Zg, Zh, Zu, Xo, Y5, Zw, Zm, Zi, Zv, Zk, Zj, Xn, Z3, Xm, Vc.ev, Vc.st, Vc.stq, Vc.gst, Xj, St.rd, St.get, St.put, St.find, Ze, St.new, Vc.gdc, Zp, Yw, Yr, Yv, Xk, Zs, Zq, Yl, Yf, Vc.S1.cells, Vc.upd, Vc.del, Zf, Vc.noV, Kd.enc, Kd.dec, Ins.cells, Ln.cells, Yb, Z7, Yo, Z5, Y7, Vc.rvs, Xb, Zd, Xa, Y3, Y6, Y9, Xc, Xd, Ym, Xi, Z4, Zt, Zc, Zr, Y4, Xh, Zo, SV.bd, Vc.S1.bd, At.bd, Value.oneCell', Int.reduceEq, Int.reduceNeg, Int.reduceLE, Int.reduceLT, Vc.lenOf, Yq, Xf, Z1, Vc.atK, Z2, Vc.unK, Vc.wfK, Yk, Yg, Yi, Zz, Z6, Yh, Z0, Yu, Vc.sg, Y2, Y8, Xg, Xe, Ya, Res.own, At.sub, Vc.S1.sub, SV.sub, Res.sub, Xl, Xp, Ys, Yt, Yp, Vc.frS, Kd.sz, Nat.reduceSub, ↓reduceIte, reduceCtorEq, Nat.reduceEqDiff, Nat.reduceAdd, Nat.reduceMul, Nat.reduceLeDiff, Nat.reduceLT, Nat.reduceBEq, Nat.reduceBNe, implies_true, Xq]
        refine T.weak he2 ?_
        repeat' (first | ((first | (with_reducible first | refine T.regs ?_ | refine T.cond ?_ | refine T.reg ?_ | refine T.ret ?_ | refine T.exit ?_ | refine T.skip ?_) | ((with_reducible first | refine T.dregs ?_ ?_ | refine T.dreg ?_ ?_ | refine T.dregts ?_ ?_ | refine T.dregt ?_ ?_ | refine T.danys ?_ ?_ | refine T.dany ?_ ?_); exact mix)); simp only [Z8, Zx, Zy, Vc.exK, Zl, Zn, Zg, Zh, Zu, Xo, Y5, Zw, Zm, Zi, Zv, Zk, Zj, Xn, Z3, Xm, Vc.ev, Vc.st, Vc.stq, Vc.gst, Xj, St.rd, St.get, St.put, St.find, Ze, St.new, Vc.gdc, Zp, Yw, Yr, Yv, Xk, Zs, Zq, Yl, Yf, Vc.S1.cells, Vc.upd, Vc.del, Zf, Vc.noV, Kd.enc, Kd.dec, Ins.cells, Ln.cells, Yb, Z7, Yo, Z5, Y7, Vc.rvs, Xb, Zd, Xa, Y3, Y6, Y9, Xc, Xd, Ym, Xi, Z4, Zt, Zc, Zr, Y4, Xh, Zo, SV.bd, Vc.S1.bd, At.bd, Value.oneCell', Int.reduceEq, Int.reduceNeg, Int.reduceLE, Int.reduceLT, Vc.lenOf, Yq, Xf, Z1, Vc.atK, Z2, Vc.unK, Vc.wfK, Yk, Yg, Yi, Zz, Z6, Yh, Z0, Yu, Vc.sg, Y2, Y8, Xg, Xe, Ya, Res.own, At.sub, Vc.S1.sub, SV.sub, Res.sub, Xl, Xp, Ys, Yt, Yp, Vc.frS, Kd.sz, Nat.reduceSub, ↓reduceIte, reduceCtorEq, Nat.reduceEqDiff, Nat.reduceAdd, Nat.reduceMul, Nat.reduceLeDiff, Nat.reduceLT, Nat.reduceBEq, Nat.reduceBNe, implies_true, Xq, Yz.rs, Yz.res]) | (with_reducible first | refine T.seq ?_ | refine T.block ?_ | assumption | refine And.intro ?_ ?_) | (intro h; first | (exfalso; omega) | exact (tf h ‹_›).elim | exact (tf ‹_› h).elim | skip))
        all_goals first | omega | skip
      · rw [if_pos (by simpa using hz)] at hR
        obtain ⟨e3, e4⟩ := Md (r := R) (by rw [← hR]; simpa using hz)
        rw [e3, e4, ← hR]
        simp only [Z8, Zx, Zy, Vc.exK, Zl, Zn, Zg, Zh, Zu, Xo, Y5, Zw, Zm, Zi, Zv, Zk, Zj, Xn, Z3, Xm, Vc.ev, Vc.st, Vc.stq, Vc.gst, Xj, St.rd, St.get, St.put, St.find, Ze, St.new, Vc.gdc, Zp, Yw, Yr, Yv, Xk, Zs, Zq, Yl, Yf, Vc.S1.cells, Vc.upd, Vc.del, Zf, Vc.noV, Kd.enc, Kd.dec, Ins.cells, Ln.cells, Yb, Z7, Yo, Z5, Y7, Vc.rvs, Xb, Zd, Xa, Y3, Y6, Y9, Xc, Xd, Ym, Xi, Z4, Zt, Zc, Zr, Y4, Xh, Zo, SV.bd, Vc.S1.bd, At.bd, Value.oneCell', Int.reduceEq, Int.reduceNeg, Int.reduceLE, Int.reduceLT, Vc.lenOf, Yq, Xf, Z1, Vc.atK, Z2, Vc.unK, Vc.wfK, Yk, Yg, Yi, Zz, Z6, Yh, Z0, Yu, Vc.sg, Y2, Y8, Xg, Xe, Ya, Res.own, At.sub, Vc.S1.sub, SV.sub, Res.sub, Xl, Xp, Ys, Yt, Yp, Vc.frS, Kd.sz, Nat.reduceSub, ↓reduceIte, reduceCtorEq, Nat.reduceEqDiff, Nat.reduceAdd, Nat.reduceMul, Nat.reduceLeDiff, Nat.reduceLT, Nat.reduceBEq, Nat.reduceBNe, implies_true, Xq, Yz.res]
  · rw [if_pos (by simpa using he)] at hR
    obtain ⟨e1, e2⟩ := Kn (l := l) (k := (Yn l).2.2) (f := (Yn l).1) (e := (Yn l).2.1) rfl he
    rw [e1, e2] at hch
    obtain ⟨e3, e4⟩ := Md (r := R) (by rw [← hR]; simpa using he)
    rw [e3, e4, ← hR]
    repeat' (first | ((first | (with_reducible first | refine T.regs ?_ | refine T.cond ?_ | refine T.reg ?_ | refine T.ret ?_ | refine T.exit ?_ | refine T.skip ?_) | ((with_reducible first | refine T.dregs ?_ ?_ | refine T.dreg ?_ ?_ | refine T.dregts ?_ ?_ | refine T.dregt ?_ ?_ | refine T.danys ?_ ?_ | refine T.dany ?_ ?_); exact mix) | ((with_reducible refine Z9.gc (hch) ?_ ?_); (focus ((simp [So, Qg, Vc.mtR, Vc.roA, Vc.roM, Qd, Qb, Rs, Qh, Rb, Vc.fnM, Yb, St.find, Ze, Vc.del, Ya, Res.own, Vc.sg, Yk, Yg, Yi, Zz, Yh, Z0, At.sub, Vc.S1.sub, Res.sub, Kd.enc, Ins.cells, Ln.cells, Value.oneCell', W3, List.nodup_cons]))))); simp only [Z8, Zx, Zy, Vc.exK, Zl, Zn, Zg, Zh, Zu, Xo, Y5, Zw, Zm, Zi, Zv, Zk, Zj, Xn, Z3, Xm, Vc.ev, Vc.st, Vc.stq, Vc.gst, Xj, St.rd, St.get, St.put, St.find, Ze, St.new, Vc.gdc, Zp, Yw, Yr, Yv, Xk, Zs, Zq, Yl, Yf, Vc.S1.cells, Vc.upd, Vc.del, Zf, Vc.noV, Kd.enc, Kd.dec, Ins.cells, Ln.cells, Yb, Z7, Yo, Z5, Y7, Vc.rvs, Xb, Zd, Xa, Y3, Y6, Y9, Xc, Xd, Ym, Xi, Z4, Zt, Zc, Zr, Y4, Xh, Zo, SV.bd, Vc.S1.bd, At.bd, Value.oneCell', Int.reduceEq, Int.reduceNeg, Int.reduceLE, Int.reduceLT, Vc.lenOf, Yq, Xf, Z1, Vc.atK, Z2, Vc.unK, Vc.wfK, Yk, Yg, Yi, Zz, Z6, Yh, Z0, Yu, Vc.sg, Y2, Y8, Xg, Xe, Ya, Res.own, At.sub, Vc.S1.sub, SV.sub, Res.sub, Xl, Xp, Ys, Yt, Yp, Vc.frS, Kd.sz, Nat.reduceSub, ↓reduceIte, reduceCtorEq, Nat.reduceEqDiff, Nat.reduceAdd, Nat.reduceMul, Nat.reduceLeDiff, Nat.reduceLT, Nat.reduceBEq, Nat.reduceBNe, implies_true, Xq, Yz.rs, Yz.res, he]) | (with_reducible first | refine T.seq ?_ | refine T.block ?_ | assumption | refine And.intro ?_ ?_) | (intro h; first | (exfalso; omega) | exact (tf h ‹_›).elim | exact (tf ‹_› h).elim | skip))
    all_goals first | omega | skip
end Go.Proofs.Ytibkcfpcfbodaaa
