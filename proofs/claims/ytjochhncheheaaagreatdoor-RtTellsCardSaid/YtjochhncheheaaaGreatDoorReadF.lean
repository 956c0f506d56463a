/-
  Plain laws of lines: kinds' words, pieces, and the two ways of taking a line's fields. No program in sight; no conditions.
-/
import Derived.Test.YtjochhncheheaaaGreatDoorReadP
import Derived.Test.YtjochhncheheaaaGreatDoorReadA
namespace Go.Proofs.YtjochhncheheaaaGreatDoor
open Go Go.RowKit Vc
set_option linter.unusedVariables false
set_option linter.unusedSimpArgs false
def Ip : List (List UInt8) → List UInt8 → Nat → Int → Int
  | [], _, _, o => o
  | x :: l, w, k, o => Ip l w (k + 1) (if x = w then (k : Int) else o)
theorem Ot : ∀ (l : List (List UInt8)) (w : List UInt8) (k : Nat), w ∉ l → Wz l w k = -1
  | [], _, _, _ => rfl
  | x :: l, w, k, h => by
    simp only [List.mem_cons, not_or] at h
    unfold Wz
    rw [if_neg (fun e => h.1 e.symm)]
    exact Ot l w (k + 1) h.2
theorem Nn : ∀ (l : List (List UInt8)) (w : List UInt8) (k : Nat) (o : Int), l.Nodup → Ip l w k o = if w ∈ l then Wz l w k else o
  | [], _, _, _, _ => by simp [Ip]
  | x :: l, w, k, o, h => by
    have hn := List.nodup_cons.1 h
    unfold Ip
    rw [Nn l w (k + 1) _ hn.2]
    by_cases hx : x = w
    · subst hx
      rw [if_neg hn.1, if_pos rfl, if_pos (List.mem_cons_self ..)]
      unfold Wz
      rw [if_pos rfl]
    · have e : Wz (x :: l) w k = Wz l w (k + 1) := by
        show (if x = w then (k : Int) else Wz l w (k + 1)) = _
        rw [if_neg hx]
      by_cases hm : w ∈ l
      · rw [if_pos hm, if_pos (List.mem_cons_of_mem _ hm), e]
      · have hm2 : w ∉ x :: l := by
          simp only [List.mem_cons, not_or]
          exact ⟨fun e => hx e.symm, hm⟩
        rw [if_neg hm, if_neg hm2, if_neg hx]
theorem Jr : Tc.Nodup := by decide
theorem kind_last (w : List UInt8) : Ip Tc w 0 (-1) = kindS w := by
  rw [Nn _ _ _ _ Jr]
  unfold kindS
  split
  · rfl
  · rename_i h
    rw [Ot _ _ _ h]
theorem wordS_drop {k : Nat} (hk : k < 33) : Tc.drop k = H3 (k : Int) :: Tc.drop (k + 1) := by
  have hl : k < Tc.length := hk
  rw [List.drop_eq_getElem_cons hl]
  have e : ((k : Int)).toNat = k := by omega
  simp [H3, List.getD, e, hl]
theorem kindL_rng : ∀ (l : List (List UInt8)) (w : List UInt8) (k : Nat), Wz l w k = -1 ∨ ((k : Int) ≤ Wz l w k ∧ Wz l w k < (k + l.length : Nat))
  | [], _, _ => .inl rfl
  | x :: l, w, k => by
    unfold Wz
    split
    · right; simp only [List.length_cons]; omega
    · rcases kindL_rng l w (k + 1) with h | h
      · exact .inl h
      · right; simp only [List.length_cons]; omega
theorem Fs (w : List UInt8) : kindS w = -1 ∨ (0 ≤ kindS w ∧ kindS w ≤ 32) := by
  have := kindL_rng Tc w 0
  have e : Tc.length = 33 := rfl
  unfold kindS
  rw [e] at this
  omega
theorem Pp (c : UInt8) : ∀ s : List UInt8, (upToS c s).1.length ≤ s.length ∧ (upToS c s).2.1.length ≤ s.length ∧ ((upToS c s).2.2 = true → (upToS c s).2.1.length + 1 ≤ s.length)
  | [] => by simp [upToS]
  | b :: r => by
    have ih := Pp c r
    rw [U5]
    split
    · simp
    · simp only [List.length_cons]
      omega
theorem Va (s : List UInt8) : (trimB s).length ≤ s.length := by
  unfold trimB Lib.trimS Lib.trimLeftS Lib.trimRightS
  have h1 := (List.dropWhile_sublist (p := fun b => ([32, 9] : List UInt8).contains b) (l := ((s.reverse.dropWhile (fun b => ([32, 9] : List UInt8).contains b)).reverse))).length_le
  have h2 := (List.dropWhile_sublist (p := fun b => ([32, 9] : List UInt8).contains b) (l := s.reverse)).length_le
  simp only [List.length_reverse] at h1 h2
  exact Nat.le_trans h1 h2
theorem splitS_map (c : UInt8) (f : List UInt8 → List UInt8) (acc : List (List UInt8)) (r : List UInt8) :
    acc ++ (splitS c r).map f = (acc ++ [f (upToS c r).1]) ++ (if (upToS c r).2.2 = true then (splitS c (upToS c r).2.1).map f else []) := by
  rw [Um]
  split <;> simp_all
def Mj (op : Int) (d s : Nat) (ps : List (List UInt8)) : Except Int Ln := match Tv op ps with
  | .error e => .error e
  | .ok (i, r, ps) => if ps = [] then .ok ⟨[], ⟨op, d, s, i⟩, r⟩ else .error 5
def insS (op : Int) (d : Nat) (ps : List (List UInt8)) : Except Int Ln := match Sv (V1 op) ps with
  | .error e => .error e
  | .ok (s, ps) => Mj op d s ps
theorem Gc (op : Int) (ps : List (List UInt8)) : insV op ps = match Sv (V2 op) ps with
  | .error e => .error e
  | .ok (d, ps) => insS op d ps := rfl
theorem Ko (ps : List (List UInt8)) : Sv false ps = .ok (0, ps) := rfl
theorem Li : Sv true [] = .error 5 := rfl
theorem Le {p : List UInt8} {n : Nat} (h : Sr p = some n) (ps : List (List UInt8)) : Sv true (p :: ps) = .ok (n, ps) := by
  simp [Sv, h]
theorem Mr {p : List UInt8} (h : Sr p = none) (ps : List (List UInt8)) : Sv true (p :: ps) = .error 2 := by
  simp [Sv, h]
theorem Ej {op : Int} (h : Wh op = false) (ps : List (List UInt8)) : Tv op ps = .ok (0, [], ps) := by simp [Tv, h]
theorem Gt {op : Int} (h : Wh op = true) : Tv op [] = .error 5 := by simp [Tv, h]
theorem Gs {op : Int} (h : Wh op = true) {p : List UInt8} {n : Nat} (hn : numS p 65535 = some n) (ps : List (List UInt8)) : Tv op (p :: ps) = .ok (n, [], ps) := by simp [Tv, h, hn]
theorem G0 {op : Int} (h : Wh op = true) {p : List UInt8} (hn : numS p 65535 = none) (hr : Xo p = true ∧ Vh op = true) (ps : List (List UInt8)) : Tv op (p :: ps) = .ok (0, p, ps) := by simp [Tv, h, hn, hr.1, hr.2]
theorem G7 {op : Int} (h : Wh op = true) {p : List UInt8} (hn : numS p 65535 = none) (hr : ¬ (Xo p = true ∧ Vh op = true)) (ps : List (List UInt8)) : Tv op (p :: ps) = .error 2 := by
  simp only [Tv, h, hn, hr, if_false]; rfl
theorem regV_le {p : List UInt8} {n : Nat} (h : Sr p = some n) : n ≤ 7 := by
  cases p with
  | nil => cases h
  | cons b t =>
    have e : Sr (b :: t) = if b = 114 then numS t 7 else none := rfl
    rw [e] at h
    split at h
    · unfold numS at h
      split at h
      · split at h
        · cases h; assumption
        · cases h
      · cases h
    · cases h
theorem numS_le {p : List UInt8} {n m : Nat} (h : numS p m = some n) : n ≤ m := by
  unfold numS at h
  split at h
  · split at h
    · cases h; assumption
    · cases h
  · cases h
theorem V7 (c : UInt8) : ∀ (s : List UInt8), ∀ p ∈ splitS c s, p.length ≤ s.length
  | [], p, h => by
    simp only [splitS, List.mem_singleton] at h
    subst h; simp
  | b :: r, p, h => by
    have ih := V7 c r
    rw [Vd] at h
    split at h
    · rcases List.mem_cons.1 h with rfl | h
      · simp
      · have := ih p h
        simp only [List.length_cons]; omega
    · split at h
      · simp only [List.mem_singleton] at h
        subst h; simp
      · rename_i q qs hq
        rcases List.mem_cons.1 h with rfl | h
        · have := ih q (by rw [hq]; exact List.mem_cons_self ..)
          simp only [List.length_cons]; omega
        · have := ih p (by rw [hq]; exact List.mem_cons_of_mem _ h)
          simp only [List.length_cons]; omega
theorem Iz (rest : List UInt8) : (∀ p ∈ Tp rest, p.length ≤ rest.length) ∧ (Tp rest).length ≤ rest.length + 1 := by
  have ht := Va rest
  unfold Tp
  split
  · simp
  · refine ⟨fun p hp => ?_, ?_⟩
    · obtain ⟨q, hq, rfl⟩ := List.mem_map.1 hp
      have h1 := V7 44 _ q hq
      have h2 := Va q
      omega
    · have h1 := Sm 44 (trimB rest)
      have h2 := List.count_le_length (a := (44 : UInt8)) (l := trimB rest)
      rw [List.length_map, h1]; omega
def lineT (s : List UInt8) : Ln × Bool × Int := match R6 s with
  | .error e => (ln0, false, e)
  | .ok none => (ln0, false, 0)
  | .ok (some x) => (x, true, 0)
def Oi (p : List UInt8) : Int := match Sr p with
  | some n => n
  | none => -1
theorem numV_nil : Q6 [] = none := rfl
theorem Ea (t : List UInt8) : Oi (114 :: t) = match numS t 7 with | some n => (n : Int) | none => -1 := rfl
theorem Hn {p : List UInt8} (h : ¬ 1 < p.length) : Oi p = -1 := by
  cases p with
  | nil => rfl
  | cons b t =>
    have ht : t = [] := List.length_eq_zero_iff.1 (by simp only [List.length_cons] at h; omega)
    subst ht
    by_cases hb : b = 114
    · subst hb; rfl
    · simp [Oi, Sr, hb]
theorem Ft {b : UInt8} {t : List UInt8} (h : b ≠ 114) : Oi (b :: t) = -1 := by simp [Oi, Sr, h]
theorem K2 {p : List UInt8} : Oi p < 0 ↔ Sr p = none := by
  unfold Oi
  split
  · rename_i n h; simp [h]
  · rename_i h; simp [h]
theorem regR_some {p : List UInt8} {n : Nat} (h : Sr p = some n) : Oi p = n := by simp [Oi, h]
theorem regR_none {p : List UInt8} (h : Sr p = none) : Oi p = -1 := by simp [Oi, h]
end Go.Proofs.YtjochhncheheaaaGreatDoor
namespace Go.Proofs.YtjochhncheheaaaGreatDoor
open Go Go.RowKit Vc
set_option linter.unusedVariables false
set_option linter.unusedSimpArgs false
attribute [local irreducible] T Za Z2 RdC RwC Xl Zc Zs
theorem Ent.view {c : Cx} {S : St} {t m : Nat} (sz m0 lo hi : Nat) {g : Prop} (ht : S.get t = some (.one (.a (.ref m)))) (h : N9 S sz m = some (g, m0, lo, hi)) (hg : g) :
    Ent c S ⟨(t, .one (.a (.ref S.nx))) :: S.slots, (S.nx, .view m0 sz lo hi) :: S.res, S.nx + 1⟩ := fun ρ a w hh => by
  obtain ⟨ad, len, cap, ad', g1, g2, g3, g4, g5, g6, g8, g9⟩ := Nh hh h hg
  refine ⟨Yg ρ S.nx (ρ m), hh.nodef, hh.sz, hh.lown, fun u v hu => ?_, fun u v hu => ?_, ?_⟩
  · rcases look_cons hu with ⟨rfl, rfl⟩ | ⟨hne, hu'⟩
    · rw [hh.slot _ _ ht]; simp only [SV.den, S1.den, At.den, Zj]
    · rw [SV.den_same (Ze ρ S.nx _) (hh.bds u v hu')]; exact hh.slot u v hu'
  · rcases look_cons hu with ⟨rfl, rfl⟩ | ⟨hne, hu'⟩
    · exact Nat.lt_succ_self _
    · exact SV.bd_mono (Nat.le_succ _) (hh.bds u v hu')
  · refine hh.mem.named (hh.mem.one m) (show m0 < S.nx + 1 by omega) rfl fun O' _ => ?_
    exact ⟨ad, len, cap, ad', by rw [Ze ρ S.nx _ m0 g5]; exact g1, by rw [Zj]; exact g2, by omega, g9, g6⟩
attribute [local irreducible] Ent
set_option maxHeartbeats 2000000 in
theorem Qe (l : List (List UInt8)) (v : List UInt8) (hlen : l.length ≤ 9223372036854775807) :
    RdC Tryz.prog 59 [.ro .str l, .v (.a (.str v))] (.one (.a (.int .i64 (Wz l v 0)))) := by
  refine Zy.fn.rd (by simp) (by repeat' (first | exact rfl | exact trivial | refine And.intro ?_ ?_ | (simp [SV.bd, Vc.S1.bd, At.bd, Zq, Zr, Ins.cells, Ln.cells]; done))) (by repeat' (first | exact rfl | exact trivial | refine And.intro ?_ ?_ | (simp [SV.bd, Vc.S1.bd, At.bd, Zq, Zr, Ins.cells, Ln.cells]; done))) fun w => ?_
  repeat' (first | ((first | (with_reducible first | refine T.regs ?_ | refine T.cond ?_ | refine T.reg ?_ | refine T.ret ?_ | refine T.exit ?_ | refine T.skip ?_) | ((with_reducible first | refine T.dregs ?_ ?_ | refine T.dreg ?_ ?_ | refine T.dregts ?_ ?_ | refine T.dregt ?_ ?_ | refine T.danys ?_ ?_ | refine T.dany ?_ ?_); exact mix)); simp only [Zh, Zi, Int.reduceEq, Int.reduceNeg, Int.reduceLE, Int.reduceLT, Nat.reduceSub, ↓reduceIte, reduceCtorEq, Nat.reduceEqDiff, Nat.reduceAdd, Nat.reduceMul, Nat.reduceLeDiff, Nat.reduceLT, Nat.reduceBEq, Nat.reduceBNe, implies_true, Zy.rs, Zy.res]) | (with_reducible first | refine T.seq ?_ | refine T.block ?_ | assumption | refine And.intro ?_ ?_) | (intro h; first | (exfalso; omega) | exact (tf h ‹_›).elim | exact (tf ‹_› h).elim | skip))
  refine T.loop (ι := { k : Nat // k ≤ l.length ∧ Wz (l.drop k) v k = Wz l v 0 })
    (fun x => ⟨[(8, .one (.a (.int .i64 (x.1 : Int)))), (7, .one (.a (.int .i64 l.length))), (1, .one (.a (.str v))), (0, .one (.a (.ref 0)))], [(0, .ro .str l)], 1⟩)
    (fun x => l.length - x.1) ⟨0, by simp, by simp⟩ (Ent.mk1 (id) (by simp [Z7])) ?_
  rintro ⟨k, hk, hrun⟩
  by_cases hlt : k < l.length
  · have hdrop : l.drop k = l.getD k [] :: l.drop (k + 1) := by
      rw [List.drop_eq_getElem_cons hlt]; simp [List.getD, hlt]
    generalize hx : l.getD k [] = x at hdrop
    have hx' : l.getD k (Kd.dflt .str) = x := hx
    rw [hdrop] at hrun
    simp only [Wz] at hrun
    have hw : IntKind.i64.wrap ((k : Int) + 1) = ((k + 1 : Nat) : Int) := Z4 (by omega)
    have ht : ((k : Int)).toNat = k := by omega
    by_cases hp : x = v
    · rw [if_pos hp] at hrun
      have hpd : decide (v = x) = true := decide_eq_true hp.symm
      repeat' (first | ((first | (with_reducible first | refine T.regs ?_ | refine T.cond ?_ | refine T.reg ?_ | refine T.ret ?_ | refine T.exit ?_ | refine T.skip ?_) | ((with_reducible first | refine T.dregs ?_ ?_ | refine T.dreg ?_ ?_ | refine T.dregts ?_ ?_ | refine T.dregt ?_ ?_ | refine T.danys ?_ ?_ | refine T.dany ?_ ?_); exact mix)); simp only [Zh, Zi, Int.reduceEq, Int.reduceNeg, Int.reduceLE, Int.reduceLT, Nat.reduceSub, ↓reduceIte, reduceCtorEq, Nat.reduceEqDiff, Nat.reduceAdd, Nat.reduceMul, Nat.reduceLeDiff, Nat.reduceLT, Nat.reduceBEq, Nat.reduceBNe, implies_true, Zy.rs, Zy.res, hx', hw, ht, hpd, Int.ofNat_lt]) | (with_reducible first | refine T.seq ?_ | refine T.block ?_ | assumption | refine And.intro ?_ ?_) | (intro h; first | (exfalso; omega) | exact (tf h ‹_›).elim | exact (tf ‹_› h).elim | skip))
      all_goals first | omega | (rw [← hrun]; done) | skip
    · rw [if_neg hp] at hrun
      have hpd : decide (v = x) = false := decide_eq_false fun e => hp e.symm
      repeat' (first | ((first | (with_reducible first | refine T.regs ?_ | refine T.cond ?_ | refine T.reg ?_ | refine T.ret ?_ | refine T.exit ?_ | refine T.skip ?_) | ((with_reducible first | refine T.dregs ?_ ?_ | refine T.dreg ?_ ?_ | refine T.dregts ?_ ?_ | refine T.dregt ?_ ?_ | refine T.danys ?_ ?_ | refine T.dany ?_ ?_); exact mix)); simp only [Zh, Zi, Int.reduceEq, Int.reduceNeg, Int.reduceLE, Int.reduceLT, Nat.reduceSub, ↓reduceIte, reduceCtorEq, Nat.reduceEqDiff, Nat.reduceAdd, Nat.reduceMul, Nat.reduceLeDiff, Nat.reduceLT, Nat.reduceBEq, Nat.reduceBNe, implies_true, Zy.rs, Zy.res, hx', hw, ht, hpd, Int.ofNat_lt]) | (with_reducible first | refine T.seq ?_ | refine T.block ?_ | assumption | refine And.intro ?_ ?_) | (intro h; first | (exfalso; omega) | exact (tf h ‹_›).elim | exact (tf ‹_› h).elim | skip))
      all_goals first | omega | exact ⟨⟨k + 1, hlt, hrun⟩, (Ent.mk1 (id) (by simp [Z7, hw])), by simp only; omega⟩ | skip
  · have hk2 : k = l.length := by omega
    subst hk2
    rw [List.drop_length] at hrun
    simp only [Wz] at hrun
    repeat' (first | ((first | (with_reducible first | refine T.regs ?_ | refine T.cond ?_ | refine T.reg ?_ | refine T.ret ?_ | refine T.exit ?_ | refine T.skip ?_) | ((with_reducible first | refine T.dregs ?_ ?_ | refine T.dreg ?_ ?_ | refine T.dregts ?_ ?_ | refine T.dregt ?_ ?_ | refine T.danys ?_ ?_ | refine T.dany ?_ ?_); exact mix)); simp only [Zh, Zi, Int.reduceEq, Int.reduceNeg, Int.reduceLE, Int.reduceLT, Nat.reduceSub, ↓reduceIte, reduceCtorEq, Nat.reduceEqDiff, Nat.reduceAdd, Nat.reduceMul, Nat.reduceLeDiff, Nat.reduceLT, Nat.reduceBEq, Nat.reduceBNe, implies_true, Zy.rs, Zy.res, Int.ofNat_lt]) | (with_reducible first | refine T.seq ?_ | refine T.block ?_ | assumption | refine And.intro ?_ ?_) | (intro h; first | (exfalso; omega) | exact (tf h ‹_›).elim | exact (tf ‹_› h).elim | skip))
    all_goals first | omega | (rw [← hrun]; done) | skip
end Go.Proofs.YtjochhncheheaaaGreatDoor
namespace Go.Proofs.YtjochhncheheaaaGreatDoor
open Go Go.RowKit Vc
set_option linter.unusedVariables false
set_option linter.unusedSimpArgs false
attribute [local irreducible] T Za Z2 Ent RdC RwC Xl Zc Zs
theorem K3 (s : List UInt8) (m : Nat) : Ef s (m : Int) = match numS s m with | some n => (n : Int) | none => -1 := by
  unfold Ef numS
  cases hv : Q6 s with
  | none => rfl
  | some v =>
    simp only
    by_cases h : v ≤ m
    · rw [if_pos h, if_neg (by omega)]
    · rw [if_neg h, if_pos (by omega)]
end Go.Proofs.YtjochhncheheaaaGreatDoor
namespace Go.Proofs.YtjochhncheheaaaGreatDoor
open Go Go.RowKit Vc
set_option linter.unusedVariables false
set_option linter.unusedSimpArgs false
attribute [local irreducible] T Za Z2 Ent RdC RwC Xl Zc Zs
theorem numR_most (s : List UInt8) : Ef s 65535 = match numS s 65535 with | some n => (n : Int) | none => -1 := K3 s 65535
theorem O6 (s : List UInt8) : Ef s 7 = match numS s 7 with | some n => (n : Int) | none => -1 := K3 s 7
theorem reg_cases (p : List UInt8) : (1 < p.length ∧ Y8 p 0 = 114 ∧ ∃ t, p = 114 :: t ∧ Ef t 7 = Oi p) ∨ (¬ 1 < p.length ∧ Sr p = none) ∨ (1 < p.length ∧ ¬ Y8 p 0 = 114 ∧ Sr p = none) := by
  by_cases h1 : 1 < p.length
  · cases p with
    | nil => simp at h1
    | cons b t =>
      have hb : Y8 (b :: t) 0 = ((b.toNat : Nat) : Int) := rfl
      by_cases h2 : b = 114
      · subst h2
        exact .inl ⟨h1, rfl, t, rfl, by first | (rw [O6, Ea]; done) | (rw [O6, Ea]; cases numS t 7 <;> rfl)⟩
      · refine .inr (.inr ⟨h1, fun e => h2 ?_, K2.1 (by rw [Ft h2]; decide)⟩)
        rw [hb] at e
        exact UInt8.toNat_inj.1 (by simp; omega)
  · exact .inr (.inl ⟨h1, K2.1 (by rw [Hn h1]; decide)⟩)
end Go.Proofs.YtjochhncheheaaaGreatDoor
