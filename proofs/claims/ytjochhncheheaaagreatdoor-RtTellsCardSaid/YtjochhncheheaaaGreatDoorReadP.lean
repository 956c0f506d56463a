/-
  Plain laws of texts: trimming, cutting at a byte, splitting, numerals. No program in sight; no conditions.
-/
import Derived.Lib.SlTrimSet
import Derived.Lib.Atoi
import Derived.Lib.IndexMore
import Derived.Lib.Split
import Derived.Lib.SplitLaws
import Derived.Test.YtjochhncheheaaaGreatDoorAsmA
import Derived.Test.YtjochhncheheaaaGreatDoorMnem
namespace Go.Proofs.YtjochhncheheaaaGreatDoor
open Go
set_option linter.unusedVariables false
set_option linter.unusedSimpArgs false
theorem Ub {α : Type} (p : α → Bool) : ∀ l : List α, l.dropWhile p = [] ↔ ∀ b ∈ l, p b = true
  | [] => by simp
  | b :: l => by
    rw [List.dropWhile_cons]
    split
    · rename_i h
      rw [Ub p l]
      simp [h]
    · rename_i h
      simp [h]
theorem Gq (l cs : List UInt8) : Lib.trimS l cs = [] ↔ ∀ b ∈ l, cs.contains b = true := by
  unfold Lib.trimS Lib.trimLeftS Lib.trimRightS
  rw [Ub]
  constructor
  · intro h
    have h2 : l.reverse.dropWhile (cs.contains ·) = [] := by
      cases hd : l.reverse.dropWhile (cs.contains ·) with
      | nil => rfl
      | cons x r =>
        have h1 := h x (by rw [hd]; simp)
        have := List.head_dropWhile_not (fun x => cs.contains x) (l := l.reverse) (by rw [hd]; simp)
        simp only [hd, List.head_cons] at this
        rw [h1] at this
        cases this
    rw [Ub] at h2
    intro b hb
    exact h2 b (by simpa using hb)
  · intro h
    have : l.reverse.dropWhile (cs.contains ·) = [] := by
      rw [Ub]
      intro b hb
      exact h b (by simpa using hb)
    rw [this]
    simp
def upToS (c : UInt8) : List UInt8 → List UInt8 × List UInt8 × Bool
  | [] => ([], [], false)
  | b :: r => if b = c then ([], r, true) else (b :: (upToS c r).1, (upToS c r).2)
theorem Qo (c : UInt8) : ∀ s : List UInt8, Lib.cut s [c] = upToS c s
  | [] => by simp [Lib.cut, Lib.index, upToS]
  | b :: r => by
    have ih := Qo c r
    unfold Lib.cut at ih ⊢
    rw [Lib.index_one] at ih ⊢
    unfold Lib.indexByte upToS
    by_cases hb : b = c
    · subst hb
      simp
    · have hbc : (b == c) = false := by simpa using hb
      simp only [hbc, hb, Bool.false_eq_true, if_false]
      rcases Int.lt_or_le (Lib.indexByte r c) 0 with h | h
      · have h1 : Lib.indexByte r c = -1 := by have := Lib.indexByte_ge r c; omega
        rw [if_neg (by omega)] at ih
        rw [← ih]
        simp [h1]
      · rw [if_pos h] at ih
        have h1 : (Lib.indexByte r c == -1) = false := by rw [beq_eq_false_iff_ne]; omega
        rw [h1, ← ih]
        simp only [Bool.false_eq_true, if_false]
        rw [if_pos (by omega)]
        have h2 : (Lib.indexByte r c + 1).toNat = (Lib.indexByte r c).toNat + 1 := by omega
        rw [h2]
        simp [List.take_succ_cons, Nat.add_right_comm]
def splitS (c : UInt8) : List UInt8 → List (List UInt8)
  | [] => [[]]
  | b :: r => if b = c then [] :: splitS c r else match splitS c r with
    | [] => [[b]]
    | p :: ps => (b :: p) :: ps
theorem Vd (c b : UInt8) (r : List UInt8) : splitS c (b :: r) = if b = c then [] :: splitS c r else match splitS c r with
    | [] => [[b]]
    | p :: ps => (b :: p) :: ps := rfl
theorem U5 (c b : UInt8) (r : List UInt8) : upToS c (b :: r) = if b = c then ([], r, true) else (b :: (upToS c r).1, (upToS c r).2) := rfl
theorem Um (c : UInt8) : ∀ s : List UInt8, splitS c s = (upToS c s).1 :: (if (upToS c s).2.2 = true then splitS c (upToS c s).2.1 else [])
  | [] => by simp [splitS, upToS]
  | b :: r => by
    have ih := Um c r
    rw [Vd, U5]
    by_cases hb : b = c
    · simp [hb]
    · rw [if_neg hb, if_neg hb, ih]
theorem Sm (c : UInt8) : ∀ s : List UInt8, (splitS c s).length = s.count c + 1
  | [] => by simp [splitS]
  | b :: r => by
    have ih := Sm c r
    rw [Vd]
    by_cases hb : b = c
    · simp [hb, ih]
    · rw [if_neg hb]
      rw [List.count_cons_of_ne (fun e => hb e)]
      split
      · rename_i h; rw [h] at ih; simp at ih
      · rename_i h; rw [h] at ih; simpa using ih
theorem Hw (c : UInt8) : ∀ (k : Nat) (s : List UInt8), s.count c = k → Lib.splitK [c] 0 k s = splitS c s := by
  intro k
  induction k with
  | zero =>
    intro s hs
    have hl := Sm c s
    rw [hs] at hl
    have hu := Um c s
    have hno : (upToS c s).2.2 = false := by
      cases ht : (upToS c s).2.2 with
      | false => rfl
      | true =>
        rw [hu, if_pos ht] at hl
        have := Sm c (upToS c s).2.1
        simp only [List.length_cons] at hl
        omega
    rw [hu, if_neg (by simp [hno])]
    unfold Lib.splitK
    have hc := Qo c s
    unfold Lib.cut at hc
    split at hc
    · rw [← hc] at hno; simp at hno
    · rw [← hc]
  | succ k ih =>
    intro s hs
    have hl := Sm c s
    rw [hs] at hl
    have hu := Um c s
    have hyes : (upToS c s).2.2 = true := by
      cases ht : (upToS c s).2.2 with
      | true => rfl
      | false => rw [hu, if_neg (by simp [ht])] at hl; simp at hl
    have hcnt : (upToS c s).2.1.count c = k := by
      rw [hu, if_pos hyes, List.length_cons, Sm] at hl
      omega
    rw [hu, if_pos hyes, ← ih _ hcnt]
    have e : Lib.splitK [c] 0 (k + 1) s = if Lib.index s [c] == -1 then [s] else s.take ((Lib.index s [c]).toNat + 0) :: Lib.splitK [c] 0 k (s.drop ((Lib.index s [c]).toNat + [c].length)) := rfl
    rw [e]
    have hc := Qo c s
    unfold Lib.cut at hc
    split at hc
    · rename_i hi
      have hne : ¬ (Lib.index s [c] == -1) = true := by simp; omega
      rw [if_neg hne, ← hc]
      simp
    · rw [← hc] at hyes; simp at hyes
def O1 : List UInt8 := [48, 49, 50, 51, 52, 53, 54, 55, 56, 57]
set_option maxRecDepth 100000 in
theorem F6 : ∀ n : Nat, n < 256 → (O1.contains (UInt8.ofNat n) = true ↔ (48 ≤ n ∧ n ≤ 57)) := by decide
theorem Dn (b : UInt8) : O1.contains b = true ↔ (48 ≤ b.toNat ∧ b.toNat ≤ 57) := by
  have := F6 b.toNat (by have := b.toNat_lt; omega)
  have e : UInt8.ofNat b.toNat = b := by simp
  rwa [e] at this
theorem Qr (b : UInt8) : O1.contains b = true ↔ ∃ d, Lib.digitVal b = some d := by
  rw [Dn]
  unfold Lib.digitVal
  constructor
  · intro h; exact ⟨_, if_pos h⟩
  · rintro ⟨d, h⟩
    split at h
    · assumption
    · cases h
theorem P6 : ∀ (l : List UInt8) (acc : Nat), (∀ b ∈ l, O1.contains b = true) → ∃ v, Lib.decFrom acc l = some v
  | [], acc, _ => ⟨acc, rfl⟩
  | b :: l, acc, h => by
    obtain ⟨d, hd⟩ := (Qr b).1 (h b (List.mem_cons_self ..))
    obtain ⟨v, hv⟩ := P6 l (acc * 10 + d) fun y hy => h y (List.mem_cons_of_mem _ hy)
    exact ⟨v, by simp only [Lib.decFrom, hd]; exact hv⟩
theorem H4 {s : List UInt8} (hne : s ≠ []) : Lib.trimS s O1 = [] ↔ ∃ v, Lib.decNat s = some v := by
  rw [Gq]
  have he : s.isEmpty = false := by cases s with | nil => exact absurd rfl hne | cons _ _ => rfl
  unfold Lib.decNat
  rw [he]
  constructor
  · intro h; exact P6 s 0 h
  · rintro ⟨v, hv⟩ b hb
    obtain ⟨k, hk⟩ := List.getElem?_of_mem hb
    exact (Qr b).2 (Lib.digit_of_decFrom s 0 v hv k b hk)
def Q6 (s : List UInt8) : Option Nat := if s = [] ∨ 5 < s.length ∨ (1 < s.length ∧ s.getD 0 0 = 48) then none else Lib.decNat s
theorem numV_lt {s : List UInt8} {v : Nat} (h : Q6 s = some v) : v < 1000000 := by
  unfold Q6 at h
  split at h
  · cases h
  · rename_i hn
    simp only [not_or] at hn
    obtain ⟨_, hd⟩ := Lib.decNat_some h
    have := Lib.decFrom_lt s 0 v hd
    have h5 : s.length ≤ 5 := by omega
    have : (10 : Nat) ^ s.length ≤ 10 ^ 5 := Nat.pow_le_pow_right (by decide) h5
    omega
theorem Ll (c : UInt8) (s : List UInt8) : splitS c s ≠ [] := by rw [Um]; simp
theorem N6 (c : UInt8) : ∀ (a r : List UInt8), c ∉ a → splitS c (a ++ c :: r) = a :: splitS c r
  | [], r, h => by simp [Vd]
  | b :: a, r, h => by
    simp only [List.mem_cons, not_or] at h
    rw [List.cons_append, Vd, if_neg (fun e => h.1 e.symm), N6 c a r h.2]
theorem Oa (c : UInt8) : ∀ (a : List UInt8), c ∉ a → splitS c a = [a]
  | [], h => rfl
  | b :: a, h => by
    simp only [List.mem_cons, not_or] at h
    rw [Vd, if_neg (fun e => h.1 e.symm), Oa c a h.2]
def Up (t : List UInt8) : List (List UInt8) := if (splitS 10 t).getLast? = some [] then (splitS 10 t).dropLast else splitS 10 t
theorem linesS_hit {a r : List UInt8} (h : 10 ∉ a) : Up (a ++ 10 :: r) = a :: Up r := by
  unfold Up
  rw [N6 10 a r h]
  have hne := Ll 10 r
  generalize splitS 10 r = p at hne
  cases p with
  | nil => exact absurd rfl hne
  | cons x p =>
    rw [List.getLast?_cons_cons]
    split <;> simp [List.dropLast]
theorem linesS_none {a : List UInt8} (h : 10 ∉ a) : Up a = if a = [] then [] else [a] := by
  unfold Up
  rw [Oa 10 a h]
  by_cases ha : a = [] <;> simp [ha]
theorem E5 {c : UInt8} : ∀ {s : List UInt8} {i : Nat}, c ∉ s.take i → s[i]? = some c → upToS c s = (s.take i, s.drop (i + 1), true)
  | [], i, _, hi => by simp at hi
  | b :: s, 0, _, hi => by
    simp only [List.getElem?_cons_zero, Option.some.injEq] at hi
    rw [U5, if_pos hi]; rfl
  | b :: s, i + 1, h, hi => by
    simp only [List.take_succ_cons, List.mem_cons, not_or] at h
    rw [U5, if_neg (fun e => h.1 e.symm), E5 h.2 (by simpa using hi)]
    rfl
theorem Ht {c : UInt8} : ∀ {s : List UInt8}, c ∉ s → upToS c s = (s, [], false)
  | [], _ => rfl
  | b :: s, h => by
    simp only [List.mem_cons, not_or] at h
    rw [U5, if_neg (fun e => h.1 e.symm), Ht h.2]
theorem Su (cs : List UInt8) (x : UInt8) (r : List UInt8) : Lib.trimRightS (x :: r) cs = if Lib.trimRightS r cs = [] ∧ cs.contains x = true then [] else x :: Lib.trimRightS r cs := by
  unfold Lib.trimRightS
  rw [List.reverse_cons, List.dropWhile_append]
  generalize hd : r.reverse.dropWhile (cs.contains ·) = d
  cases d with
  | nil =>
    cases hx : cs.contains x with
    | true => rw [if_pos (by rfl), List.dropWhile_cons, if_pos hx]; simp
    | false => rw [if_pos (by rfl), List.dropWhile_cons, if_neg (by rw [hx]; decide)]; simp
  | cons y d =>
    rw [if_neg (by simp), if_neg (by simp)]
    simp
theorem Ff (cs : List UInt8) : ∀ s : List UInt8, Lib.trimS s cs = Lib.trimRightS (Lib.trimLeftS s cs) cs
  | [] => rfl
  | x :: r => by
    have ih := Ff cs r
    unfold Lib.trimS at ih ⊢
    rw [Su]
    by_cases hx : cs.contains x = true
    · have e : Lib.trimLeftS (x :: r) cs = Lib.trimLeftS r cs := by unfold Lib.trimLeftS; rw [List.dropWhile_cons, if_pos hx]
      rw [e, ← ih]
      by_cases hr : Lib.trimRightS r cs = []
      · rw [if_pos ⟨hr, hx⟩, hr]
      · rw [if_neg (fun h => hr h.1)]
        unfold Lib.trimLeftS
        rw [List.dropWhile_cons, if_pos hx]
    · have e : Lib.trimLeftS (x :: r) cs = x :: r := by unfold Lib.trimLeftS; rw [List.dropWhile_cons, if_neg hx]
      rw [e, if_neg (fun h => hx h.2), Su, if_neg (fun h => hx h.2)]
      unfold Lib.trimLeftS
      rw [List.dropWhile_cons, if_neg hx]
end Go.Proofs.YtjochhncheheaaaGreatDoor
namespace Go.Proofs.YtjochhncheheaaaGreatDoor
open Go.RowKit Vc
set_option linter.unusedVariables false
set_option linter.unusedSimpArgs false
def trimB (s : List UInt8) : List UInt8 := Lib.trimS s [32, 9]
def Wz : List (List UInt8) → List UInt8 → Nat → Int
  | [], _, _ => -1
  | x :: l, w, k => if x = w then (k : Int) else Wz l w (k + 1)
def kindS (w : List UInt8) : Int := Wz Tc w 0
def numS (s : List UInt8) (most : Nat) : Option Nat := match Q6 s with
  | some v => if v ≤ most then some v else none
  | none => none
def Sr : List UInt8 → Option Nat
  | b :: s => if b = 114 then numS s 7 else none
  | [] => none
def Tp (rest : List UInt8) : List (List UInt8) := if trimB rest = [] then [] else (splitS 44 (trimB rest)).map trimB
def Sv (has : Bool) (ps : List (List UInt8)) : Except Int (Nat × List (List UInt8)) :=
  if has = false then .ok (0, ps) else match ps with
  | [] => .error 5
  | p :: ps => match Sr p with
    | some n => .ok (n, ps)
    | none => .error 2
def Tv (op : Int) (ps : List (List UInt8)) : Except Int (Nat × List UInt8 × List (List UInt8)) :=
  if Wh op = false then .ok (0, [], ps) else match ps with
  | [] => .error 5
  | p :: ps => match numS p 65535 with
    | some n => .ok (n, [], ps)
    | none => if Xo p = true ∧ Vh op = true then .ok (0, p, ps) else .error 2
def insV (op : Int) (ps : List (List UInt8)) : Except Int Ln :=
  match Sv (V2 op) ps with
  | .error e => .error e
  | .ok (d, ps) => match Sv (V1 op) ps with
    | .error e => .error e
    | .ok (s, ps) => match Tv op ps with
      | .error e => .error e
      | .ok (i, r, ps) => if ps = [] then .ok ⟨[], ⟨op, d, s, i⟩, r⟩ else .error 5
def R6 (s : List UInt8) : Except Int (Option Ln) :=
  let t := trimB (upToS 59 s).1
  if t = [] then .ok none
  else if t.getLast? = some 58 then (if Xo t.dropLast = true then .ok (some ⟨t.dropLast, W1, []⟩) else .error 7)
  else if kindS (upToS 32 t).1 < 0 then .error 1
  else match insV (kindS (upToS 32 t).1) (Tp (upToS 32 t).2.1) with
    | .error e => .error e
    | .ok l => .ok (some l)
def Ss : List (List UInt8) → Nat → List Ln → List Ln × Int × Int
  | [], _, acc => (acc, 0, 0)
  | s :: l, k, acc => match R6 s with
    | .error e => ([], e, k)
    | .ok none => Ss l (k + 1) acc
    | .ok (some x) => Ss l (k + 1) (acc ++ [x])
def Pc (t : List UInt8) : List Ln × Int × Int :=
  if 1048576 < t.length then ([], 4, 0) else if 40000 < (Up t).length then ([], 5, 0) else Ss (Up t) 0 []
end Go.Proofs.YtjochhncheheaaaGreatDoor
