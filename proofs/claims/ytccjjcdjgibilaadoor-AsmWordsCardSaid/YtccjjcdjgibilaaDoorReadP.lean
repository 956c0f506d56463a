/-
  Plain laws of texts: trimming, cutting at a byte, splitting, numerals. No program in sight; no conditions.
-/
import Derived.Lib.SlTrimSet
import Derived.Lib.Atoi
import Derived.Lib.IndexMore
import Derived.Lib.Split
import Derived.Lib.SplitLaws
import Derived.Test.YtccjjcdjgibilaaDoorAsmA
import Derived.Test.YtccjjcdjgibilaaDoorMnem
namespace Go.Proofs.YtccjjcdjgibilaaDoor
open Go
set_option linter.unusedVariables false
set_option linter.unusedSimpArgs false
theorem To {α : Type} (p : α → Bool) : ∀ l : List α, l.dropWhile p = [] ↔ ∀ b ∈ l, p b = true
  | [] => by simp
  | b :: l => by
    rw [List.dropWhile_cons]
    split
    · rename_i h
      rw [To p l]
      simp [h]
    · rename_i h
      simp [h]
theorem Ih (l cs : List UInt8) : Lib.trimS l cs = [] ↔ ∀ b ∈ l, cs.contains b = true := by
  unfold Lib.trimS Lib.trimLeftS Lib.trimRightS
  rw [To]
  constructor
  · intro h
    have h2 : l.reverse.dropWhile (cs.contains ·) = [] := by
      cases hd : l.reverse.dropWhile (cs.contains ·) with
      | nil => rfl
      | cons x r =>
        have h1 := h x (by rw [hd]; simp)
        have := List.head_dropWhile_not (fun x => cs.contains x) (l := l.reverse) (by rw [hd]; simp)
        simp only [hd, List.head_cons] at this
        rw [h1] at this
        cases this
    rw [To] at h2
    intro b hb
    exact h2 b (by simpa using hb)
  · intro h
    have : l.reverse.dropWhile (cs.contains ·) = [] := by
      rw [To]
      intro b hb
      exact h b (by simpa using hb)
    rw [this]
    simp
def upToS (c : UInt8) : List UInt8 → List UInt8 × List UInt8 × Bool
  | [] => ([], [], false)
  | b :: r => if b = c then ([], r, true) else (b :: (upToS c r).1, (upToS c r).2)
theorem Qx (c : UInt8) : ∀ s : List UInt8, Lib.cut s [c] = upToS c s
  | [] => by simp [Lib.cut, Lib.index, upToS]
  | b :: r => by
    have ih := Qx c r
    unfold Lib.cut at ih ⊢
    rw [Lib.index_one] at ih ⊢
    unfold Lib.indexByte upToS
    by_cases hb : b = c
    · subst hb
      simp
    · have hbc : (b == c) = false := by simpa using hb
      simp only [hbc, hb, Bool.false_eq_true, if_false]
      rcases Int.lt_or_le (Lib.indexByte r c) 0 with h | h
      · have h1 : Lib.indexByte r c = -1 := by have := Lib.indexByte_ge r c; omega
        rw [if_neg (by omega)] at ih
        rw [← ih]
        simp [h1]
      · rw [if_pos h] at ih
        have h1 : (Lib.indexByte r c == -1) = false := by rw [beq_eq_false_iff_ne]; omega
        rw [h1, ← ih]
        simp only [Bool.false_eq_true, if_false]
        rw [if_pos (by omega)]
        have h2 : (Lib.indexByte r c + 1).toNat = (Lib.indexByte r c).toNat + 1 := by omega
        rw [h2]
        simp [List.take_succ_cons, Nat.add_right_comm]
def splitS (c : UInt8) : List UInt8 → List (List UInt8)
  | [] => [[]]
  | b :: r => if b = c then [] :: splitS c r else match splitS c r with
    | [] => [[b]]
    | p :: ps => (b :: p) :: ps
theorem U3 (c b : UInt8) (r : List UInt8) : splitS c (b :: r) = if b = c then [] :: splitS c r else match splitS c r with
    | [] => [[b]]
    | p :: ps => (b :: p) :: ps := rfl
theorem T7 (c b : UInt8) (r : List UInt8) : upToS c (b :: r) = if b = c then ([], r, true) else (b :: (upToS c r).1, (upToS c r).2) := rfl
theorem Tu (c : UInt8) : ∀ s : List UInt8, splitS c s = (upToS c s).1 :: (if (upToS c s).2.2 = true then splitS c (upToS c s).2.1 else [])
  | [] => by simp [splitS, upToS]
  | b :: r => by
    have ih := Tu c r
    rw [U3, T7]
    by_cases hb : b = c
    · simp [hb]
    · rw [if_neg hb, if_neg hb, ih]
theorem S7 (c : UInt8) : ∀ s : List UInt8, (splitS c s).length = s.count c + 1
  | [] => by simp [splitS]
  | b :: r => by
    have ih := S7 c r
    rw [U3]
    by_cases hb : b = c
    · simp [hb, ih]
    · rw [if_neg hb]
      rw [List.count_cons_of_ne (fun e => hb e)]
      split
      · rename_i h; rw [h] at ih; simp at ih
      · rename_i h; rw [h] at ih; simpa using ih
theorem K6 (c : UInt8) : ∀ (k : Nat) (s : List UInt8), s.count c = k → Lib.splitK [c] 0 k s = splitS c s := by
  intro k
  induction k with
  | zero =>
    intro s hs
    have hl := S7 c s
    rw [hs] at hl
    have hu := Tu c s
    have hno : (upToS c s).2.2 = false := by
      cases ht : (upToS c s).2.2 with
      | false => rfl
      | true =>
        rw [hu, if_pos ht] at hl
        have := S7 c (upToS c s).2.1
        simp only [List.length_cons] at hl
        omega
    rw [hu, if_neg (by simp [hno])]
    unfold Lib.splitK
    have hc := Qx c s
    unfold Lib.cut at hc
    split at hc
    · rw [← hc] at hno; simp at hno
    · rw [← hc]
  | succ k ih =>
    intro s hs
    have hl := S7 c s
    rw [hs] at hl
    have hu := Tu c s
    have hyes : (upToS c s).2.2 = true := by
      cases ht : (upToS c s).2.2 with
      | true => rfl
      | false => rw [hu, if_neg (by simp [ht])] at hl; simp at hl
    have hcnt : (upToS c s).2.1.count c = k := by
      rw [hu, if_pos hyes, List.length_cons, S7] at hl
      omega
    rw [hu, if_pos hyes, ← ih _ hcnt]
    have e : Lib.splitK [c] 0 (k + 1) s = if Lib.index s [c] == -1 then [s] else s.take ((Lib.index s [c]).toNat + 0) :: Lib.splitK [c] 0 k (s.drop ((Lib.index s [c]).toNat + [c].length)) := rfl
    rw [e]
    have hc := Qx c s
    unfold Lib.cut at hc
    split at hc
    · rename_i hi
      have hne : ¬ (Lib.index s [c] == -1) = true := by simp; omega
      rw [if_neg hne, ← hc]
      simp
    · rw [← hc] at hyes; simp at hyes
def P6 : List UInt8 := [48, 49, 50, 51, 52, 53, 54, 55, 56, 57]
set_option maxRecDepth 100000 in
theorem H2 : ∀ n : Nat, n < 256 → (P6.contains (UInt8.ofNat n) = true ↔ (48 ≤ n ∧ n ≤ 57)) := by decide
theorem I8 (b : UInt8) : P6.contains b = true ↔ (48 ≤ b.toNat ∧ b.toNat ≤ 57) := by
  have := H2 b.toNat (by have := b.toNat_lt; omega)
  have e : UInt8.ofNat b.toNat = b := by simp
  rwa [e] at this
theorem Qo (b : UInt8) : P6.contains b = true ↔ ∃ d, Lib.digitVal b = some d := by
  rw [I8]
  unfold Lib.digitVal
  constructor
  · intro h; exact ⟨_, if_pos h⟩
  · rintro ⟨d, h⟩
    split at h
    · assumption
    · cases h
theorem Ph : ∀ (l : List UInt8) (acc : Nat), (∀ b ∈ l, P6.contains b = true) → ∃ v, Lib.decFrom acc l = some v
  | [], acc, _ => ⟨acc, rfl⟩
  | b :: l, acc, h => by
    obtain ⟨d, hd⟩ := (Qo b).1 (h b (List.mem_cons_self ..))
    obtain ⟨v, hv⟩ := Ph l (acc * 10 + d) fun y hy => h y (List.mem_cons_of_mem _ hy)
    exact ⟨v, by simp only [Lib.decFrom, hd]; exact hv⟩
theorem Jr {s : List UInt8} (hne : s ≠ []) : Lib.trimS s P6 = [] ↔ ∃ v, Lib.decNat s = some v := by
  rw [Ih]
  have he : s.isEmpty = false := by cases s with | nil => exact absurd rfl hne | cons _ _ => rfl
  unfold Lib.decNat
  rw [he]
  constructor
  · intro h; exact Ph s 0 h
  · rintro ⟨v, hv⟩ b hb
    obtain ⟨k, hk⟩ := List.getElem?_of_mem hb
    exact (Qo b).2 (Lib.digit_of_decFrom s 0 v hv k b hk)
def Rc (s : List UInt8) : Option Nat := if s = [] ∨ 5 < s.length ∨ (1 < s.length ∧ s.getD 0 0 = 48) then none else Lib.decNat s
theorem numV_lt {s : List UInt8} {v : Nat} (h : Rc s = some v) : v < 1000000 := by
  unfold Rc at h
  split at h
  · cases h
  · rename_i hn
    simp only [not_or] at hn
    obtain ⟨_, hd⟩ := Lib.decNat_some h
    have := Lib.decFrom_lt s 0 v hd
    have h5 : s.length ≤ 5 := by omega
    have : (10 : Nat) ^ s.length ≤ 10 ^ 5 := Nat.pow_le_pow_right (by decide) h5
    omega
theorem N7 (c : UInt8) (s : List UInt8) : splitS c s ≠ [] := by rw [Tu]; simp
theorem O9 (c : UInt8) : ∀ (a r : List UInt8), c ∉ a → splitS c (a ++ c :: r) = a :: splitS c r
  | [], r, h => by simp [U3]
  | b :: a, r, h => by
    simp only [List.mem_cons, not_or] at h
    rw [List.cons_append, U3, if_neg (fun e => h.1 e.symm), O9 c a r h.2]
theorem Pl (c : UInt8) : ∀ (a : List UInt8), c ∉ a → splitS c a = [a]
  | [], h => rfl
  | b :: a, h => by
    simp only [List.mem_cons, not_or] at h
    rw [U3, if_neg (fun e => h.1 e.symm), Pl c a h.2]
def linesS (t : List UInt8) : List (List UInt8) := if (splitS 10 t).getLast? = some [] then (splitS 10 t).dropLast else splitS 10 t
theorem Od {a r : List UInt8} (h : 10 ∉ a) : linesS (a ++ 10 :: r) = a :: linesS r := by
  unfold linesS
  rw [O9 10 a r h]
  have hne := N7 10 r
  generalize splitS 10 r = p at hne
  cases p with
  | nil => exact absurd rfl hne
  | cons x p =>
    rw [List.getLast?_cons_cons]
    split <;> simp [List.dropLast]
theorem Kc {a : List UInt8} (h : 10 ∉ a) : linesS a = if a = [] then [] else [a] := by
  unfold linesS
  rw [Pl 10 a h]
  by_cases ha : a = [] <;> simp [ha]
theorem L2 {c : UInt8} : ∀ {s : List UInt8} {i : Nat}, c ∉ s.take i → s[i]? = some c → upToS c s = (s.take i, s.drop (i + 1), true)
  | [], i, _, hi => by simp at hi
  | b :: s, 0, _, hi => by
    simp only [List.getElem?_cons_zero, Option.some.injEq] at hi
    rw [T7, if_pos hi]; rfl
  | b :: s, i + 1, h, hi => by
    simp only [List.take_succ_cons, List.mem_cons, not_or] at h
    rw [T7, if_neg (fun e => h.1 e.symm), L2 h.2 (by simpa using hi)]
    rfl
theorem P7 {c : UInt8} : ∀ {s : List UInt8}, c ∉ s → upToS c s = (s, [], false)
  | [], _ => rfl
  | b :: s, h => by
    simp only [List.mem_cons, not_or] at h
    rw [T7, if_neg (fun e => h.1 e.symm), P7 h.2]
theorem S9 (cs : List UInt8) (x : UInt8) (r : List UInt8) : Lib.trimRightS (x :: r) cs = if Lib.trimRightS r cs = [] ∧ cs.contains x = true then [] else x :: Lib.trimRightS r cs := by
  unfold Lib.trimRightS
  rw [List.reverse_cons, List.dropWhile_append]
  generalize hd : r.reverse.dropWhile (cs.contains ·) = d
  cases d with
  | nil =>
    cases hx : cs.contains x with
    | true => rw [if_pos (by rfl), List.dropWhile_cons, if_pos hx]; simp
    | false => rw [if_pos (by rfl), List.dropWhile_cons, if_neg (by rw [hx]; decide)]; simp
  | cons y d =>
    rw [if_neg (by simp), if_neg (by simp)]
    simp
theorem Md (cs : List UInt8) : ∀ s : List UInt8, Lib.trimS s cs = Lib.trimRightS (Lib.trimLeftS s cs) cs
  | [] => rfl
  | x :: r => by
    have ih := Md cs r
    unfold Lib.trimS at ih ⊢
    rw [S9]
    by_cases hx : cs.contains x = true
    · have e : Lib.trimLeftS (x :: r) cs = Lib.trimLeftS r cs := by unfold Lib.trimLeftS; rw [List.dropWhile_cons, if_pos hx]
      rw [e, ← ih]
      by_cases hr : Lib.trimRightS r cs = []
      · rw [if_pos ⟨hr, hx⟩, hr]
      · rw [if_neg (fun h => hr h.1)]
        unfold Lib.trimLeftS
        rw [List.dropWhile_cons, if_pos hx]
    · have e : Lib.trimLeftS (x :: r) cs = x :: r := by unfold Lib.trimLeftS; rw [List.dropWhile_cons, if_neg hx]
      rw [e, if_neg (fun h => hx h.2), S9, if_neg (fun h => hx h.2)]
      unfold Lib.trimLeftS
      rw [List.dropWhile_cons, if_neg hx]
end Go.Proofs.YtccjjcdjgibilaaDoor
namespace Go.Proofs.YtccjjcdjgibilaaDoor
open Go.RowKit Vc
set_option linter.unusedVariables false
set_option linter.unusedSimpArgs false
def trimB (s : List UInt8) : List UInt8 := Lib.trimS s [32, 9]
def Te : List (List UInt8) → List UInt8 → Nat → Int
  | [], _, _ => -1
  | x :: l, w, k => if x = w then (k : Int) else Te l w (k + 1)
def kindS (w : List UInt8) : Int := Te U5 w 0
def numS (s : List UInt8) (most : Nat) : Option Nat := match Rc s with
  | some v => if v ≤ most then some v else none
  | none => none
def Se : List UInt8 → Option Nat
  | b :: s => if b = 114 then numS s 7 else none
  | [] => none
def piecesS (rest : List UInt8) : List (List UInt8) := if trimB rest = [] then [] else (splitS 44 (trimB rest)).map trimB
def Ra (has : Bool) (ps : List (List UInt8)) : Except Int (Nat × List (List UInt8)) :=
  if has = false then .ok (0, ps) else match ps with
  | [] => .error 5
  | p :: ps => match Se p with
    | some n => .ok (n, ps)
    | none => .error 2
def Ss (op : Int) (ps : List (List UInt8)) : Except Int (Nat × List UInt8 × List (List UInt8)) :=
  if hasI op = false then .ok (0, [], ps) else match ps with
  | [] => .error 5
  | p :: ps => match numS p 65535 with
    | some n => .ok (n, [], ps)
    | none => if W3 p = true ∧ Vt op = true then .ok (0, p, ps) else .error 2
def insV (op : Int) (ps : List (List UInt8)) : Except Int Ln :=
  match Ra (Uo op) ps with
  | .error e => .error e
  | .ok (d, ps) => match Ra (Un op) ps with
    | .error e => .error e
    | .ok (s, ps) => match Ss op ps with
      | .error e => .error e
      | .ok (i, r, ps) => if ps = [] then .ok ⟨[], ⟨op, d, s, i⟩, r⟩ else .error 5
def Rz (s : List UInt8) : Except Int (Option Ln) :=
  let t := trimB (upToS 59 s).1
  if t = [] then .ok none
  else if t.getLast? = some 58 then (if W3 t.dropLast = true then .ok (some ⟨t.dropLast, V2, []⟩) else .error 7)
  else if kindS (upToS 32 t).1 < 0 then .error 1
  else match insV (kindS (upToS 32 t).1) (piecesS (upToS 32 t).2.1) with
    | .error e => .error e
    | .ok l => .ok (some l)
def U1 : List (List UInt8) → Nat → List Ln → List Ln × Int × Int
  | [], _, acc => (acc, 0, 0)
  | s :: l, k, acc => match Rz s with
    | .error e => ([], e, k)
    | .ok none => U1 l (k + 1) acc
    | .ok (some x) => U1 l (k + 1) (acc ++ [x])
def readS (t : List UInt8) : List Ln × Int × Int :=
  if 1048576 < t.length then ([], 4, 0) else if 40000 < (linesS t).length then ([], 5, 0) else U1 (linesS t) 0 []
end Go.Proofs.YtccjjcdjgibilaaDoor
namespace Go.Proofs.YtccjjcdjgibilaaDoor
open Go Go.RowKit Vc
set_option linter.unusedVariables false
set_option linter.unusedSimpArgs false
def Pv : List (List UInt8) → List UInt8 → Nat → Int → Int
  | [], _, _, o => o
  | x :: l, w, k, o => Pv l w (k + 1) (if x = w then (k : Int) else o)
theorem Kb : ∀ (l : List (List UInt8)) (w : List UInt8) (k : Nat), w ∉ l → Te l w k = -1
  | [], _, _, _ => rfl
  | x :: l, w, k, h => by
    simp only [List.mem_cons, not_or] at h
    unfold Te
    rw [if_neg (fun e => h.1 e.symm)]
    exact Kb l w (k + 1) h.2
theorem P9 : ∀ (l : List (List UInt8)) (w : List UInt8) (k : Nat) (o : Int), l.Nodup → Pv l w k o = if w ∈ l then Te l w k else o
  | [], _, _, _, _ => by simp [Pv]
  | x :: l, w, k, o, h => by
    have hn := List.nodup_cons.1 h
    unfold Pv
    rw [P9 l w (k + 1) _ hn.2]
    by_cases hx : x = w
    · subst hx
      rw [if_neg hn.1, if_pos rfl, if_pos (List.mem_cons_self ..)]
      unfold Te
      rw [if_pos rfl]
    · have e : Te (x :: l) w k = Te l w (k + 1) := by
        show (if x = w then (k : Int) else Te l w (k + 1)) = _
        rw [if_neg hx]
      by_cases hm : w ∈ l
      · rw [if_pos hm, if_pos (List.mem_cons_of_mem _ hm), e]
      · have hm2 : w ∉ x :: l := by
          simp only [List.mem_cons, not_or]
          exact ⟨fun e => hx e.symm, hm⟩
        rw [if_neg hm, if_neg hm2, if_neg hx]
theorem Ll : U5.Nodup := by decide
theorem J1 (w : List UInt8) : Pv U5 w 0 (-1) = kindS w := by
  rw [P9 _ _ _ _ Ll]
  unfold kindS
  split
  · rfl
  · rename_i h
    rw [Kb _ _ _ h]
theorem Kw {k : Nat} (hk : k < 33) : U5.drop k = Nl (k : Int) :: U5.drop (k + 1) := by
  have hl : k < U5.length := hk
  rw [List.drop_eq_getElem_cons hl]
  have e : ((k : Int)).toNat = k := by omega
  simp [Nl, List.getD, e, hl]
theorem kindL_rng : ∀ (l : List (List UInt8)) (w : List UInt8) (k : Nat), Te l w k = -1 ∨ ((k : Int) ≤ Te l w k ∧ Te l w k < (k + l.length : Nat))
  | [], _, _ => .inl rfl
  | x :: l, w, k => by
    unfold Te
    split
    · right; simp only [List.length_cons]; omega
    · rcases kindL_rng l w (k + 1) with h | h
      · exact .inl h
      · right; simp only [List.length_cons]; omega
theorem Nt (w : List UInt8) : kindS w = -1 ∨ (0 ≤ kindS w ∧ kindS w ≤ 32) := by
  have := kindL_rng U5 w 0
  have e : U5.length = 33 := rfl
  unfold kindS
  rw [e] at this
  omega
theorem T0 (c : UInt8) : ∀ s : List UInt8, (upToS c s).1.length ≤ s.length ∧ (upToS c s).2.1.length ≤ s.length ∧ ((upToS c s).2.2 = true → (upToS c s).2.1.length + 1 ≤ s.length)
  | [] => by simp [upToS]
  | b :: r => by
    have ih := T0 c r
    rw [T7]
    split
    · simp
    · simp only [List.length_cons]
      omega
theorem Vz (s : List UInt8) : (trimB s).length ≤ s.length := by
  unfold trimB Lib.trimS Lib.trimLeftS Lib.trimRightS
  have h1 := (List.dropWhile_sublist (p := fun b => ([32, 9] : List UInt8).contains b) (l := ((s.reverse.dropWhile (fun b => ([32, 9] : List UInt8).contains b)).reverse))).length_le
  have h2 := (List.dropWhile_sublist (p := fun b => ([32, 9] : List UInt8).contains b) (l := s.reverse)).length_le
  simp only [List.length_reverse] at h1 h2
  exact Nat.le_trans h1 h2
theorem Kp (c : UInt8) (f : List UInt8 → List UInt8) (acc : List (List UInt8)) (r : List UInt8) :
    acc ++ (splitS c r).map f = (acc ++ [f (upToS c r).1]) ++ (if (upToS c r).2.2 = true then (splitS c (upToS c r).2.1).map f else []) := by
  rw [Tu]
  split <;> simp_all
def Px (op : Int) (d s : Nat) (ps : List (List UInt8)) : Except Int Ln := match Ss op ps with
  | .error e => .error e
  | .ok (i, r, ps) => if ps = [] then .ok ⟨[], ⟨op, d, s, i⟩, r⟩ else .error 5
def Iy (op : Int) (d : Nat) (ps : List (List UInt8)) : Except Int Ln := match Ra (Un op) ps with
  | .error e => .error e
  | .ok (s, ps) => Px op d s ps
theorem Mv (op : Int) (ps : List (List UInt8)) : insV op ps = match Ra (Uo op) ps with
  | .error e => .error e
  | .ok (d, ps) => Iy op d ps := rfl
theorem Q0 (ps : List (List UInt8)) : Ra false ps = .ok (0, ps) := rfl
theorem Rx : Ra true [] = .error 5 := rfl
theorem Rw {p : List UInt8} {n : Nat} (h : Se p = some n) (ps : List (List UInt8)) : Ra true (p :: ps) = .ok (n, ps) := by
  simp [Ra, h]
theorem Uz {p : List UInt8} (h : Se p = none) (ps : List (List UInt8)) : Ra true (p :: ps) = .error 2 := by
  simp [Ra, h]
theorem M9 {op : Int} (h : hasI op = false) (ps : List (List UInt8)) : Ss op ps = .ok (0, [], ps) := by simp [Ss, h]
theorem N8 {op : Int} (h : hasI op = true) : Ss op [] = .error 5 := by simp [Ss, h]
theorem N0 {op : Int} (h : hasI op = true) {p : List UInt8} {n : Nat} (hn : numS p 65535 = some n) (ps : List (List UInt8)) : Ss op (p :: ps) = .ok (n, [], ps) := by simp [Ss, h, hn]
theorem Nx {op : Int} (h : hasI op = true) {p : List UInt8} (hn : numS p 65535 = none) (hr : W3 p = true ∧ Vt op = true) (ps : List (List UInt8)) : Ss op (p :: ps) = .ok (0, p, ps) := by simp [Ss, h, hn, hr.1, hr.2]
theorem N6 {op : Int} (h : hasI op = true) {p : List UInt8} (hn : numS p 65535 = none) (hr : ¬ (W3 p = true ∧ Vt op = true)) (ps : List (List UInt8)) : Ss op (p :: ps) = .error 2 := by
  simp only [Ss, h, hn, hr, if_false]; rfl
theorem regV_le {p : List UInt8} {n : Nat} (h : Se p = some n) : n ≤ 7 := by
  cases p with
  | nil => cases h
  | cons b t =>
    have e : Se (b :: t) = if b = 114 then numS t 7 else none := rfl
    rw [e] at h
    split at h
    · unfold numS at h
      split at h
      · split at h
        · cases h; assumption
        · cases h
      · cases h
    · cases h
theorem numS_le {p : List UInt8} {n m : Nat} (h : numS p m = some n) : n ≤ m := by
  unfold numS at h
  split at h
  · split at h
    · cases h; assumption
    · cases h
  · cases h
theorem Tg (c : UInt8) : ∀ (s : List UInt8), ∀ p ∈ splitS c s, p.length ≤ s.length
  | [], p, h => by
    simp only [splitS, List.mem_singleton] at h
    subst h; simp
  | b :: r, p, h => by
    have ih := Tg c r
    rw [U3] at h
    split at h
    · rcases List.mem_cons.1 h with rfl | h
      · simp
      · have := ih p h
        simp only [List.length_cons]; omega
    · split at h
      · simp only [List.mem_singleton] at h
        subst h; simp
      · rename_i q qs hq
        rcases List.mem_cons.1 h with rfl | h
        · have := ih q (by rw [hq]; exact List.mem_cons_self ..)
          simp only [List.length_cons]; omega
        · have := ih p (by rw [hq]; exact List.mem_cons_of_mem _ h)
          simp only [List.length_cons]; omega
theorem P8 (rest : List UInt8) : (∀ p ∈ piecesS rest, p.length ≤ rest.length) ∧ (piecesS rest).length ≤ rest.length + 1 := by
  have ht := Vz rest
  unfold piecesS
  split
  · simp
  · refine ⟨fun p hp => ?_, ?_⟩
    · obtain ⟨q, hq, rfl⟩ := List.mem_map.1 hp
      have h1 := Tg 44 _ q hq
      have h2 := Vz q
      omega
    · have h1 := S7 44 (trimB rest)
      have h2 := List.count_le_length (a := (44 : UInt8)) (l := trimB rest)
      rw [List.length_map, h1]; omega
def lineT (s : List UInt8) : Ln × Bool × Int := match Rz s with
  | .error e => (ln0, false, e)
  | .ok none => (ln0, false, 0)
  | .ok (some x) => (x, true, 0)
def regR (p : List UInt8) : Int := match Se p with
  | some n => n
  | none => -1
theorem numV_nil : Rc [] = none := rfl
theorem regR_r (t : List UInt8) : regR (114 :: t) = match numS t 7 with | some n => (n : Int) | none => -1 := rfl
theorem Kn {p : List UInt8} (h : ¬ 1 < p.length) : regR p = -1 := by
  cases p with
  | nil => rfl
  | cons b t =>
    have ht : t = [] := List.length_eq_zero_iff.1 (by simp only [List.length_cons] at h; omega)
    subst ht
    by_cases hb : b = 114
    · subst hb; rfl
    · simp [regR, Se, hb]
theorem Ia {b : UInt8} {t : List UInt8} (h : b ≠ 114) : regR (b :: t) = -1 := by simp [regR, Se, h]
theorem Qv {p : List UInt8} : regR p < 0 ↔ Se p = none := by
  unfold regR
  split
  · rename_i n h; simp [h]
  · rename_i h; simp [h]
theorem Nu {p : List UInt8} {n : Nat} (h : Se p = some n) : regR p = n := by simp [regR, h]
theorem regR_none {p : List UInt8} (h : Se p = none) : regR p = -1 := by simp [regR, h]
end Go.Proofs.YtccjjcdjgibilaaDoor
