/- The operations of a function as small instructions, what they make of a symbolic state, and that this is what they do. -/
import Derived.Test.YtjochhncheheaaaGreatDoorVc
namespace Go.Proofs.YtjochhncheheaaaGreatDoor
namespace Vc
open Go.RowKit
set_option linter.unusedVariables false
set_option linter.unusedSimpArgs false
inductive Opd where
  | t (n : Nat)
  | k (x : S1)
  | bad
inductive EK where
  | int
  | str
  | bool
  deriving DecidableEq
inductive I where
  | mv (x : Opd)
  | pick (c x y : Opd)
  | bin (op : BinOp) (x y : Opd)
  | un (op : UnOp) (x : Opd)
  | conv (k : IntKind) (x : Opd)
  | load (n : Nat) (agg : Bool) (x : Opd)
  | faddr (off : Nat) (x : Opd)
  | iaddr (sz : Nat) (x i : Opd)
  | sidx (x i : Opd)
  | fld (off n : Nat) (agg : Bool) (x : Opd)
  | ext (i : Nat) (x : Opd)
  | build (z : List At) (parts : List (Nat × Nat × Opd))
  | len (x : Opd)
  | slen (x : Opd)
  | ssl (x : Opd) (lo hi : Option Opd)
  | aeq (neg : Bool) (ks : List EK) (x y : Opd)
  | beq (neg : Bool) (x y : Opd)
  | alloc (E : Nat) (z : List At)
  | box (E : Nat) (x : Opd)
  | store (n : Nat) (x v : Opd)
  | call (f : Nat) (args : List Opd)
  | bsl (E sz m : Nat) (z : List At) (parts : List (Nat × Nat × Opd))
  | app (T E sz bytes : Nat) (x y : Opd)
  | bsl0 (E sz : Nat)
  | s2b (x : Opd)
  | sl (sz : Nat) (x : Opd) (lo hi : Option Opd)
  | mks (E : Nat) (k : Kd) (bytes : Nat) (x y : Opd)
  | isnil (neg : Bool) (x : Opd)
  | mkf (f : Nat) (caps : List Opd)
  | callv (x : Opd) (args : List Opd)
  | mkmap (P : Program) (K E : TypeId) (k : Kd)
  | mlook (P : Program) (K E : TypeId) (k : Kd) (ok : Bool) (x i : Opd)
  | mupd (P : Program) (K E : TypeId) (k : Kd) (x i v : Opd)
  | b2s (x : Opd)
  | r2s (x : Opd)
  | apps (T E : Nat) (x y : Opd)
  | nchk (x : Opd)
  | frz (x : Opd)
  | fmk
  | fupd (x i v : Opd)
  | flook (ok : Bool) (x i : Opd)
  | frng (x : Opd)
  | fnxt (x : Opd)
  | fent (x : Opd)
structure In where
  g : Option (Nat × Bool)
  d : Option Nat
  i : I
structure St where
  slots : List (Nat × SV)
  res : List (Nat × Res)
  nx : Nat
def Z1 {α : Type} : List (Nat × α) → Nat → Option α
  | [], _ => none
  | (m, x) :: l, n => if m = n then some x else Z1 l n
theorem Y1 {α : Type} {l : List (Nat × α)} {n : Nat} {x : α} (h : Z1 l n = some x) : (n, x) ∈ l := by
  induction l with
  | nil => cases h
  | cons p l ih =>
    simp only [Z1] at h
    split at h
    · rename_i e; cases h; rw [← e]; simp
    · exact List.mem_cons_of_mem _ (ih h)
def St.get (S : St) (t : Nat) : Option SV := Z1 S.slots t
def St.find (S : St) (n : Nat) : Option Res := Z1 S.res n
def St.put (S : St) (d : Option Nat) (v : SV) : St :=
  match d with
  | some d => ⟨(d, v) :: S.slots, S.res, S.nx⟩
  | none => S
@[reducible] def BIG : Nat := 1000000
def R4 (c : Cx) (a : Act) (t : Nat) : Option Value := if t < BIG then a.tmps[t]? else c.fr[t - BIG]?
theorem W9 {c : Cx} {a : Act} {t : Nat} (h : t < BIG) : R4 c a t = a.tmps[t]? := if_pos h
structure St.holds (S : St) (c : Cx) (ρ : Env) (a : Act) (w : World) : Prop where
  nodef : a.defers = []
  sz : a.tmps.size = c.nt
  lown : c.nt ≤ BIG
  slot : ∀ t v, S.get t = some v → R4 c a t = some (v.den ρ)
  bds : ∀ t v, S.get t = some v → v.bd S.nx
  mem : Mem c ρ S.res S.nx w
def St.rd (S : St) : Opd → Option (Prop × S1)
  | .bad => none
  | .k x => some (True, x)
  | .t n => match S.get n with
    | some (.one v) => some (True, v)
    | some (.opt g v) => some (g = true, v)
    | _ => none
def atV : Value → At
  | .int k n => .int k n
  | .bool b => .bool b
  | .string s => .str s.data.toList
  | v => .raw v
def ofV : Value → S1
  | .agg cs => .agg (cs.toList.map atV)
  | v => .a (atV v)
theorem L2 (ρ : Env) (v : Value) : (atV v).den ρ = v := by
  cases v <;> simp [atV, At.den]
theorem Lo (nx : Nat) (v : Value) (h : v.oneCell' = true) : (atV v).bd nx := by
  cases v <;> simp_all [atV, At.bd, Value.oneCell']
theorem ofV_den (ρ : Env) (v : Value) : (ofV v).den ρ = v := by
  cases v <;> simp only [ofV, S1.den, L2]
  rename_i cs
  have : (cs.toList.map atV).map (At.den ρ) = cs.toList := by
    rw [List.map_map]
    conv => rhs; rw [← List.map_id cs.toList]
    exact List.map_congr_left fun x _ => L2 ρ x
  rw [this]
def okV (v : Value) : Bool := v.cells.toList.all fun x => x.oneCell'
theorem ofV_bd (nx : Nat) (v : Value) (h : okV v = true) : (ofV v).bd nx := by
  have h' : ∀ x ∈ v.cells.toList, (atV x).bd nx := fun x hx => Lo nx x (List.all_eq_true.1 h x hx)
  cases v
  case agg cs =>
    intro y hy
    obtain ⟨x, hx, rfl⟩ := List.mem_map.1 hy
    exact h' x hx
  all_goals exact h' _ (List.mem_singleton.2 rfl)
def opd : Operand → Opd
  | .tmp t => if t < BIG then .t t else .bad
  | .const v => if okV v then .k (ofV v) else .bad
  | .global g => .k (.a (.raw (.pointer (some ⟨g, 0, none⟩))))
  | .func f => .k (.a (.raw (.func (.func f) #[] #[])))
theorem Zb {c : Cx} {S : St} {ρ : Env} {a : Act} {w : World} (hh : S.holds c ρ a w) {x : Operand} {p : Prop} {v : S1} (h : S.rd (opd x) = some (p, v)) (hp : p) :
    a.eval x = v.den ρ ∧ v.bd S.nx := by
  cases x with
  | tmp t =>
    by_cases hlow' : ¬ t < BIG
    · simp only [opd, if_neg hlow', St.rd] at h; cases h
    have hlow : t < BIG := Nat.lt_of_not_le fun h' => hlow' (Nat.not_lt.2 h')
    have hsl : ∀ v, R4 c a t = some v → a.tmps[t]? = some v := fun v hv => by rw [W9 hlow] at hv; exact hv
    simp only [opd, if_pos hlow, St.rd] at h
    cases hg : S.get t with
    | none => rw [hg] at h; cases h
    | some sv =>
      rw [hg] at h
      have h1 := hsl _ (hh.slot t sv hg)
      have h2 := hh.bds t sv hg
      cases sv with
      | one u =>
        cases h
        exact ⟨by simp [Act.eval, Array.getD_eq_getD_getElem?, h1, SV.den], h2⟩
      | tup l => cases h
      | opt g u =>
        cases h
        exact ⟨by simp [Act.eval, Array.getD_eq_getD_getElem?, h1, SV.den, hp], h2 hp⟩
  | const v' =>
    simp only [opd] at h
    split at h
    · rename_i hok
      cases h; exact ⟨(ofV_den ρ v').symm, ofV_bd _ _ hok⟩
    · cases h
  | global g => cases h; exact ⟨rfl, rfl⟩
  | func f => cases h; exact ⟨rfl, rfl⟩
def Lt (k : IntKind) (x y : Int) : Int := k.wrap (BitVec.ofInt k.bits x &&& BitVec.ofInt k.bits y).toNat
def orI (k : IntKind) (x y : Int) : Int := k.wrap (BitVec.ofInt k.bits x ||| BitVec.ofInt k.bits y).toNat
def xorI (k : IntKind) (x y : Int) : Int := k.wrap (BitVec.ofInt k.bits x ^^^ BitVec.ofInt k.bits y).toNat
def andnI (k : IntKind) (x y : Int) : Int := k.wrap (BitVec.ofInt k.bits x &&& ~~~BitVec.ofInt k.bits y).toNat
def Qg (k : IntKind) (x y : Int) : Int := k.wrap (x * 2 ^ min y.toNat k.bits)
def E1 (k : IntKind) (x y : Int) : Int := x / 2 ^ min y.toNat k.bits
def Xj (op : BinOp) (k : IntKind) (x y : Int) : Option (Prop × At) :=
  match op with
  | .add => some (True, .int k (k.wrap (x + y)))
  | .sub => some (True, .int k (k.wrap (x - y)))
  | .mul => some (True, .int k (k.wrap (x * y)))
  | .quo => some (y ≠ 0, .int k (k.wrap (x.tdiv y)))
  | .rem => some (y ≠ 0, .int k (x.tmod y))
  | .and => some (True, .int k (Lt k x y))
  | .or => some (True, .int k (orI k x y))
  | .xor => some (True, .int k (xorI k x y))
  | .andNot => some (True, .int k (andnI k x y))
  | .eql => some (True, .bool (decide (x = y)))
  | .neq => some (True, .bool (!decide (x = y)))
  | .lss => some (True, .bool (decide (x < y)))
  | .leq => some (True, .bool (decide (x ≤ y)))
  | .gtr => some (True, .bool (decide (y < x)))
  | .geq => some (True, .bool (decide (y ≤ x)))
  | _ => none
def Tu (op : BinOp) (x y : List UInt8) : Option (Prop × At) :=
  match op with
  | .add => some (x.length + y.length ≤ 9223372036854775807, .str (x ++ y))
  | .eql => some (True, .bool (decide (x = y)))
  | .neq => some (True, .bool (!decide (x = y)))
  | .lss => some (True, .bool (Op.bytesLess x y))
  | _ => none
def T6 (op : BinOp) (x y : At) : Option (Prop × At) :=
  match x, y with
  | .int k a, .int yk b =>
    match op with
    | .shl => some (0 ≤ b, .int k (Qg k a b))
    | .shr => some (0 ≤ b, .int k (E1 k a b))
    | op => if k = yk then Xj op k a b else none
  | .str a, .str b => Tu op a b
  | _, _ => none
def O4 (op : UnOp) (x : At) : Option At :=
  match op, x with
  | .not, .bool b => some (.bool (!b))
  | .neg, .int k n => some (.int k (k.wrap (0 - n)))
  | .xor, .int k n => some (.int k (xorI k (if k.signed then -1 else k.max) n))
  | _, _ => none
def Vu (g : Bool) (x y : At) : Option At :=
  match x, y with
  | .int k a, .int k' b => if k = k' then some (.int k (bif g then a else b)) else none
  | .bool a, .bool b => some (.bool (bif g then a else b))
  | .str a, .str b => some (.str (bif g then a else b))
  | _, _ => none
theorem Pw (l : List UInt8) : (ByteArray.mk l.toArray).toList = l := by rw [ByteArray.toList_eq]
theorem Jv {P : Program} {op : BinOp} {k : IntKind} {x y : Int} {p : Prop} {z : At} {t : TypeId} (h : Xj op k x y = some (p, z)) (hp : p) (w : World) (ρ : Env) :
    (binOp op t (.int k x) (.int k y)).run P w = .ok (z.den ρ) w ∧ z.bd 0 := by
  cases op <;> simp only [Xj, Option.some.injEq, Prod.mk.injEq, reduceCtorEq] at h <;> (try (obtain ⟨rfl, rfl⟩ := h)) <;>
    first
    | (refine ⟨?_, trivial⟩; simp [binOp, Op.intArith, At.den, Sem.run_pure]; done)
    | (refine ⟨?_, trivial⟩; simp [binOp, Op.intDiv, At.den, Sem.run_pure, hp]; done)
    | (refine ⟨?_, trivial⟩; simp [binOp, Op.intBits, At.den, Sem.run_pure, Lt, orI, xorI, andnI]; done)
    | (refine ⟨?_, trivial⟩; simp [binOp, Op.intCmp, At.den, Sem.run_pure, bne]; done)
    | (refine ⟨?_, trivial⟩; simp [binOp, Op.intCmp, At.den, Sem.run_pure]; rw [Bool.eq_iff_iff]; simp; done)
theorem Kw {P : Program} {op : BinOp} {x y : List UInt8} {p : Prop} {z : At} {t : TypeId} (h : Tu op x y = some (p, z)) (hp : p) (w : World) (ρ : Env) :
    (binOp op t (.string ⟨x.toArray⟩) (.string ⟨y.toArray⟩)).run P w = .ok (z.den ρ) w ∧ z.bd 0 := by
  have hb : ∀ op, binOp op t (.string ⟨x.toArray⟩) (.string ⟨y.toArray⟩) = Op.stringOp op ⟨x.toArray⟩ ⟨y.toArray⟩ := fun op => by cases op <;> rfl
  cases op <;> simp only [Tu, Option.some.injEq, Prod.mk.injEq, reduceCtorEq] at h <;> (try (obtain ⟨rfl, rfl⟩ := h)) <;> rw [hb]
  case add =>
    refine ⟨?_, trivial⟩
    rw [run_string_add_if]
    have h1 : (ByteArray.mk x.toArray).size = x.length := by simp [ByteArray.size]
    have h2 : (ByteArray.mk y.toArray).size = y.length := by simp [ByteArray.size]
    rw [h1, h2, if_neg (by omega)]
    simp only [At.den]
    have : (ByteArray.mk x.toArray) ++ (ByteArray.mk y.toArray) = ByteArray.mk (x ++ y).toArray := by
      apply ByteArray.ext
      rw [ByteArray.data_append]
      simp
    rw [this]
  all_goals
    refine ⟨?_, trivial⟩
    simp [Op.stringOp, At.den, Sem.run_pure, Pw]
  all_goals rw [Bool.eq_iff_iff]; simp
theorem Qj (op : BinOp) (t : TypeId) (x y : Operand) (a b : Value) (h : ∀ cs, a ≠ .agg cs) (h2 : a ≠ .nilIface) : eqGuard op t x y a b = pure () := by
  unfold eqGuard
  cases op <;> first | rfl | (cases a <;> first | rfl | (exact absurd rfl (h _)) | (exact absurd rfl h2))
theorem Kt {P : Program} {op : BinOp} {x y : At} {p : Prop} {z : At} {t : TypeId} {X Y : Operand} (h : T6 op x y = some (p, z)) (hp : p) (w : World) (ρ : Env) :
    (do eqGuard op t X Y (x.den ρ) (y.den ρ); binOp op t (x.den ρ) (y.den ρ) : Sem Value).run P w = .ok (z.den ρ) w ∧ z.bd 0 := by
  cases x <;> cases y <;> simp only [T6, reduceCtorEq] at h
  case int.int k a yk b =>
    rw [Sem.run_bind, At.den, Qj _ _ _ _ _ _ (by simp) (by simp), Sem.run_pure, Result.andThen_ok]
    cases op
    case shl =>
      cases h
      refine ⟨?_, trivial⟩
      simp only [At.den, binOp, Op.shift, Int.not_lt.mpr hp, if_false]
      simp [Qg, Sem.run_pure]
    case shr =>
      cases h
      refine ⟨?_, trivial⟩
      have hpos : (0 : Int) ≤ 2 ^ min b.toNat k.bits := Int.le_of_lt (Int.pow_pos (by decide))
      simp only [At.den, binOp, Op.shift, Int.not_lt.mpr hp, if_false]
      simp [E1, Sem.run_pure, Int.fdiv_eq_ediv_of_nonneg _ hpos]
    all_goals
      simp only at h
      split at h
      · rename_i hk
        subst hk
        exact Jv h hp w ρ
      · cases h
  case str.str a b =>
    rw [Sem.run_bind, At.den, Qj _ _ _ _ _ _ (by simp) (by simp), Sem.run_pure, Result.andThen_ok]
    exact Kw h hp w ρ
theorem Lu {P : Program} {neg : Bool} {t : TypeId} (ht : P.underlying t = some .bool) (a b : Bool) (w : World) (X Y : Operand) :
    (do eqGuard (if neg then .neq else .eql) t X Y (.bool a) (.bool b); binOp (if neg then .neq else .eql) t (.bool a) (.bool b) : Sem Value).run P w = .ok (.bool (if neg then a != b else a == b)) w := by
  have h : ∀ n, (Op.equalIn (n + 1) t (.bool a) (.bool b)).run P w = .ok (a == b) w := fun n => by
    unfold Op.equalIn
    rw [Sem.run_bind, run_underlying ht, Result.andThen_ok]
    simp [Sem.run_pure]
  have h1 : (Op.equal t (.bool a) (.bool b)).run P w = .ok (a == b) w := h 9999
  rw [Sem.run_bind, Qj _ _ _ _ _ _ (by simp) (by simp), Sem.run_pure, Result.andThen_ok]
  cases neg <;> simp only [binOp, Bool.false_eq_true, if_false, if_true] <;> rw [Sem.run_bind, h1, Result.andThen_ok, Sem.run_pure]
  rfl
def Wc : TypeDesc → Bool
  | .struct _ => true
  | .array _ _ => true
  | _ => false
def sizes (P : Program) (fs : Array Field) : Option (List (Nat × Nat)) := fs.toList.mapM fun f => (P.info? f.type).map fun i => (f.offset, i.size)
def T9 (pl : List (Nat × Nat)) : List (Nat × Operand) → Option (List (Nat × Nat × Opd))
  | [] => some []
  | (i, x) :: r => match pl[i]?, T9 pl r with
    | some (o, z), some r' => some ((o, z, opd x) :: r')
    | _, _ => none
def L1 (P : Program) (g : TypeId → Option (List EK)) : List Field → Nat → Option (List EK)
  | [], _ => some []
  | f :: fs, o => if f.name = "_" ∨ f.offset ≠ o then none else match g f.type, P.info? f.type with
    | some ks, some i => if i.size = ks.length ∧ 0 < ks.length then (match L1 P g fs (o + ks.length) with
      | some r => some (ks ++ r)
      | none => none) else none
    | _, _ => none
def Nf (P : Program) : Nat → TypeId → Option (List EK)
  | 0, _ => none
  | n + 1, t => match P.underlying t with
    | some (.int _) => some [.int]
    | some .string => some [.str]
    | some .bool => some [.bool]
    | some (.struct fs) => if P.stoodInHeld t = true then none else L1 P (Nf P n) fs.toList 0
    | _ => none
def Ku (P : Program) (E : TypeId) : Option Kd :=
  match P.underlying E, (P.info? E).bind (·.zero) with
  | some (.int q), some (.int q' n) => if q' = q ∧ n = 0 then some (.int q) else none
  | some .bool, some (.bool b) => if b = false then some .bool else none
  | _, _ => none
def Qi (P : Program) (K E : TypeId) : Option Kd :=
  match P.underlying K with
  | some .string => Ku P E
  | _ => none
def Tb (P : Program) (o : Oper) : Option I :=
  match o.op with
  | .move x => some (.mv (opd x))
  | .assign x => some (.mv (opd x))
  | .pick c x y => some (.pick (opd c) (opd x) (opd y))
  | .binOp op t x y _ =>
    match P.underlying t with
    | some .bool => (match op with | .eql => some (.beq false (opd x) (opd y)) | .neq => some (.beq true (opd x) (opd y)) | _ => none)
    | some (.int _) => some (.bin op (opd x) (opd y))
    | some .string => some (.bin op (opd x) (opd y))
    | some (.struct _) => if P.eqGuardType P.depth t = true then none else (match Nf P 6 t with
      | some ks => (match op with | .eql => some (.aeq false ks (opd x) (opd y)) | .neq => some (.aeq true ks (opd x) (opd y)) | _ => none)
      | none => none)
    | _ => none
  | .unOp op _ x => some (.un op (opd x))
  | .convert s d x =>
    match P.underlying s, P.underlying d with
    | some _, some (.int k) => some (.conv k (opd x))
    | some .string, some (.slice e) => (match P.underlying e with
      | some (.int .u8) => some (.s2b (opd x))
      | _ => none)
    | some (.slice e), some .string => (match P.underlying e with
      | some (.int .u8) => some (.b2s (opd x))
      | _ => none)
    | some (.int _), some .string => some (.r2s (opd x))
    | some (.slice _), some (.slice e) => if s = d then (match P.underlying e with
      | some (.int .u8) => some (.frz (opd x))
      | _ => none) else none
    | _, _ => none
  | .load t x =>
    match P.underlying t, P.info? t with
    | some d, some i => some (.load i.size (Wc d) (opd x))
    | _, _ => none
  | .fieldAddr t x f =>
    match P.underlying t with
    | some (.struct fs) => (match fs[f]? with
      | some fl => (match P.info? fl.type with
        | some i => if i.size = 0 then none else some (.faddr fl.offset (opd x))
        | none => none)
      | none => none)
    | _ => none
  | .indexAddr t x i =>
    match P.underlying t with
    | some (.slice e) => (match P.info? e with
      | some j => some (.iaddr j.size (opd x) (opd i))
      | none => none)
    | _ => none
  | .index t x i =>
    match P.underlying t with
    | some .string => some (.sidx (opd x) (opd i))
    | _ => none
  | .field t x f =>
    match P.underlying t with
    | some (.struct fs) => (match fs[f]? with
      | some fl => (match P.underlying fl.type, P.info? fl.type with
        | some d, some i => some (.fld fl.offset i.size (Wc d) (opd x))
        | _, _ => none)
      | none => none)
    | _ => none
  | .extract x i => some (.ext i (opd x))
  | .build t parts =>
    match P.underlying t, P.info? t with
    | some (.struct fs), some i => (match i.zero, sizes P fs with
      | some z, some pl => (match T9 pl parts.toList with
        | some ps => if okV z then some (.build (z.cells.toList.map atV) ps) else none
        | none => none)
      | _, _ => none)
    | _, _ => none
  | .alloc E =>
    match P.info? E with
    | some i => (match i.zero with
      | some z => if okV z then some (.alloc E (z.cells.toList.map atV)) else none
      | none => none)
    | none => none
  | .box E x => some (.box E (opd x))
  | .store t x v =>
    match P.info? t with
    | some i => some (.store i.size (opd x) (opd v))
    | none => none
  | .buildSlice t m parts =>
    match P.underlying t with
    | some (.slice e) => (match P.info? e with
      | some i => (match i.zero with
        | some z =>
          if m = 0 ∧ parts.toList = [] then some (.bsl0 e i.size)
          else if m * i.size ≤ 1024 ∧ 0 < m * i.size ∧ z.cells.size = i.size ∧ okV z = true then
            (match T9 ((List.range m).map fun q => (q * i.size, i.size)) parts.toList with
            | some ps => some (.bsl e i.size m ((List.replicate m (z.cells.toList.map atV)).flatten) ps)
            | none => none)
          else none
        | none => none)
      | none => none)
    | _ => none
  | .call cl =>
    match cl.callee with
    | .value (.func f) => (match P.funcs[f]? with
      | some fn => if fn.name == "runtime.NumGoroutine" || fn.body.isNone then none else some (.call f (cl.args.toList.map opd))
      | none => none)
    | .value (.tmp t) => some (.callv (opd (.tmp t)) (cl.args.toList.map opd))
    | .builtin .len => (match cl.args.toList, cl.argTypes.toList with
      | [x], [t] => (match P.underlying t with
        | some .string => some (.slen (opd x))
        | some (.slice _) => some (.len (opd x))
        | _ => none)
      | _, _ => none)
    | .builtin .append => (match cl.args.toList, cl.argTypes.toList with
      | [x, y], [t, u] => if t = u then (match P.underlying t with
        | some (.slice e) => (match P.info? e with
          | some i => (match i.zero with
            | some z => if z.cells.size = i.size ∧ 0 < i.size ∧ okV z = true then some (.app t e i.size i.bytes (opd x) (opd y)) else none
            | none => none)
          | none => none)
        | _ => none) else (match P.underlying t, P.underlying u with
        | some (.slice e), some .string => (match P.info? e with
          | some i => (match i.zero with
            | some (.int .u8 n) => if n = 0 ∧ i.size = 1 ∧ i.bytes = 1 then some (.apps t e (opd x) (opd y)) else none
            | _ => none)
          | none => none)
        | _, _ => none)
      | _, _ => none)
    | _ => none
  | .slice t x lo hi mx =>
    match P.underlying t, mx with
    | some .string, none => some (.ssl (opd x) (lo.map opd) (hi.map opd))
    | some (.slice e), none => (match P.info? e with
      | some j => some (.sl j.size (opd x) (lo.map opd) (hi.map opd))
      | none => none)
    | _, _ => none
  | .makeSlice t x y =>
    match P.underlying t with
    | some (.slice e) => (match Ku P e, P.info? e with
      | some k, some i => if i.size = 1 ∧ k.sz = 1 then some (.mks e k i.bytes (opd x) (opd y)) else none
      | _, _ => none)
    | _ => none
  | .makeFunc fn first captured =>
    match fn with
    | .func f => if first.size = 0 then some (.mkf f (captured.toList.map opd)) else none
    | _ => none
  | .makeMap t r =>
    match r, P.underlying t with
    | none, some (.map K E) => (match Qi P K E with
      | some k => some (.mkmap P K E k)
      | none => none)
    | _, _ => none
  | .lookup t x i ok =>
    match P.underlying t with
    | some (.map K E) => (match Qi P K E with
      | some k => some (.mlook P K E k ok (opd x) (opd i))
      | none => none)
    | _ => none
  | .mapUpdate t x i v =>
    match P.underlying t with
    | some (.map K E) => (match Qi P K E with
      | some k => some (.mupd P K E k (opd x) (opd i) (opd v))
      | none => none)
    | _ => none
  | .nilCheck x => some (.nchk (opd x))
  | _ => none
def U4 (P : Program) (t : TypeId) : Bool := match P.underlying t with
  | some (.map K _) => (match P.underlying K with
    | some .string => true
    | _ => false)
  | _ => false
def Lh (P : Program) (o : Oper) : Option I :=
  match o.op with
  | .makeMap t none => if U4 P t = true then some .fmk else none
  | .lookup t x i ok => if U4 P t = true then some (.flook ok (opd x) (opd i)) else none
  | .mapUpdate t x i v => if U4 P t = true then some (.fupd (opd x) (opd i) (opd v)) else none
  | .range t x => if U4 P t = true then some (.frng (opd x)) else none
  | .insert t x i v => if U4 P t = true then some (.fupd (opd x) (opd i) (opd v)) else none
  | .next x false => some (.fnxt (opd x))
  | .entry x => some (.fent (opd x))
  | _ => none
def R7 (P : Program) (o : Oper) : Option I := match Tb P o with
  | some i => some i
  | none => Lh P o
def I.isX : I → Bool
  | .fmk => true
  | .fupd _ _ _ => true
  | .flook _ _ _ => true
  | .frng _ => true
  | .fnxt _ => true
  | .fent _ => true
  | _ => false
theorem Mt {P : Program} {o : Oper} {i : I} (h : Lh P o = some i) : i.isX = true := by
  unfold Lh at h
  split at h <;> (repeat' split at h) <;> cases h <;> rfl
theorem compI_cases {P : Program} {o : Oper} {i : I} (h : R7 P o = some i) : Tb P o = some i ∨ Lh P o = some i := by
  unfold R7 at h
  split at h
  · rename_i hh; cases h; exact .inl hh
  · exact .inr h
theorem Ka {P : Program} {o : Oper} {i : I} (h : R7 P o = some i) (hx : i.isX = false) : Tb P o = some i := by
  rcases compI_cases h with h | h
  · exact h
  · rw [Mt h] at hx; cases hx
theorem Fb {P : Program} {o : Oper} {i : I} (h : Tb P o = some i) : R7 P o = some i := by unfold R7; rw [h]
def dstOk (nt : Nat) : Option Nat → Bool
  | some d => decide (d < nt)
  | none => true
def X4 (P : Program) (nt : Nat) (ops : Array Oper) (o : Oper) : Option In :=
  match R7 P o with
  | none => none
  | some i =>
    if dstOk nt o.dst = true then
      match o.guard with
      | none => some ⟨none, o.dst, i⟩
      | some (j, b) => (match (ops[j]?).bind (·.dst) with
        | some t => if t < BIG then some ⟨some (t, b), o.dst, i⟩ else none
        | none => none)
    else none
def Ws (l : List At) (o n : Nat) (agg : Bool) : Option SV :=
  if agg then (if o + n ≤ l.length then some (.one (.agg ((l.drop o).take n))) else none)
  else match l[o]? with
    | some u => some (.one (.a u))
    | none => none
def Y8 (s : List UInt8) (i : Nat) : Int := ((s.getD i 0).toNat : Int)
def u8s : List At → Option (List (Kd.ty (.int .u8)))
  | [] => some []
  | .int .u8 n :: l => (match u8s l with
    | some r => some (n :: r)
    | none => none)
  | _ :: _ => none
def toB (n : Int) : UInt8 := UInt8.ofNat n.toNat
def bytesI (s : List UInt8) : List (Kd.ty (.int .u8)) := s.map fun b => ((b.toNat : Nat) : Int)
def X6 (l : List At) (o : Nat) (us : List At) : List At := l.take o ++ us ++ l.drop (o + us.length)
def S1.cells : S1 → List At
  | .a x => [x]
  | .agg l => l
def Wr (S : St) : List (Nat × Nat × Opd) → List At → Option (Prop × List At)
  | [], l => some (True, l)
  | (o, z, x) :: r, l => match S.rd x with
    | some (p, v) => if v.cells.length = z ∧ o + z ≤ l.length then (match Wr S r (X6 l o v.cells) with
      | some (q, l') => some (p ∧ q, l')
      | none => none) else none
    | none => none
def Om : EK → At → At → Option Bool
  | .int, .int k a, .int k' b => if k = k' then some (decide (a = b)) else none
  | .str, .str a, .str b => some (decide (a = b))
  | .bool, .bool a, .bool b => some (a == b)
  | _, _, _ => none
def Tq : List EK → List At → List At → Option Bool
  | [], [], [] => some true
  | k :: ks, x :: l, y :: m => match Om k x y, Tq ks l m with
    | some a, some b => some (a && b)
    | _, _ => none
  | _, _, _ => none
def Td (S : St) : List Opd → Option (Prop × List S1)
  | [] => some (True, [])
  | x :: r => match S.rd x, Td S r with
    | some (p, v), some (q, l) => some (p ∧ q, v :: l)
    | _, _ => none
def Vy : List S1 → Option (List Nat)
  | [] => some []
  | .a (.loc m 0) :: r => (match Vy r with
    | some l => some (m :: l)
    | none => none)
  | _ => none
def atK : (k : Kd) → k.ty → At
  | .int q, n => .int q n
  | .bool, b => .bool b
  | _, _ => .bool false
def Qh (ok : Bool) (k : Kd) (o : Option k.ty) : SV := if ok then .tup [.a (atK k (o.getD k.dflt)), .a (.bool o.isSome)] else .one (.a (atK k (o.getD k.dflt)))
def lenOf (S : St) (sz m : Nat) : Option Nat :=
  match S.find m with
  | some (.ro k l) => if sz = k.sz then some l.length else none
  | some (.row _ k l) => if sz = k.sz then some l.length else none
  | some (.lit _ z e _) => if sz = z then some e else none
  | _ => none
def ev (S : St) : I → Option (Prop × SV)
  | .mv x => match S.rd x with
    | some (p, v) => some (p, .one v)
    | none => match x with
      | .t t => (match S.get t with
        | some (.tup l) => some (True, .tup l)
        | _ => none)
      | _ => none
  | .pick c x y => match S.rd c, S.rd x, S.rd y with
    | some (pc, .a (.bool g)), some (px, .a u), some (py, .a v) => (match Vu g u v with
      | some z => some (pc ∧ (g = true → px) ∧ (g = false → py), .one (.a z))
      | none => none)
    | _, _, _ => none
  | .bin op x y => match S.rd x, S.rd y with
    | some (p, .a u), some (q, .a v) => (match T6 op u v with
      | some (r, z) => some (p ∧ q ∧ r, .one (.a z))
      | none => none)
    | _, _ => none
  | .beq neg x y => match S.rd x, S.rd y with
    | some (p, .a (.bool u)), some (q, .a (.bool v)) => some (p ∧ q, .one (.a (.bool (if neg then u != v else u == v))))
    | _, _ => none
  | .aeq neg ks x y => match S.rd x, S.rd y with
    | some (p, .agg u), some (q, .agg v) => (match Tq ks u v with
      | some b => some (p ∧ q, .one (.a (.bool (if neg then !b else b))))
      | none => none)
    | _, _ => none
  | .un op x => match S.rd x with
    | some (p, .a u) => (match O4 op u with
      | some z => some (p, .one (.a z))
      | none => none)
    | _ => none
  | .conv k x => match S.rd x with
    | some (p, .a (.int _ n)) => some (p, .one (.a (.int k (k.wrap n))))
    | _ => none
  | .load n agg x => match S.rd x with
    | some (p, .a (.loc m o)) => (match S.find m with
      | some (.cells _ l) => (match Ws l o n agg with
        | some v => some (p, v)
        | none => none)
      | some (.rocells l) => (match Ws l o n agg with
        | some v => some (p, v)
        | none => none)
      | _ => none)
    | some (p, .a (.elt m sz i j)) => (match S.find m with
      | some (.ro k l) => if sz = k.sz then (match Ws (k.enc (l.getD i k.dflt)) j n agg with
        | some v => some (p ∧ i < l.length, v)
        | none => none) else none
      | some (.row _ k l) => if sz = k.sz then (match Ws (k.enc (l.getD i k.dflt)) j n agg with
        | some v => some (p ∧ i < l.length, v)
        | none => none) else none
      | some (.lit _ _ _ l) => (match Ws l (i * sz + j) n agg with
        | some v => some (p, v)
        | none => none)
      | _ => none)
    | _ => none
  | .nchk x => match S.rd x with
    | some (p, .a (.loc m o)) => (match S.find m with
      | some (.cells _ _) => some (p, .one (.a (.loc m o)))
      | some (.rocells _) => some (p, .one (.a (.loc m o)))
      | _ => none)
    | _ => none
  | .faddr off x => match S.rd x with
    | some (p, .a (.loc m o)) => (match S.find m with
      | some (.cells _ _) => some (p, .one (.a (.loc m (o + off))))
      | some (.rocells _) => some (p, .one (.a (.loc m (o + off))))
      | _ => none)
    | some (p, .a (.elt m sz i j)) => (match S.find m with
      | some (.ro _ l) => some (p ∧ i < l.length, .one (.a (.elt m sz i (j + off))))
      | some (.row _ _ l) => some (p ∧ i < l.length, .one (.a (.elt m sz i (j + off))))
      | some (.lit _ _ e _) => some (p, .one (.a (.elt m sz i (j + off))))
      | some (.rou l) => some (p ∧ i < l.length, .one (.a (.elt m sz i (j + off))))
      | _ => none)
    | _ => none
  | .iaddr sz x i => match S.rd x, S.rd i with
    | some (p, .a (.ref m)), some (q, .a (.int _ n)) => (match S.find m with
      | some (.ro k l) => if sz = k.sz then some (p ∧ q ∧ 0 ≤ n ∧ n < l.length, .one (.a (.elt m sz n.toNat 0))) else none
      | some (.row _ k l) => if sz = k.sz then some (p ∧ q ∧ 0 ≤ n ∧ n < l.length, .one (.a (.elt m sz n.toNat 0))) else none
      | some (.lit _ z e _) => if sz = z then some (p ∧ q ∧ 0 ≤ n ∧ n < e, .one (.a (.elt m sz n.toNat 0))) else none
      | some (.rou l) => if sz = 2 then some (p ∧ q ∧ 0 ≤ n ∧ n < l.length, .one (.a (.elt m sz n.toNat 0))) else none
      | some (.view m' z lo hi) => if sz = z then (match lenOf S sz m' with
        | some e => some (p ∧ q ∧ 0 ≤ n ∧ n < (hi : Int) - lo ∧ hi ≤ e, .one (.a (.elt m' sz (lo + n.toNat) 0)))
        | none => none) else none
      | _ => none)
    | _, _ => none
  | .sidx x i => match S.rd x, S.rd i with
    | some (p, .a (.str s)), some (q, .a (.int _ n)) => some (p ∧ q ∧ 0 ≤ n ∧ n < s.length, .one (.a (.int .u8 (Y8 s n.toNat))))
    | _, _ => none
  | .fld off n agg x => match S.rd x with
    | some (p, .agg l) => (match Ws l off n agg with
      | some v => some (p, v)
      | none => none)
    | _ => none
  | .ext i x => match x with
    | .t t => (match S.get t with
      | some (.tup l) => (match l[i]? with
        | some v => some (True, .one v)
        | none => none)
      | _ => none)
    | _ => none
  | .build z ps => match Wr S ps z with
    | some (p, l) => some (p, .one (.agg l))
    | none => none
  | .slen x => match S.rd x with
    | some (p, .a (.str s)) => some (p, .one (.a (.int .i64 s.length)))
    | _ => none
  | .len x => match S.rd x with
    | some (p, .a (.ref m)) => (match S.find m with
      | some (.ro k l) => some (p, .one (.a (.int .i64 l.length)))
      | some (.row _ k l) => some (p, .one (.a (.int .i64 l.length)))
      | some (.lit _ _ e _) => some (p, .one (.a (.int .i64 e)))
      | some (.rou l) => some (p, .one (.a (.int .i64 l.length)))
      | some (.urow _ _ l) => some (p, .one (.a (.int .i64 l.length)))
      | some (.view _ _ lo hi) => some (p, .one (.a (.int .i64 ((hi - lo : Nat) : Int))))
      | _ => none)
    | some (p, .a (.raw (.slice none 0 0))) => some (p, .one (.a (.int .i64 0)))
    | _ => none
  | .ssl x lo hi =>
    match S.rd x, (match lo with | some l => S.rd l | none => some (True, .a (.int .i64 0))), (match hi with | some h => S.rd h | none => (match S.rd x with | some (_, .a (.str s)) => some (True, .a (.int .i64 s.length)) | _ => none)) with
    | some (p, .a (.str s)), some (q, .a (.int _ l)), some (r, .a (.int _ h)) => some (p ∧ q ∧ r ∧ 0 ≤ l ∧ l ≤ h ∧ h ≤ s.length, .one (.a (.str ((s.take h.toNat).drop l.toNat))))
    | _, _, _ => none
  | .r2s x => match S.rd x with
    | some (p, .a (.int _ n)) => some (p ∧ 0 ≤ n ∧ n < 128, .one (.a (.str [toB n])))
    | _ => none
  | .mkf f caps => match Td S caps with
    | some (p, vs) => (match Vy vs with
      | some ms => some (p, .one (.a (.clo f ms)))
      | none => none)
    | none => none
  | .mlook P K E k ok x i => match S.rd x, S.rd i with
    | some (p, .a (.ref m)), some (q, .a (.str s)) => (match S.find m with
      | some (.smap P' K' E' k' f n) => if K' = K ∧ E' = E then some (p ∧ q ∧ (P' = P ∧ k' = k) ∧ s.length ≤ 9223372036854775807, Qh ok k' (f s)) else none
      | some (.rosmap P' K' E' k' f n) => if K' = K ∧ E' = E then some (p ∧ q ∧ (P' = P ∧ k' = k) ∧ s.length ≤ 9223372036854775807, Qh ok k' (f s)) else none
      | _ => none)
    | _, _ => none
  | _ => none
end Vc
end Go.Proofs.YtjochhncheheaaaGreatDoor
