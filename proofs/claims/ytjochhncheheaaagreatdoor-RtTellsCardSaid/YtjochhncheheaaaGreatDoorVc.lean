/- A condition generator over the kit's wp: symbolic states, what holds of them in a world, how they are carried from step to step. Plain definitions and lemmas, no program in sight. -/
import Derived.WalkKit
import Derived.WalkSpells
import Derived.WalkLawsBesides
import Derived.Deep.Quiet
import Derived.Calls
import Derived.Below
import Derived.StringKeys
import Derived.Maps.Own
import Derived.Maps.Views
namespace Go.Proofs.YtjochhncheheaaaGreatDoor
namespace Vc
open Go.RowKit
set_option linter.unusedVariables false
set_option linter.unusedSimpArgs false
inductive At where
  | int (k : IntKind) (n : Int)
  | bool (b : Bool)
  | str (s : List UInt8)
  | raw (v : Value)
  | ref (n : Nat)
  | loc (n off : Nat)
  | elt (n sz i j : Nat)
  | clo (f : Nat) (ms : List Nat)
@[reducible] def Env := Nat → Value
def Xe : Value := .pointer none
def X1 : Value → Nat → Value
  | .pointer (some a), k => .pointer (some ⟨a.block, a.off + k, none⟩)
  | _, _ => Xe
def W5 : Value → Nat → Value
  | .slice (some a) _ _, k => .pointer (some ⟨a.block, a.off + k, none⟩)
  | _, _ => Xe
def At.den (ρ : Env) : At → Value
  | .int k n => .int k n
  | .bool b => .bool b
  | .str s => .string ⟨s.toArray⟩
  | .raw v => v
  | .ref n => ρ n
  | .loc n o => X1 (ρ n) o
  | .elt n sz i j => W5 (ρ n) (i * sz + j)
  | .clo f ms => .func (.func f) #[] (ms.map fun m => X1 (ρ m) 0).toArray
def At.bd (nx : Nat) : At → Prop
  | .ref n => n < nx
  | .loc n _ => n < nx
  | .elt n _ _ _ => n < nx
  | .clo _ ms => ∀ m ∈ ms, m < nx
  | .raw v => v.oneCell' = true
  | _ => True
inductive S1 where
  | a (x : At)
  | agg (l : List At)
def S1.den (ρ : Env) : S1 → Value
  | .a x => x.den ρ
  | .agg l => .agg (l.map (At.den ρ)).toArray
def S1.bd (nx : Nat) : S1 → Prop
  | .a x => x.bd nx
  | .agg l => ∀ x ∈ l, x.bd nx
inductive SV where
  | one (x : S1)
  | tup (l : List S1)
  | opt (g : Bool) (x : S1)
def SV.den (ρ : Env) : SV → Value
  | .one x => x.den ρ
  | .tup l => .tuple (l.map (S1.den ρ)).toArray
  | .opt g x => if g = true then x.den ρ else undef
def SV.bd (nx : Nat) : SV → Prop
  | .one x => x.bd nx
  | .tup l => ∀ x ∈ l, x.bd nx
  | .opt g x => g = true → x.bd nx
def Tx (nx : Nat) (ρ ρ' : Env) : Prop := ∀ n, n < nx → ρ' n = ρ n
theorem At.den_same {nx : Nat} {ρ ρ' : Env} (h : Tx nx ρ ρ') {x : At} (hx : x.bd nx) : x.den ρ' = x.den ρ := by
  cases x with
  | clo f ms =>
    simp only [At.bd] at hx
    simp only [At.den]
    rw [List.map_congr_left fun m hm => by rw [h m (hx m hm)]]
  | _ => simp only [At.bd] at hx <;> simp only [At.den] <;> (try rw [h _ hx])
theorem Wv {nx : Nat} {ρ ρ' : Env} (h : Tx nx ρ ρ') {l : List At} (hl : ∀ x ∈ l, x.bd nx) : l.map (At.den ρ') = l.map (At.den ρ) :=
  List.map_congr_left fun x hx => At.den_same h (hl x hx)
theorem S1.den_same {nx : Nat} {ρ ρ' : Env} (h : Tx nx ρ ρ') {x : S1} (hx : x.bd nx) : x.den ρ' = x.den ρ := by
  cases x with
  | a x => exact At.den_same h hx
  | agg l => simp only [S1.den]; rw [Wv h hx]
theorem SV.den_same {nx : Nat} {ρ ρ' : Env} (h : Tx nx ρ ρ') {x : SV} (hx : x.bd nx) : x.den ρ' = x.den ρ := by
  cases x with
  | one x => exact S1.den_same h hx
  | tup l => simp only [SV.den]; rw [List.map_congr_left fun x hx' => S1.den_same h (hx x hx')]
  | opt g x =>
    simp only [SV.den]
    split
    · rename_i hg; rw [S1.den_same h (hx hg)]
    · rfl
theorem At.bd_mono {nx nx' : Nat} (h : nx ≤ nx') {x : At} (hx : x.bd nx) : x.bd nx' := by
  cases x <;> simp only [At.bd] at hx ⊢ <;> first | omega | exact hx | exact fun m hm => Nat.lt_of_lt_of_le (hx m hm) h
theorem S1.bd_mono {nx nx' : Nat} (h : nx ≤ nx') {x : S1} (hx : x.bd nx) : x.bd nx' := by
  cases x with
  | a x => exact At.bd_mono h hx
  | agg l => exact fun y hy => At.bd_mono h (hx y hy)
theorem SV.bd_mono {nx nx' : Nat} (h : nx ≤ nx') {x : SV} (hx : x.bd nx) : x.bd nx' := by
  cases x with
  | one x => exact S1.bd_mono h hx
  | tup l => exact fun y hy => S1.bd_mono h (hx y hy)
  | opt g x => exact fun hg => S1.bd_mono h (hx hg)
structure Ins where
  op : Int
  d : Int
  s : Int
  imm : Int
  deriving DecidableEq
structure Ln where
  label : List UInt8
  ins : Ins
  ref : List UInt8
structure Spot where
  name : List UInt8
  at_ : Int
structure Unt where
  name : List UInt8
  la : Option Addr
  ln : Nat
  lc : Nat
inductive Kd where
  | int (k : IntKind)
  | bool
  | str
  | ins
  | line
  | spot
  | unt
@[reducible] def Kd.ty : Kd → Type
  | .int _ => Int
  | .bool => Bool
  | .str => List UInt8
  | .ins => Ins
  | .line => Ln
  | .spot => Spot
  | .unt => Unt
@[reducible] def Kd.sz : Kd → Nat
  | .ins => 4
  | .line => 6
  | .spot => 2
  | .unt => 2
  | _ => 1
def Ins.cells (x : Ins) : List At := [.int .i64 x.op, .int .i64 x.d, .int .i64 x.s, .int .i64 x.imm]
def Ln.cells (x : Ln) : List At := [.str x.label, .int .i64 x.ins.op, .int .i64 x.ins.d, .int .i64 x.ins.s, .int .i64 x.ins.imm, .str x.ref]
def Kd.enc : (k : Kd) → k.ty → List At
  | .int k, n => [.int k n]
  | .bool, b => [.bool b]
  | .str, s => [.str s]
  | .ins, x => x.cells
  | .line, x => x.cells
  | .spot, x => [.str x.name, .int .i64 x.at_]
  | .unt, x => [.str x.name, .raw (.slice x.la x.ln x.lc)]
def Kd.dec : (k : Kd) → List At → Option k.ty
  | .int _, [.int _ n] => some n
  | .bool, [.bool b] => some b
  | .str, [.str s] => some s
  | .ins, [.int _ a, .int _ b, .int _ c, .int _ d] => some ⟨a, b, c, d⟩
  | .line, [.str l, .int _ a, .int _ b, .int _ c, .int _ d, .str r] => some ⟨l, ⟨a, b, c, d⟩, r⟩
  | .spot, [.str s, .int _ n] => some ⟨s, n⟩
  | .unt, [.str s, .raw (.slice a n c)] => some ⟨s, a, n, c⟩
  | _, _ => none
def Kd.dflt : (k : Kd) → k.ty
  | .int _ => (0 : Int)
  | .bool => false
  | .str => ([] : List UInt8)
  | .ins => (⟨0, 0, 0, 0⟩ : Ins)
  | .line => (⟨[], ⟨0, 0, 0, 0⟩, []⟩ : Ln)
  | .spot => (⟨[], 0⟩ : Spot)
  | .unt => (⟨[], none, 0, 0⟩ : Unt)
theorem Kd.enc_length (k : Kd) (x : k.ty) : (k.enc x).length = k.sz := by cases k <;> rfl
theorem Kd.sz_pos (k : Kd) : 0 < k.sz := by cases k <;> simp [Kd.sz]
theorem Kd.enc_den (k : Kd) (x : k.ty) (ρ ρ' : Env) : (k.enc x).map (At.den ρ') = (k.enc x).map (At.den ρ) := by cases k <;> rfl
theorem Kd.enc_at (k : Kd) (x : k.ty) (ρ ρ' : Env) {j : Nat} {u : At} (h : (k.enc x)[j]? = some u) : u.den ρ' = u.den ρ := by
  have := congrArg (fun l : List Value => l[j]?) (k.enc_den x ρ ρ')
  simpa [h] using this
theorem Kd.encs_den (k : Kd) (l : List k.ty) (ρ ρ' : Env) : (l.flatMap k.enc).map (At.den ρ') = (l.flatMap k.enc).map (At.den ρ) := by
  induction l with
  | nil => rfl
  | cons x l ih => simp only [List.flatMap_cons, List.map_append, ih, k.enc_den x ρ ρ']
theorem Kd.encs_length (k : Kd) (l : List k.ty) : (l.flatMap k.enc).length = l.length * k.sz := by
  induction l with
  | nil => simp
  | cons x l ih => simp only [List.flatMap_cons, List.length_append, ih, k.enc_length, List.length_cons, Nat.succ_mul]; omega
theorem Kd.enc_bd (k : Kd) (x : k.ty) (nx : Nat) : ∀ u ∈ k.enc x, u.bd nx := by
  cases k <;> simp [Kd.enc, Ins.cells, Ln.cells, At.bd, Value.oneCell']
theorem Kd.encs_get (k : Kd) : ∀ (l : List k.ty) (i j : Nat) (x : k.ty), l[i]? = some x → j < k.sz → (l.flatMap k.enc)[i * k.sz + j]? = (k.enc x)[j]?
  | [], _, _, _, h, _ => by simp at h
  | y :: l, 0, j, x, h, hj => by
    simp at h; subst h
    simp only [List.flatMap_cons, Nat.zero_mul, Nat.zero_add]
    rw [List.getElem?_append_left (by rw [k.enc_length]; exact hj)]
  | y :: l, i + 1, j, x, h, hj => by
    have := Kd.encs_get k l i j x (by simpa using h) hj
    simp only [List.flatMap_cons, Nat.succ_mul]
    rw [List.getElem?_append_right (by rw [k.enc_length]; omega), k.enc_length, ← this]
    congr 1; omega
def litK : (k : Kd) → k.ty → DataW Unit
  | .int q, n => .lit (.int q n)
  | .bool, b => .lit (.bool b)
  | _, _ => .nil
def valK : (k : Kd) → k.ty → Value
  | .int q, n => .int q n
  | .bool, b => .bool b
  | _, _ => undef
def Eb (P : Program) (K E : TypeId) (k : Kd) (f : List UInt8 → Option k.ty) (n : Nat) (es : Array MapEntry) (clock : Nat) : Prop :=
  WideElems.Fit P K (plainElem (H := Unit) P E) es clock ∧ es.size ≤ n ∧
    ∀ (s : List UInt8) (z : DataW Unit), (DataW.map ((es.toList.map (WideElems.rg P K (plainElem (H := Unit) P E))).foldr DataW.insert [])).atKey (.string s) z = match f s with | some x => litK k x | none => z
def Zu (P : Program) (f : Nat) : Bool :=
  match P.funcs[f]? with
  | some fn => !(fn.name == "runtime.NumGoroutine" || fn.body.isNone)
  | none => false
def FnAt (P : Program) (w : World) (v : Value) (g : List S1 → Option SV) : Prop :=
  ∃ f cap, (v = .func (.func f) #[] cap ∧ Zu P f = true) ∧ ∀ as r, g as = some r → Calls P f ((as.map (S1.den fun _ => Xe)).toArray ++ cap) w fun e w' => e = .returned (r.den fun _ => Xe) ∧ Below w.heap.size w w'
def W4 (w : World) (O : List Nat) (base : Nat) (a1 : Option Addr) (ls : List Ln) : Prop :=
  (a1 = none → ls = []) ∧ ∀ ad1 : Addr, a1 = some ad1 → (ls ≠ [] → ad1.spot = none) ∧
    ∀ (j : Nat) (y : Ln), ls[j]? = some y → ∀ (q : Nat) (u : At), (Kd.line.enc y)[q]? = some u → w.cell? ⟨ad1.block, ad1.off + (j * 6 + q), none⟩ = some (u.den fun _ => Xe) ∧ ad1.block ∉ O ∧ base ≤ ad1.block
def Y3 (l : List (List UInt8 × Nat)) : Array MapEntry := (l.zipIdx.map fun p => (⟨.string ⟨p.1.1.toArray⟩, .func (.func p.1.2) #[] #[], p.2⟩ : MapEntry)).toArray
inductive Res : Type where
  | cells (E : TypeId) (l : List At)
  | row (E : TypeId) (k : Kd) (l : List k.ty)
  | lit (E : TypeId) (sz m : Nat) (l : List At)
  | rocells (l : List At)
  | ro (k : Kd) (l : List k.ty)
  | fact (Φ : World → Prop)
  | smap (P : Program) (K E : TypeId) (k : Kd) (f : List UInt8 → Option k.ty) (n : Nat)
  | rosmap (P : Program) (K E : TypeId) (k : Kd) (f : List UInt8 → Option k.ty) (n : Nat)
  | rou (l : List (List UInt8 × List Ln))
  | urow (base : Nat) (E : TypeId) (l : List (List UInt8 × List Ln))
  | fn (P : Program) (g : List S1 → Option SV)
  | view (m sz lo hi : Nat)
  | fmap (l : List (List UInt8 × Nat))
  | fiter (m n : Nat) (seen : List Nat)
def Res.block (ρ : Env) (n : Nat) : Res → Option Nat
  | .cells _ _ => match ρ n with | .pointer (some a) => some a.block | _ => none
  | .row _ _ _ => (ρ n).ownBlock
  | .lit _ _ _ _ => (ρ n).ownBlock
  | .smap _ _ _ _ _ _ => match ρ n with | .map (some b) => some b | _ => none
  | .urow _ _ _ => (ρ n).ownBlock
  | .fmap _ => match ρ n with | .map (some b) => some b | _ => none
  | .fiter _ _ _ => match ρ n with | .pointer (some a) => some a.block | _ => none
  | _ => none
def Zn (ρ : Env) (R : List (Nat × Res)) : List Nat := R.filterMap fun p => p.2.block ρ p.1
def U3 (O : List Nat) (w w' : World) : Prop := ∀ b o, w.heap[b]? = some o → b ∉ O → w'.heap[b]? = some o
def Res.holds (ρ : Env) (O : List Nat) (n : Nat) (w : World) : Res → Prop
  | .cells E l => ∃ b, ρ n = .pointer (some ⟨b, 0, none⟩) ∧ w.heap[b]? = some (.cells (l.map (At.den ρ)).toArray E (0, 0))
  | .row E k l => w.ownsRow 0 E k.sz (ρ n) l.length ((l.flatMap k.enc).map (At.den ρ))
  | .lit E sz m l => ∃ b, ρ n = .slice (some ⟨b, 0, none⟩) m m ∧ l.length = m * sz ∧ w.heap[b]? = some (.cells (l.map (At.den ρ)).toArray E (0, 0))
  | .rocells l => ∃ a : Addr, ρ n = .pointer (some a) ∧ ∀ (j : Nat) (u : At), l[j]? = some u → w.cell? ⟨a.block, a.off + j, none⟩ = some (u.den ρ) ∧ a.block ∉ O
  | .ro k l => ∃ a cap, (ρ n = .slice a l.length cap ∧ l.length ≤ cap) ∧ (a = none → l = []) ∧ ∀ ad : Addr, a = some ad → (l ≠ [] → ad.spot = none) ∧ ∀ (i : Nat) (x : k.ty), l[i]? = some x → ∀ (j : Nat) (u : At), (k.enc x)[j]? = some u →
      w.cell? ⟨ad.block, ad.off + (i * k.sz + j), none⟩ = some (u.den ρ) ∧ ad.block ∉ O
  | .fact Φ => ∀ w', U3 O w w' → Φ w'
  | .smap P K E k f m => ∃ b es clock, ρ n = .map (some b) ∧ w.heap[b]? = some (.map es clock) ∧ Eb P K E k f m es clock
  | .rosmap P K E k f m => ∃ b es clock, ρ n = .map (some b) ∧ (w.heap[b]? = some (.map es clock) ∧ b ∉ O) ∧ Eb P K E k f m es clock
  | .rou l => ∃ a cap, (ρ n = .slice a l.length cap ∧ l.length ≤ cap) ∧ (a = none → l = []) ∧ ∀ ad : Addr, a = some ad → (l ≠ [] → ad.spot = none) ∧ ∀ (i : Nat) (x : List UInt8 × List Ln), l[i]? = some x →
      (w.cell? ⟨ad.block, ad.off + i * 2, none⟩ = some (.string ⟨x.1.toArray⟩) ∧ ad.block ∉ O) ∧
      ∃ a1 cap1, ((w.cell? ⟨ad.block, ad.off + (i * 2 + 1), none⟩ = some (.slice a1 x.2.length cap1) ∧ ad.block ∉ O) ∧ x.2.length ≤ cap1) ∧ W4 w O 0 a1 x.2
  | .urow base E l => ∃ us : List Unt, us.length = l.length ∧ w.ownsRow 0 E Kd.unt.sz (ρ n) us.length ((us.flatMap Kd.unt.enc).map (At.den fun _ => Xe)) ∧
      ∀ (i : Nat) (u : Unt) (x : List UInt8 × List Ln), us[i]? = some u → l[i]? = some x → u.name = x.1 ∧ (u.ln = x.2.length ∧ u.ln ≤ u.lc) ∧ W4 w O base u.la x.2
  | .fn P g => ∀ w', U3 O w w' → FnAt P w' (ρ n) g
  | .view m sz lo hi => ∃ ad len cap ad', ρ m = .slice ad len cap ∧ ρ n = .slice ad' (hi - lo) (cap - lo) ∧ (lo ≤ hi ∧ hi ≤ cap) ∧ (lo < hi → ∀ x, ad' = some x → x.spot = none) ∧ (lo < cap → ad' = ad.map (·.add (lo * sz)))
  | .fmap l => ∃ b, ρ n = .map (some b) ∧ w.heap[b]? = some (.map (Y3 l) l.length) ∧ (∀ p ∈ l, p.1.length ≤ 1000) ∧ (l.map Prod.fst).Nodup
  | .fiter m q seen => ∃ bi bm, ρ n = .pointer (some ⟨bi, 0, none⟩) ∧ ρ m = .map (some bm) ∧ w.heap[bi]? = some (.mapIter (some bm) q seen.toArray q)
def Res.bd (nx : Nat) : Res → Prop
  | .cells _ l => ∀ x ∈ l, x.bd nx
  | .lit _ _ _ l => ∀ x ∈ l, x.bd nx
  | .rocells l => ∀ x ∈ l, x.bd nx
  | .view m _ _ _ => m < nx
  | .fiter m _ _ => m < nx
  | _ => True
theorem Res.bd_mono {nx nx' : Nat} (h : nx ≤ nx') {r : Res} (hr : r.bd nx) : r.bd nx' := by
  cases r <;> first | exact fun y hy => At.bd_mono h (hr y hy) | trivial | exact Nat.lt_of_lt_of_le hr h
theorem Xs {w : World} {a : Addr} {v : Value} (h : w.cell? a = some v) : a.block < w.heap.size := World.block_lt_of_cell? w a h
theorem Sp {O : List Nat} {w w' : World} (hk : U3 O w w') {a : Addr} {v : Value} (h : w.cell? a = some v) (ha : a.block ∉ O) : w'.cell? a = some v := by
  have hlt := Xs h
  have he : w.heap[a.block]? = some w.heap[a.block] := by simp [hlt]
  have := hk _ _ he ha
  rw [World.cell?_of_block (w := w) (by rw [this, he])]
  exact h
theorem Res.block_same {nx : Nat} {ρ ρ' : Env} (h : Tx nx ρ ρ') {n : Nat} (hn : n < nx) (r : Res) : r.block ρ' n = r.block ρ n := by
  cases r <;> simp only [Res.block, h n hn]
theorem W4.carry {O O' D : List Nat} {w w' : World} {base : Nat} {a1 : Option Addr} {ls : List Ln} (hk : U3 D w w') (hD : ∀ b ∈ D, b ∈ O) (hO : ∀ b ∈ O', b ∈ O ∨ w.heap.size ≤ b) (h : W4 w O base a1 ls) : W4 w' O' base a1 ls := by
  refine ⟨h.1, fun ad1 had1 => ⟨(h.2 ad1 had1).1, fun j y hy q u hu => ?_⟩⟩
  obtain ⟨h1, h2, h3⟩ := (h.2 ad1 had1).2 j y hy q u hu
  refine ⟨Sp hk h1 (fun hd => h2 (hD _ hd)), fun hm => ?_, h3⟩
  rcases hO _ hm with h4 | h4
  · exact h2 h4
  · have := Xs h1
    simp only at this
    omega
theorem Res.carry {nx : Nat} {ρ ρ' : Env} {O O' D : List Nat} {n : Nat} {w w' : World} {r : Res} (hs : Tx nx ρ ρ') (hn : n < nx) (hb : r.bd nx)
    (hk : U3 D w w') (hD : ∀ b ∈ D, b ∈ O) (hr : ∀ b, r.block ρ n = some b → b ∉ D)
    (hO : ∀ b ∈ O', b ∈ O ∨ w.heap.size ≤ b) (h : r.holds ρ O n w) : r.holds ρ' O' n w' := by
  have hne : ∀ b o, w.heap[b]? = some o → b ∉ O → b ∉ O' := fun b o hbo hbO hbO' => by
    rcases hO b hbO' with h1 | h1
    · exact hbO h1
    · have := (Array.getElem?_eq_some_iff.1 hbo).1; omega
  have hcell : ∀ (a : Addr) (v : Value), w.cell? a = some v → a.block ∉ O → w'.cell? a = some v ∧ a.block ∉ O' := fun a v hc ha => by
    have hlt := Xs hc
    exact ⟨Sp hk hc (fun hd => ha (hD _ hd)), hne a.block w.heap[a.block] (by simp [hlt]) ha⟩
  cases r with
  | cells E l =>
    obtain ⟨b, hb1, hb2⟩ := h
    refine ⟨b, by rw [hs n hn]; exact hb1, ?_⟩
    rw [Wv hs hb]
    exact hk b _ hb2 (hr b (by simp [Res.block, hb1]))
  | row E k l =>
    simp only [Res.holds] at h ⊢
    rw [hs n hn, k.encs_den l ρ ρ']
    obtain ⟨h1, h2⟩ := h
    refine ⟨h1, ?_⟩
    rcases h2 with h2 | ⟨g, cap, cur, hv, hg, hh, r⟩
    · exact Or.inl h2
    · exact Or.inr ⟨g, cap, cur, hv, hg, hk g _ hh (hr g (by simp [Res.block, hv, Value.ownBlock])), r⟩
  | lit E sz m l =>
    obtain ⟨b, hb1, hb2, hb3⟩ := h
    refine ⟨b, by rw [hs n hn]; exact hb1, hb2, ?_⟩
    rw [Wv hs hb]
    exact hk b _ hb3 (hr b (by simp [Res.block, hb1, Value.ownBlock]))
  | rocells l =>
    obtain ⟨a, ha, hc⟩ := h
    refine ⟨a, by rw [hs n hn]; exact ha, fun j u hu => ?_⟩
    rw [At.den_same hs (hb u (List.mem_of_getElem? hu))]
    exact hcell _ _ (hc j u hu).1 (hc j u hu).2
  | ro k l =>
    obtain ⟨a, cap, ha, hnil, hc⟩ := h
    refine ⟨a, cap, by rw [hs n hn]; exact ha, hnil, fun ad had => ⟨(hc ad had).1, fun i x hx j u hu => ?_⟩⟩
    rw [k.enc_at x ρ ρ' hu]
    exact hcell _ _ ((hc ad had).2 i x hx j u hu).1 ((hc ad had).2 i x hx j u hu).2
  | fact Φ =>
    intro w'' hk''
    exact h w'' fun b o hbo hbO => hk'' b o (hk b o hbo (fun hd => hbO (hD _ hd))) (hne b o hbo hbO)
  | smap P K E k f m =>
    obtain ⟨b, es, clock, hb1, hb2, hm⟩ := h
    exact ⟨b, es, clock, by rw [hs n hn]; exact hb1, hk b _ hb2 (hr b (by simp [Res.block, hb1])), hm⟩
  | rosmap P K E k f m =>
    obtain ⟨b, es, clock, hb1, ⟨hb2, hb3⟩, hm⟩ := h
    exact ⟨b, es, clock, by rw [hs n hn]; exact hb1, ⟨hk b _ hb2 (fun hd => hb3 (hD _ hd)), hne b _ hb2 hb3⟩, hm⟩
  | rou l =>
    obtain ⟨a, cap, ha, hnil, hc⟩ := h
    refine ⟨a, cap, by rw [hs n hn]; exact ha, hnil, fun ad had => ⟨(hc ad had).1, fun i x hx => ?_⟩⟩
    obtain ⟨h1, a1, cap1, h2, h3⟩ := (hc ad had).2 i x hx
    exact ⟨hcell _ _ h1.1 h1.2, a1, cap1, ⟨hcell _ _ h2.1.1 h2.1.2, h2.2⟩, h3.carry hk hD hO⟩
  | urow base E l =>
    obtain ⟨us, hlen, ⟨h1, h2⟩, h3⟩ := h
    refine ⟨us, hlen, ?_, fun i u x hu hx => ⟨(h3 i u x hu hx).1, (h3 i u x hu hx).2.1, (h3 i u x hu hx).2.2.carry hk hD hO⟩⟩
    rw [hs n hn]
    refine ⟨h1, ?_⟩
    rcases h2 with h2 | ⟨g, cap, cur, hv, hg, hh, r⟩
    · exact Or.inl h2
    · exact Or.inr ⟨g, cap, cur, hv, hg, hk g _ hh (hr g (by simp [Res.block, hv, Value.ownBlock])), r⟩
  | fn P g =>
    intro w'' hk''
    rw [hs n hn]
    exact h w'' fun b o hbo hbO => hk'' b o (hk b o hbo (fun hd => hbO (hD _ hd))) (hne b o hbo hbO)
  | view m sz lo hi =>
    obtain ⟨ad, len, cap, ad', h1, h2, h3⟩ := h
    exact ⟨ad, len, cap, ad', by rw [hs m hb]; exact h1, by rw [hs n hn]; exact h2, h3⟩
  | fmap l =>
    obtain ⟨b, h1, h2, h3⟩ := h
    exact ⟨b, by rw [hs n hn]; exact h1, hk b _ h2 (hr b (by simp [Res.block, h1])), h3⟩
  | fiter m q seen =>
    obtain ⟨bi, bm, h1, h2, h3⟩ := h
    exact ⟨bi, bm, by rw [hs n hn]; exact h1, by rw [hs m hb]; exact h2, hk bi _ h3 (hr bi (by simp [Res.block, h1]))⟩
structure Cx where
  P : Program
  w0 : World
  X : List Nat
  nt : Nat
  fr : List Value
structure Mem (c : Cx) (ρ : Env) (R : List (Nat × Res)) (nx : Nat) (w : World) : Prop where
  os : w.os = c.w0.os
  tape : w.tape = c.w0.tape
  output : w.output = c.w0.output
  size : c.w0.heap.size ≤ w.heap.size
  block : ∀ b, b < c.w0.heap.size → b ∉ c.X → w.heap[b]? = c.w0.heap[b]?
  one : ∀ n, (ρ n).oneCell' = true
  keys : (R.map Prod.fst).Nodup
  res : ∀ n r, (n, r) ∈ R → r.holds ρ (Zn ρ R) n w
  bdr : ∀ n r, (n, r) ∈ R → n < nx ∧ r.bd nx
  nodup : (Zn ρ R).Nodup
  lt : ∀ b ∈ Zn ρ R, b < w.heap.size ∧ (c.w0.heap.size ≤ b ∨ b ∈ c.X)
def del (R : List (Nat × Res)) (ds : List Nat) : List (Nat × Res) := R.filter fun p => !ds.contains p.1
theorem Xr {ρ : Env} {R : List (Nat × Res)} {ds : List Nat} : ∀ b ∈ Zn ρ (del R ds), b ∈ Zn ρ R := by
  intro b hb
  obtain ⟨p, hp, hpb⟩ := List.mem_filterMap.1 hb
  exact List.mem_filterMap.2 ⟨p, (List.mem_filter.1 hp).1, hpb⟩
theorem Tg {nx : Nat} {ρ ρ' : Env} (hs : Tx nx ρ ρ') {R : List (Nat × Res)} (hb : ∀ n r, (n, r) ∈ R → n < nx) : Zn ρ' R = Zn ρ R := by
  unfold Zn
  induction R with
  | nil => rfl
  | cons p R ih =>
    have h1 := Res.block_same hs (hb p.1 p.2 (by simp)) p.2
    have h2 := ih fun n r h => hb n r (by simp [h])
    simp only [List.filterMap_cons, h1, h2]
theorem Yb {ρ : Env} : ∀ {R : List (Nat × Res)} {ds : List Nat} {n : Nat} {r : Res} {b : Nat}, (R.map Prod.fst).Nodup → (Zn ρ R).Nodup → (n, r) ∈ R → n ∈ ds → r.block ρ n = some b → b ∉ Zn ρ (del R ds) := by
  intro R ds n r b hkk hnd hm hds hb hmem
  obtain ⟨p, hp, hpb⟩ := List.mem_filterMap.1 hmem
  have hpR := (List.mem_filter.1 hp).1
  have hpd : p.1 ∉ ds := by have := (List.mem_filter.1 hp).2; simpa using this
  have hne : p ≠ (n, r) := fun e => hpd (by rw [e]; exact hds)
  clear hmem hp
  induction R with
  | nil => cases hm
  | cons q R ih =>
    unfold Zn at hnd
    rw [List.filterMap_cons] at hnd
    have hin : ∀ {s : Nat × Res}, s ∈ R → s.2.block ρ s.1 = some b → b ∈ R.filterMap fun p => p.2.block ρ p.1 := fun hs hsb => List.mem_filterMap.2 ⟨_, hs, hsb⟩
    rcases List.mem_cons.1 hm with hm1 | hm1 <;> rcases List.mem_cons.1 hpR with hp1 | hp1
    · exact hne (hp1.trans hm1.symm)
    · subst hm1
      simp only [hb, List.nodup_cons] at hnd
      exact hnd.1 (hin hp1 hpb)
    · subst hp1
      simp only [hpb, List.nodup_cons] at hnd
      exact hnd.1 (hin (s := (n, r)) hm1 hb)
    · refine ih (List.nodup_cons.1 (by simpa using hkk)).2 ?_ hm1 hp1
      split at hnd
      · exact hnd
      · exact (List.nodup_cons.1 hnd).2
theorem M5 {ρ : Env} {R : List (Nat × Res)} {ds : List Nat} (h : (Zn ρ R).Nodup) : (Zn ρ (del R ds)).Nodup := by
  unfold Zn del at *
  exact List.Nodup.sublist (List.Sublist.filterMap _ List.filter_sublist) h
theorem Qz {R : List (Nat × Res)} {ds : List Nat} (h : (R.map Prod.fst).Nodup) : ((del R ds).map Prod.fst).Nodup :=
  List.Nodup.sublist (List.Sublist.map _ List.filter_sublist) h
theorem Mem.step {c : Cx} {ρ ρ' : Env} {R : List (Nat × Res)} {nx nx' : Nat} {w w' : World} {ds : List Nat} {m : Nat} {r : Res} (h : Mem c ρ R nx w)
    (hs : Tx nx ρ ρ') (hnx : nx ≤ nx') (hone : ∀ n, (ρ' n).oneCell' = true)
    (hos : w'.os = w.os) (htape : w'.tape = w.tape) (hout : w'.output = w.output) (hsize : w.heap.size ≤ w'.heap.size)
    {D : List Nat} (hk : U3 D w w') (hD : ∀ b ∈ D, ∃ n s, (n, s) ∈ R ∧ n ∈ ds ∧ s.block ρ n = some b)
    (hm : m < nx') (hmR : m ∈ ds ∨ nx ≤ m) (hb : r.bd nx')
    (hblk : ∀ b, r.block ρ' m = some b → b < w'.heap.size ∧ (w.heap.size ≤ b ∨ ∃ n s, (n, s) ∈ R ∧ n ∈ ds ∧ s.block ρ n = some b))
    (hr : ∀ O', (∀ b ∈ O', b ∈ Zn ρ (del R ds) ∨ r.block ρ' m = some b) → (∀ b ∈ Zn ρ (del R ds), b ∈ O') → r.holds ρ' O' m w') : Mem c ρ' ((m, r) :: del R ds) nx' w' := by
  have hDO : ∀ b ∈ D, b ∈ Zn ρ R := fun b hb => by
    obtain ⟨n, s, h1, _, h3⟩ := hD b hb
    exact List.mem_filterMap.2 ⟨(n, s), h1, h3⟩
  have hsub : ∀ n s, (n, s) ∈ del R ds → (n, s) ∈ R ∧ n ∉ ds := fun n s hns => by
    have := List.mem_filter.1 hns
    exact ⟨this.1, by simpa using this.2⟩
  have hown : Zn ρ' (del R ds) = Zn ρ (del R ds) := Tg hs fun n s hns => (h.bdr n s (hsub n s hns).1).1
  have hO' : ∀ b ∈ Zn ρ' ((m, r) :: del R ds), b ∈ Zn ρ R ∨ w.heap.size ≤ b := by
    intro b hb
    unfold Zn at hb
    rw [List.filterMap_cons] at hb
    have rest : b ∈ Zn ρ' (del R ds) → b ∈ Zn ρ R := fun hb => by rw [hown] at hb; exact Xr b hb
    split at hb
    · exact .inl (rest hb)
    · rename_i b' hb'
      rcases List.mem_cons.1 hb with rfl | hb
      · rcases (hblk b hb').2 with h1 | ⟨n, s, h1, _, h3⟩
        · exact .inr h1
        · exact .inl (List.mem_filterMap.2 ⟨(n, s), h1, h3⟩)
      · exact .inl (rest hb)
  have hlt : ∀ b ∈ Zn ρ (del R ds), b < w.heap.size ∧ (c.w0.heap.size ≤ b ∨ b ∈ c.X) := fun b hb => h.lt b (Xr b hb)
  refine ⟨hos.trans h.os, htape.trans h.tape, hout.trans h.output, Nat.le_trans h.size hsize, ?_, hone, ?_, ?_, ?_, ?_, ?_⟩
  · intro b hb hbX
    have h0 := h.block b hb hbX
    have hbs : b < w.heap.size := Nat.lt_of_lt_of_le hb h.size
    have he : w.heap[b]? = some w.heap[b] := by simp [hbs]
    rw [← h0, he]
    refine hk b _ he fun hbD => ?_
    rcases (h.lt b (hDO b hbD)).2 with h1 | h1
    · omega
    · exact hbX h1
  · simp only [List.map_cons, List.nodup_cons]
    refine ⟨fun hmem => ?_, Qz h.keys⟩
    obtain ⟨p, hp, hpm⟩ := List.mem_map.1 hmem
    obtain ⟨h1, h2⟩ := hsub p.1 p.2 hp
    rcases hmR with h3 | h3
    · rw [hpm] at h2; exact h2 h3
    · have := (h.bdr _ _ h1).1; omega
  · intro n s hns
    rcases List.mem_cons.1 hns with e | hns
    · cases e
      refine hr _ (fun b hb => ?_) fun b hb => ?_
      · unfold Zn at hb
        rw [List.filterMap_cons] at hb
        split at hb
        · left; rw [← hown]; exact hb
        · rename_i b' hb'
          rcases List.mem_cons.1 hb with rfl | hb
          · exact .inr hb'
          · left; rw [← hown]; exact hb
      rw [← hown] at hb
      unfold Zn at hb ⊢
      rw [List.filterMap_cons]
      split
      · exact hb
      · exact List.mem_cons_of_mem _ hb
    · obtain ⟨h1, h2⟩ := hsub n s hns
      refine Res.carry hs (h.bdr n s h1).1 (h.bdr n s h1).2 hk hDO (fun b hb hbD => ?_) hO' (h.res n s h1)
      obtain ⟨n', s', g1, g2, g3⟩ := hD b hbD
      exact Yb h.keys h.nodup g1 g2 g3 (List.mem_filterMap.2 ⟨(n, s), hns, hb⟩)
  · intro n s hns
    rcases List.mem_cons.1 hns with e | hns
    · cases e; exact ⟨hm, hb⟩
    · have := h.bdr n s (hsub n s hns).1
      exact ⟨Nat.lt_of_lt_of_le this.1 hnx, Res.bd_mono hnx this.2⟩
  · unfold Zn
    rw [List.filterMap_cons]
    have hnd : (Zn ρ' (del R ds)).Nodup := by rw [hown]; exact M5 h.nodup
    split
    · exact hnd
    · rename_i b hb
      refine List.nodup_cons.2 ⟨fun hmem => ?_, hnd⟩
      have hmem' : b ∈ Zn ρ (del R ds) := by rw [← hown]; exact hmem
      rcases (hblk b hb).2 with h1 | ⟨n, s, h1, h2, h3⟩
      · have := (hlt b hmem').1; omega
      · exact Yb h.keys h.nodup h1 h2 h3 hmem'
  · intro b hb
    unfold Zn at hb
    rw [List.filterMap_cons] at hb
    have rest : b ∈ Zn ρ' (del R ds) → b < w'.heap.size ∧ (c.w0.heap.size ≤ b ∨ b ∈ c.X) := fun hb => by
      rw [hown] at hb
      exact ⟨Nat.lt_of_lt_of_le (hlt b hb).1 hsize, (hlt b hb).2⟩
    split at hb
    · exact rest hb
    · rename_i b' hb'
      rcases List.mem_cons.1 hb with rfl | hb
      · refine ⟨(hblk b hb').1, ?_⟩
        rcases (hblk b hb').2 with h1 | ⟨n, s, h1, _, h3⟩
        · exact .inl (Nat.le_trans h.size h1)
        · exact (h.lt b (List.mem_filterMap.2 ⟨(n, s), h1, h3⟩)).2
      · exact rest hb
end Vc
end Go.Proofs.YtjochhncheheaaaGreatDoor
