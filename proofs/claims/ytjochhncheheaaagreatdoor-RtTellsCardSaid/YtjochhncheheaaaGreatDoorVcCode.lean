/- Triples over code: sequence, tests, blocks, loops, regions that draw their order and only read; a function's beginning and end. -/
import Derived.Test.YtjochhncheheaaaGreatDoorVcDr
import Derived.StillTail
namespace Go.Proofs.YtjochhncheheaaaGreatDoor
namespace Vc
open Go.RowKit
set_option linter.unusedVariables false
set_option linter.unusedSimpArgs false
inductive IC where
  | skip
  | reg (l : List In)
  | dreg (l : List In)
  | dregt (h t : List In)
  | dany (t : DT)
  | seq (a b : IC)
  | cond (x : Opd) (a b : IC)
  | block (id : Nat) (b : IC)
  | loop (b : IC)
  | exit (id : Nat)
  | ret
def I.pure : I → Bool
  | .alloc _ _ => false
  | .box _ _ => false
  | .store _ _ _ => false
  | .call _ _ => false
  | .callv _ _ => false
  | .bsl _ _ _ _ _ => false
  | .bsl0 _ _ => false
  | .app _ _ _ _ _ _ => false
  | .s2b _ => false
  | .mkmap _ _ _ _ => false
  | .mupd _ _ _ _ _ _ _ => false
  | .sl _ _ _ _ => false
  | .mks _ _ _ _ _ => false
  | .apps _ _ _ _ => false
  | .b2s _ => false
  | .frz _ => false
  | .fmk => false
  | .fupd _ _ _ => false
  | .flook _ _ _ => false
  | .frng _ => false
  | .fnxt _ => false
  | .fent _ => false
  | _ => true
def I.quiet (i : I) : Bool := match i with
  | .call _ _ => true
  | i => i.pure
def Gf : List In → Bool
  | [] => true
  | x :: l => x.i.pure && Gf l
def Kp : List In → Bool
  | [] => true
  | x :: l => x.i.quiet && Kp l
def Fz (P : Program) : I → Bool
  | .call f _ => (match P.funcs[f]? with
    | some fn => fn.params.all fun t => (match P.underlying t with
      | some (.pointer _) => false
      | _ => true)
    | none => true)
  | _ => true
def N1 (P : Program) : List In → Bool
  | [] => true
  | x :: l => Fz P x.i && N1 P l
def tailAt (ops : Array Oper) (l : List In) : Option Nat := (List.range ops.size).find? fun n => Region.lexTailB .any ops n && Gf (l.take n)
def I.nomem : I → Bool
  | .mv _ => true
  | .bin _ _ _ => true
  | .un _ _ => true
  | .conv _ _ => true
  | .fld _ _ _ _ => true
  | .ext _ _ => true
  | .build _ _ => true
  | .slen _ => true
  | .ssl _ _ _ => true
  | .aeq _ _ _ _ => true
  | .beq _ _ _ => true
  | .sidx _ _ => true
  | .pick _ _ _ => true
  | _ => false
def I.makes : I → Bool
  | .bsl0 _ _ => true
  | .bsl _ _ _ _ _ => true
  | .app _ _ _ _ _ _ => true
  | .apps _ _ _ _ => true
  | .frz _ => true
  | .alloc _ _ => true
  | .box _ _ => true
  | .mkmap _ _ _ _ => true
  | .fmk => true
  | _ => false
def Ph (ins : List In) : Opd → Bool
  | .t t => ins.any fun y => y.d == some t && y.i.makes
  | _ => false
def I.hard (ins : List In) : I → Bool
  | .store _ x _ => !Ph ins x
  | .app _ _ _ _ x _ => !Ph ins x
  | .apps _ _ x _ => !Ph ins x
  | .frz x => !Ph ins x
  | .mupd _ _ _ _ x _ _ => !Ph ins x
  | .fupd x _ _ => !Ph ins x
  | .fnxt _ => true
  | _ => false
def Px (ops : Array Oper) (listed : Array Bool) (i : Nat) : List Nat :=
  (List.range ops.size).foldl (fun D j => if (!listed.getD j true && (j != i && (match ops[j]? with
    | some o => o.after.any fun e => Region.binds .any e && (e.on == i || D.contains e.on)
    | none => false))) = true then D ++ [j] else D) []
def Lw (ops : Array Oper) (listed : Array Bool) (i : Nat) (D : List Nat) : List Nat := (List.range ops.size).filter fun j => !listed.getD j true && (j != i && !D.contains j)
def isI (ins : List In) (p : I → Bool) (i : Nat) : Bool := match ins[i]? with
  | some x => p x.i
  | none => false
def Nw (ins : List In) (ops : Array Oper) : Nat → Array Bool → List Nat → IT
  | 0, _, _ => .done
  | n + 1, listed, U =>
    match Region.ready .any ops listed with
    | [] => .done
    | [i] => if isI ins I.nomem i && !U.contains i then .take i false (Px ops listed i) (Lw ops listed i (Px ops listed i)) (Nw ins ops n (listed.setIfInBounds i true) U) else .alt i (Nw ins ops n (listed.setIfInBounds i true) U) .stop
    | rs => match rs.find? (fun i => isI ins I.pure i && (Region.free .any ops listed i && ((isI ins I.nomem i && !U.contains i) || (((Lw ops listed i (Px ops listed i)).all fun j => !isI ins (I.hard ins) j) && ((Lw ops listed i (Px ops listed i)).isEmpty || (Px ops listed i).all fun j => !isI ins (I.hard ins) j))))) with
      | some i =>
        let D := Px ops listed i
        let V := Lw ops listed i D
        let m := !isI ins I.nomem i || U.contains i
        .take i m D V (Nw ins ops n (listed.setIfInBounds i true) (bif m then U ++ V else U))
      | none => rs.foldr (fun i t => .alt i (Nw ins ops n (listed.setIfInBounds i true) U) t) .stop
def Ee (P : Program) (nt : Nat) (ops : Array Oper) (l : List In) : Option DT :=
  let it := Nw l ops (ops.size + 1) (Array.replicate ops.size false) []
  let U := it.uses
  if Region.noSelect ops = true ∧ okI ops U it (Array.replicate ops.size false) none = true ∧ it.depth ≤ ops.size then Of P nt ops U it else none
def Wj (P : Program) (nt : Nat) : Code → Option IC
  | .skip => some .skip
  | .region _ ops draw => if draw = true then (match ops.toList.mapM (X4 P nt ops) with
      | some l => if (Region.lexB .any ops = true ∧ Kp l = true) ∧ N1 P l = true then some (.dreg l) else (match tailAt ops l with | some n => some (.dregt (l.take n) (l.drop n)) | none => (match Ee P nt ops l with | some t => some (.dany t) | none => none))
      | none => none)
    else (match ops.toList.mapM (X4 P nt ops) with | some l => some (.reg l) | none => none)
  | .seq a b => match Wj P nt a, Wj P nt b with | some x, some y => some (.seq x y) | _, _ => none
  | .cond c a b => match Wj P nt a, Wj P nt b with | some x, some y => some (.cond (opd c) x y) | _, _ => none
  | .block id b => match Wj P nt b with | some x => some (.block id x) | none => none
  | .loop b => match Wj P nt b with | some x => some (.loop x) | none => none
  | .exit id => some (.exit id)
  | .ret => some .ret
  | _ => none
def lift (c : Cx) (Q : Exit → St → Prop) (e : Exit) (a : Act) (w : World) : Prop := ∃ S ρ, S.holds c ρ a w ∧ Q e S
def T (c : Cx) (x : IC) (Q : Exit → St → Prop) (S : St) : Prop := ∀ ρ a w, S.holds c ρ a w → ∀ code, Wj c.P c.nt code = some x → code.wp c.P (lift c Q) a w
def Ent (c : Cx) (S S2 : St) : Prop := ∀ ρ a w, S.holds c ρ a w → ∃ ρ', S2.holds c ρ' a w
def Pz (N : St → Prop) (Q : Exit → St → Prop) : Exit → St → Prop
  | .normal, S => N S
  | e, S => Q e S
def Pv (id : Nat) (Q : Exit → St → Prop) : Exit → St → Prop
  | .exit i, S => if i = id then Q .normal S else Q (.exit i) S
  | e, S => Q e S
section
variable {c : Cx} {Q : Exit → St → Prop} {S : St}
theorem Ent.refl (S : St) : Ent c S S := fun ρ a w h => ⟨ρ, h⟩
theorem T.weak {S2 : St} {x : IC} (h : Ent c S S2) (ht : T c x Q S2) : T c x Q S := fun ρ a w hh => by
  obtain ⟨ρ', h2⟩ := h ρ a w hh
  exact ht ρ' a w h2
theorem T.skip (h : Q .normal S) : T c .skip Q S := by
  intro ρ a w hh code hc
  cases code <;> simp only [Wj, reduceCtorEq] at hc
  · exact wp_skip ⟨S, ρ, hh, h⟩
  all_goals (repeat' split at hc) <;> cases hc
theorem Eu {P : Program} {nt : Nat} {code : Code} {l : List In} (hc : Wj P nt code = some (.reg l)) : ∃ id ops, code = .region id ops false ∧ ops.toList.mapM (X4 P nt ops) = some l := by
  cases code
  case region id ops draw =>
    simp only [Wj] at hc
    by_cases hd : draw = true
    · rw [if_pos hd] at hc; (repeat' split at hc) <;> cases hc
    · rw [if_neg hd] at hc
      split at hc
      · rename_i l' hl; cases hc; exact ⟨id, ops, by rw [Bool.not_eq_true] at hd; rw [hd], hl⟩
      · cases hc
  all_goals simp only [Wj, reduceCtorEq] at hc <;> (repeat' split at hc) <;> cases hc
theorem G2 {P : Program} {nt : Nat} {code : Code} {l : List In} (hc : Wj P nt code = some (.dreg l)) : ∃ id ops, code = .region id ops true ∧ Region.lexB .any ops = true ∧ ops.toList.mapM (X4 P nt ops) = some l := by
  cases code
  case region id ops draw =>
    simp only [Wj] at hc
    by_cases hd : draw = true
    · rw [if_pos hd] at hc
      split at hc
      · rename_i l' hl
        split at hc
        · rename_i hB; cases hc; exact ⟨id, ops, by rw [hd], hB.1.1, hl⟩
        · (repeat' split at hc) <;> cases hc
      · cases hc
    · rw [if_neg hd] at hc; (repeat' split at hc) <;> cases hc
  all_goals simp only [Wj, reduceCtorEq] at hc <;> (repeat' split at hc) <;> cases hc
theorem Iv {P : Program} {nt : Nat} {code : Code} {h t : List In} (hc : Wj P nt code = some (.dregt h t)) : ∃ id ops n l, code = .region id ops true ∧ Region.lexTailB .any ops n = true ∧ ops.toList.mapM (X4 P nt ops) = some l ∧ h = l.take n ∧ t = l.drop n := by
  cases code
  case region id ops draw =>
    simp only [Wj] at hc
    by_cases hd : draw = true
    · rw [if_pos hd] at hc
      split at hc
      · rename_i l' hl
        split at hc
        · cases hc
        · split at hc
          · rename_i n hn
            cases hc
            have := List.find?_some hn
            simp only [Bool.and_eq_true] at this
            exact ⟨id, ops, n, l', by rw [hd], this.1, hl, rfl, rfl⟩
          · split at hc <;> cases hc
      · cases hc
    · rw [if_neg hd] at hc; (repeat' split at hc) <;> cases hc
  all_goals simp only [Wj, reduceCtorEq] at hc <;> (repeat' split at hc) <;> cases hc
theorem G5 {P : Program} {nt : Nat} {code : Code} {t : DT} (hc : Wj P nt code = some (.dany t)) : ∃ id ops it, code = .region id ops true ∧ Region.noSelect ops = true ∧ okI ops it.uses it (Array.replicate ops.size false) none = true ∧ it.depth ≤ ops.size ∧ Of P nt ops it.uses it = some t := by
  cases code
  case region id ops draw =>
    simp only [Wj] at hc
    by_cases hd : draw = true
    · rw [if_pos hd] at hc
      split at hc
      · rename_i l' hl
        split at hc
        · cases hc
        · split at hc
          · cases hc
          · split at hc
            · rename_i t' ht
              cases hc
              unfold Ee at ht
              simp only at ht
              split at ht
              · rename_i h
                exact ⟨id, ops, _, by rw [hd], h.1, h.2.1, h.2.2, ht⟩
              · cases ht
            · cases hc
      · cases hc
    · rw [if_neg hd] at hc; (repeat' split at hc) <;> cases hc
  all_goals simp only [Wj, reduceCtorEq] at hc <;> (repeat' split at hc) <;> cases hc
theorem Jf {P : Program} {nt : Nat} {code : Code} {x y : IC} (hc : Wj P nt code = some (.seq x y)) : ∃ a b, code = .seq a b ∧ Wj P nt a = some x ∧ Wj P nt b = some y := by
  cases code <;> simp only [Wj, reduceCtorEq] at hc <;> (repeat' split at hc) <;> cases hc
  exact ⟨_, _, rfl, by assumption, by assumption⟩
theorem Fg {P : Program} {nt : Nat} {code : Code} {o : Opd} {x y : IC} (hc : Wj P nt code = some (.cond o x y)) : ∃ p a b, code = .cond p a b ∧ opd p = o ∧ Wj P nt a = some x ∧ Wj P nt b = some y := by
  cases code <;> simp only [Wj, reduceCtorEq] at hc <;> (repeat' split at hc) <;> cases hc
  exact ⟨_, _, _, rfl, rfl, by assumption, by assumption⟩
theorem Hm {P : Program} {nt id : Nat} {code : Code} {x : IC} (hc : Wj P nt code = some (.block id x)) : ∃ a, code = .block id a ∧ Wj P nt a = some x := by
  cases code <;> simp only [Wj, reduceCtorEq] at hc <;> (repeat' split at hc) <;> cases hc
  exact ⟨_, rfl, by assumption⟩
theorem Gx {P : Program} {nt : Nat} {code : Code} {x : IC} (hc : Wj P nt code = some (.loop x)) : ∃ a, code = .loop a ∧ Wj P nt a = some x := by
  cases code <;> simp only [Wj, reduceCtorEq] at hc <;> (repeat' split at hc) <;> cases hc
  exact ⟨_, rfl, by assumption⟩
theorem T.ret (h : Q .ret S) : T c .ret Q S := by
  intro ρ a w hh code hc
  cases code <;> simp only [Wj, reduceCtorEq] at hc
  case ret => exact wp_ret ⟨S, ρ, hh, h⟩
  all_goals (repeat' split at hc) <;> cases hc
theorem T.exit {id : Nat} (h : Q (.exit id) S) : T c (.exit id) Q S := by
  intro ρ a w hh code hc
  cases code <;> simp only [Wj, reduceCtorEq] at hc
  case exit i => cases hc; exact wp_exit ⟨S, ρ, hh, h⟩
  all_goals (repeat' split at hc) <;> cases hc
theorem T.reg {l : List In} (h : ex c l S (Q .normal)) : T c (.reg l) Q S := by
  intro ρ a w hh code hc
  obtain ⟨id, ops, rfl, hl⟩ := Eu hc
  refine wp_region_list ?_
  exact Np ops.toList l hl (Q .normal) S ρ a w (fun S' ρ' a' w' _ hQ hS => ⟨S', ρ', hS, hQ⟩) h hh
theorem Pu {N : St → Prop} {e : Exit} {a : Act} {w : World} (h : lift c (Pz N Q) e a w) : Exit.then (fun a w => ∃ S ρ, S.holds c ρ a w ∧ N S) (lift c Q) e a w := by
  obtain ⟨S, ρ, h1, h2⟩ := h
  cases e <;> exact ⟨S, ρ, h1, h2⟩
theorem T.seq {x y : IC} (h : T c x (Pz (T c y Q) Q) S) : T c (.seq x y) Q S := by
  intro ρ a w hh code hc
  obtain ⟨p, q, rfl, h1, h2⟩ := Jf hc
  refine wp_seq (wp_mono (h ρ a w hh p h1) fun e a w hl => ?_)
  have := Pu hl
  cases e with
  | normal =>
    obtain ⟨S', ρ', g1, g2⟩ := this
    exact g2 ρ' a w g1 q h2
  | _ => exact this
theorem T.regs {l : List In} {y : IC} (h : ex c l S (T c y Q)) : T c (.seq (.reg l) y) Q S := T.seq (T.reg h)
theorem T.cut {x y : IC} {ι : Type} (F : ι → St) (h : T c x (Pz (fun S' => ∃ i, Ent c S' (F i)) Q) S) (hy : ∀ i, T c y Q (F i)) : T c (.seq x y) Q S := by
  intro ρ a w hh code hc
  obtain ⟨p, q, rfl, h1, h2⟩ := Jf hc
  refine wp_seq (wp_mono (h ρ a w hh p h1) fun e a w hl => ?_)
  have := Pu hl
  cases e with
  | normal =>
    obtain ⟨S', ρ', g1, i, g2⟩ := this
    obtain ⟨ρ2, g3⟩ := g2 ρ' a w g1
    exact hy i ρ2 a w g3 q h2
  | _ => exact this
def Lz (S : St) (o : Opd) (A B : Prop) : Prop := match S.rd o with
  | some (p, .a (.bool g)) => p ∧ (g = true → A) ∧ (g = false → B)
  | _ => False
theorem T.cond {o : Opd} {x y : IC} (h : Lz S o (T c x Q S) (T c y Q S)) : T c (.cond o x y) Q S := by
  intro ρ a w hh code hc
  obtain ⟨p, l, r, rfl, ho, h1, h2⟩ := Fg hc
  subst ho
  unfold Lz at h
  split at h
  · rename_i q g hrd
    obtain ⟨e1, _⟩ := Zb hh hrd h.1
    exact wp_cond_split (t := g) e1 (fun hg => h.2.1 hg ρ a w hh l h1) (fun hg => h.2.2 hg ρ a w hh r h2)
  · exact h.elim
theorem T.block {id : Nat} {x : IC} (h : T c x (Pv id Q) S) : T c (.block id x) Q S := by
  intro ρ a w hh code hc
  obtain ⟨p, rfl, h1⟩ := Hm hc
  refine wp_block (wp_mono (h ρ a w hh p h1) fun e a w hl => ?_)
  obtain ⟨S', ρ', g1, g2⟩ := hl
  cases e with
  | exit i =>
    simp only [Pv] at g2
    simp only [Exit.inBlock]
    by_cases hi : i = id
    · rw [if_pos hi] at g2 ⊢; exact ⟨S', ρ', g1, g2⟩
    · rw [if_neg hi] at g2 ⊢; exact ⟨S', ρ', g1, g2⟩
  | _ => exact ⟨S', ρ', g1, g2⟩
theorem least {p : Nat → Prop} (h : ∃ n, p n) : ∃ n, p n ∧ ∀ m, p m → n ≤ m := by
  obtain ⟨n, hn⟩ := h
  induction n using Nat.strongRecOn with
  | _ n ih =>
    by_cases hx : ∃ m, m < n ∧ p m
    · obtain ⟨m, h1, h2⟩ := hx; exact ih m h1 h2
    · exact ⟨n, hn, fun m hm => Nat.le_of_not_lt fun hlt => hx ⟨m, hlt, hm⟩⟩
open Classical in
theorem T.loop {ι : Type} (F : ι → St) (μ : ι → Nat) (x0 : ι) (h0 : Ent c S (F x0)) {b : IC} (round : ∀ x, T c b (Pz (fun S' => ∃ x', Ent c S' (F x') ∧ μ x' < μ x) Q) (F x)) : T c (.loop b) Q S := by
  intro ρ a w hh code hc
  obtain ⟨p, rfl, h1⟩ := Gx hc
  let I : Act → World → Prop := fun a w => ∃ x ρ, (F x).holds c ρ a w
  have hmin : ∀ a w, I a w → ∃ n, (∃ x ρ, (F x).holds c ρ a w ∧ μ x = n) ∧ ∀ x ρ, (F x).holds c ρ a w → n ≤ μ x := by
    intro a w ⟨x, ρ, h⟩
    obtain ⟨n, h1, h2⟩ := least (p := fun n => ∃ x ρ, (F x).holds c ρ a w ∧ μ x = n) ⟨_, x, ρ, h, rfl⟩
    exact ⟨n, h1, fun y ρ' hy => h2 _ ⟨y, ρ', hy, rfl⟩⟩
  let m : Act → World → Nat := fun a w => if h : I a w then (hmin a w h).choose else 0
  refine wp_loop I m (by obtain ⟨ρ', h'⟩ := h0 ρ a w hh; exact ⟨x0, ρ', h'⟩) ?_
  intro a w hI
  obtain ⟨⟨x, ρ1, hx, hxm⟩, hle⟩ := (hmin a w hI).choose_spec
  refine wp_mono (round x ρ1 a w hx p h1) fun e a' w' hl => ?_
  have := Pu hl
  cases e with
  | normal =>
    obtain ⟨S', ρ', g1, x', g2, g3⟩ := this
    obtain ⟨ρ2, g4⟩ := g2 ρ' a' w' g1
    have hI' : I a' w' := ⟨x', ρ2, g4⟩
    refine ⟨hI', ?_⟩
    have e1 : m a w = μ x := by simp only [m, dif_pos hI]; exact hxm.symm
    have e2 : m a' w' ≤ μ x' := by
      simp only [m, dif_pos hI']
      exact (hmin a' w' hI').choose_spec.2 x' ρ2 g4
    omega
  | _ => exact this
end
def At.ren (σ : Nat → Nat) : At → At
  | .ref n => .ref (σ n)
  | .loc n o => .loc (σ n) o
  | .elt n sz i j => .elt (σ n) sz i j
  | .clo f ms => .clo f (ms.map σ)
  | x => x
def S1.ren (σ : Nat → Nat) : S1 → S1
  | .a x => .a (x.ren σ)
  | .agg l => .agg (l.map (At.ren σ))
def SV.ren (σ : Nat → Nat) : SV → SV
  | .one x => .one (x.ren σ)
  | .tup l => .tup (l.map (S1.ren σ))
  | .opt g x => .opt g (x.ren σ)
def Res.ren (σ : Nat → Nat) : Res → Res
  | .cells E l => .cells E (l.map (At.ren σ))
  | .lit E sz m l => .lit E sz m (l.map (At.ren σ))
  | .rocells l => .rocells (l.map (At.ren σ))
  | .view m sz lo hi => .view (σ m) sz lo hi
  | .fiter m q seen => .fiter (σ m) q seen
  | r => r
theorem At.ren_den (σ : Nat → Nat) (ρ : Env) (x : At) : (x.ren σ).den ρ = x.den fun n => ρ (σ n) := by
  cases x <;> first | rfl | (simp only [At.ren, At.den, List.map_map]; rfl)
theorem Rn (σ : Nat → Nat) (ρ : Env) (l : List At) : (l.map (At.ren σ)).map (At.den ρ) = l.map (At.den fun n => ρ (σ n)) := by
  rw [List.map_map]; exact List.map_congr_left fun x _ => At.ren_den σ ρ x
theorem S1.ren_den (σ : Nat → Nat) (ρ : Env) (x : S1) : (x.ren σ).den ρ = x.den fun n => ρ (σ n) := by
  cases x with
  | a x => exact At.ren_den σ ρ x
  | agg l => simp only [S1.ren, S1.den, Rn]
theorem SV.ren_den (σ : Nat → Nat) (ρ : Env) (x : SV) : (x.ren σ).den ρ = x.den fun n => ρ (σ n) := by
  cases x with
  | one x => exact S1.ren_den σ ρ x
  | tup l => simp only [SV.ren, SV.den, List.map_map]; congr 2; exact List.map_congr_left fun x _ => S1.ren_den σ ρ x
  | opt g x => simp only [SV.ren, SV.den, S1.ren_den]
def bnd (nx : Nat) : List (Nat × SV) → Prop
  | [] => True
  | (_, v) :: l => v.bd nx ∧ bnd nx l
def Ul (σ : Nat → Nat) (S : St) : List (Nat × SV) → Prop
  | [] => True
  | (t, v) :: l => S.get t = some (v.ren σ) ∧ Ul σ S l
def Rb (σ : Nat → Nat) (S : St) (nx : Nat) : List (Nat × Res) → Prop
  | [] => True
  | (n, r) :: l => (S.find (σ n) = some (r.ren σ) ∧ n < nx ∧ r.bd nx) ∧ Rb σ S nx l
theorem Qs {σ : Nat → Nat} {S : St} : ∀ {l : List (Nat × SV)} {t : Nat} {v : SV}, Ul σ S l → Z1 l t = some v → S.get t = some (v.ren σ)
  | (m, x) :: l, t, v, h, hl => by
    rcases look_cons hl with ⟨rfl, rfl⟩ | ⟨_, hl⟩
    · exact h.1
    · exact Qs h.2 hl
theorem H5 {nx : Nat} : ∀ {l : List (Nat × SV)} {t : Nat} {v : SV}, bnd nx l → Z1 l t = some v → v.bd nx
  | (m, x) :: l, t, v, h, hl => by
    rcases look_cons hl with ⟨rfl, rfl⟩ | ⟨_, hl⟩
    · exact h.1
    · exact H5 h.2 hl
theorem Ql {σ : Nat → Nat} {S : St} {nx : Nat} : ∀ {l : List (Nat × Res)} {n : Nat} {r : Res}, Rb σ S nx l → (n, r) ∈ l → S.find (σ n) = some (r.ren σ) ∧ n < nx ∧ r.bd nx
  | (m, x) :: l, n, r, h, hm => by
    rcases List.mem_cons.1 hm with e | hm
    · cases e; exact h.1
    · exact Ql h.2 hm
theorem Res.ren_block (σ : Nat → Nat) (ρ : Env) (n : Nat) (r : Res) : (r.ren σ).block ρ (σ n) = r.block (fun n => ρ (σ n)) n := by cases r <;> rfl
theorem W4.sub {O O' : List Nat} {w : World} {base : Nat} {a1 : Option Addr} {ls : List Ln} (hO : ∀ b ∈ O', b ∈ O) (h : W4 w O base a1 ls) : W4 w O' base a1 ls :=
  ⟨h.1, fun ad1 had1 => ⟨(h.2 ad1 had1).1, fun j y hy q u hu => let ⟨h1, h2, h3⟩ := (h.2 ad1 had1).2 j y hy q u hu; ⟨h1, fun hm => h2 (hO _ hm), h3⟩⟩⟩
theorem Res.ren_holds {σ : Nat → Nat} {ρ : Env} {O O' : List Nat} {n : Nat} {w : World} {r : Res} (hO : ∀ b ∈ O', b ∈ O) (h : (r.ren σ).holds ρ O (σ n) w) : r.holds (fun n => ρ (σ n)) O' n w := by
  cases r with
  | cells E l =>
    obtain ⟨b, h1, h2⟩ := h
    exact ⟨b, h1, by rw [Rn] at h2; exact h2⟩
  | row E k l =>
    simp only [Res.holds, Res.ren] at h ⊢
    rw [k.encs_den l ρ fun n => ρ (σ n)]
    exact h
  | lit E sz m l =>
    obtain ⟨b, h1, h2, h3⟩ := h
    exact ⟨b, h1, by simpa using h2, by rw [Rn] at h3; exact h3⟩
  | rocells l =>
    obtain ⟨a, h1, h2⟩ := h
    refine ⟨a, h1, fun j u hu => ?_⟩
    have := h2 j (u.ren σ) (by simp [hu])
    rw [At.ren_den] at this
    exact ⟨this.1, fun hm => this.2 (hO _ hm)⟩
  | ro k l =>
    obtain ⟨a, cap, h1, h2, h3⟩ := h
    refine ⟨a, cap, h1, h2, fun ad had => ⟨(h3 ad had).1, fun i x hx j u hu => ?_⟩⟩
    have := (h3 ad had).2 i x hx j u hu
    rw [k.enc_at x ρ (fun n => ρ (σ n)) hu]
    exact ⟨this.1, fun hm => this.2 (hO _ hm)⟩
  | fact Φ => exact fun w' hk => h w' fun b o hb hn => hk b o hb fun hm => hn (hO _ hm)
  | smap P K E k f m => exact h
  | rosmap P K E k f m =>
    obtain ⟨b, es, clock, h1, h2, h3⟩ := h
    exact ⟨b, es, clock, h1, ⟨h2.1, fun hm => h2.2 (hO _ hm)⟩, h3⟩
  | rou l =>
    obtain ⟨a, cap, h1, h2, h3⟩ := h
    refine ⟨a, cap, h1, h2, fun ad had => ⟨(h3 ad had).1, fun i x hx => ?_⟩⟩
    obtain ⟨g1, a1, cap1, g2, g3⟩ := (h3 ad had).2 i x hx
    exact ⟨⟨g1.1, fun hm => g1.2 (hO _ hm)⟩, a1, cap1, ⟨⟨g2.1.1, fun hm => g2.1.2 (hO _ hm)⟩, g2.2⟩, g3.sub hO⟩
  | urow base E l =>
    obtain ⟨us, h1, h2, h3⟩ := h
    exact ⟨us, h1, h2, fun i u x hu hx => ⟨(h3 i u x hu hx).1, (h3 i u x hu hx).2.1, (h3 i u x hu hx).2.2.sub hO⟩⟩
  | fn P g => exact fun w' hk => h w' fun b o hb hn => hk b o hb fun hm => hn (hO _ hm)
  | view m sz lo hi => exact h
  | fmap l => exact h
  | fiter m q seen => exact h
theorem O7 (σ : Nat → Nat) : ∀ (l : List (Nat × Res)), (l.map fun p => σ p.1).Nodup → (l.map Prod.fst).Nodup
  | [], _ => List.nodup_nil
  | p :: l, h => by
    simp only [List.map_cons, List.nodup_cons] at h ⊢
    refine ⟨fun hm => h.1 ?_, O7 σ l h.2⟩
    obtain ⟨q, hq, he⟩ := List.mem_map.1 hm
    exact List.mem_map.2 ⟨q, hq, by rw [he]⟩
theorem Ent.mk {c : Cx} {S S2 : St} (σ : Nat → Nat) (h1 : Ul σ S S2.slots) (h2 : Rb σ S S2.nx S2.res) (h3 : bnd S2.nx S2.slots) (h4 : (S2.res.map fun p => σ p.1).Nodup) : Ent c S S2 := by
  intro ρ a w hh
  refine ⟨fun n => ρ (σ n), hh.nodef, hh.sz, hh.lown, fun t v hv => ?_, fun t v hv => H5 h3 hv, ?_⟩
  · rw [← SV.ren_den]; exact hh.slot t _ (Qs h1 hv)
  · have hm := hh.mem
    have hmem : ∀ n r, (n, r) ∈ S2.res → (σ n, r.ren σ) ∈ S.res := fun n r hr => Zd (Ql h2 hr).1
    have hsub : ∀ b ∈ Zn (fun n => ρ (σ n)) S2.res, b ∈ Zn ρ S.res := by
      intro b hb
      obtain ⟨p, hp, hpb⟩ := List.mem_filterMap.1 hb
      refine List.mem_filterMap.2 ⟨(σ p.1, p.2.ren σ), hmem p.1 p.2 hp, ?_⟩
      rw [Res.ren_block]; exact hpb
    refine ⟨hm.os, hm.tape, hm.output, hm.size, hm.block, fun n => hm.one _, ?_, fun n r hr => Res.ren_holds hsub (hm.res _ _ (hmem n r hr)), fun n r hr => (Ql h2 hr).2, ?_, fun b hb => hm.lt b (hsub b hb)⟩
    · exact O7 σ S2.res h4
    · have key : ∀ (l : List (Nat × Res)), (∀ p ∈ l, p ∈ S2.res) → (l.map fun p => σ p.1).Nodup → (Zn (fun n => ρ (σ n)) l).Nodup := by
        intro l
        induction l with
        | nil => intro _ _; exact List.nodup_nil
        | cons p l ih =>
          intro hin hnd
          simp only [List.map_cons, List.nodup_cons] at hnd
          have ih' := ih (fun q hq => hin q (by simp [hq])) hnd.2
          unfold Zn
          rw [List.filterMap_cons]
          split
          · exact ih'
          · rename_i b hb
            refine List.nodup_cons.2 ⟨fun hmem2 => ?_, ih'⟩
            obtain ⟨q, hq, hqb⟩ := List.mem_filterMap.1 hmem2
            have hp1 := hmem p.1 p.2 (hin p (by simp))
            have hq1 := hmem q.1 q.2 (hin q (by simp [hq]))
            have hpb : (p.2.ren σ).block ρ (σ p.1) = some b := by rw [Res.ren_block]; exact hb
            have hqb' : (q.2.ren σ).block ρ (σ q.1) = some b := by rw [Res.ren_block]; exact hqb
            have hne : σ q.1 ≠ σ p.1 := fun e => hnd.1 (by rw [← e]; exact List.mem_map.2 ⟨q, hq, rfl⟩)
            have h5 := Yb (ds := [σ p.1]) hm.keys hm.nodup hp1 (by simp) hpb
            refine h5 (List.mem_filterMap.2 ⟨(σ q.1, q.2.ren σ), List.mem_filter.2 ⟨hq1, ?_⟩, hqb'⟩)
            simp [hne]
      exact key S2.res (fun _ h => h) h4
theorem Ent.trans {c : Cx} {S1 S2 S3 : St} (h : Ent c S1 S2) (h' : Ent c S2 S3) : Ent c S1 S3 := fun ρ a w hh => by
  obtain ⟨ρ', h2⟩ := h ρ a w hh
  exact h' ρ' a w h2
theorem Ent.litRow {c : Cx} {S : St} {m E z e : Nat} {l : List At} (k : Kd) (xs : List k.ty) (hf : S.find m = some (.lit E z e l)) (hl : xs.flatMap k.enc = l) (he : xs.length = e) (hz : z = k.sz) (hmax : e ≤ 4611686018427387904) :
    Ent c S ⟨S.slots, upd S.res m (.row E k xs), S.nx⟩ := fun ρ a w hh => ⟨ρ, hh.litRow hf k xs hl he hz hmax⟩
theorem Mem.nilRow {c : Cx} {ρ : Env} {R : List (Nat × Res)} {nx : Nat} {w : World} (h : Mem c ρ R nx w) (E : Nat) (k : Kd) : Mem c (Yg ρ nx (.slice none 0 0)) ((nx, .row E k []) :: R) (nx + 1) w := by
  have := Mem.step (ρ' := Yg ρ nx (.slice none 0 0)) (nx' := nx + 1) (w' := w) (ds := []) (m := nx) (r := .row E k []) (D := []) h
    (Ze ρ nx _) (by omega) (Xc h.one rfl) rfl rfl rfl (Nat.le_refl _) (fun b o hb _ => hb) (by simp) (by omega) (.inr (Nat.le_refl _)) trivial
    (fun b hb => by simp only [Res.block, Zj, Value.ownBlock] at hb; cases hb)
    (fun O' _ _ => by simp only [Res.holds, Zj]; exact World.ownsRow_nil w 0 E k.sz)
  rwa [Xv] at this
theorem Ent.nilRow {c : Cx} {S : St} {t : Nat} (E : Nat) (k : Kd) (ht : S.get t = some (.one (.a (.raw (.slice none 0 0))))) : Ent c S ⟨(t, .one (.a (.ref S.nx))) :: S.slots, (S.nx, .row E k []) :: S.res, S.nx + 1⟩ := fun ρ a w hh => by
  refine ⟨Yg ρ S.nx (.slice none 0 0), hh.nodef, hh.sz, hh.lown, fun u v hu => ?_, fun u v hu => ?_, hh.mem.nilRow E k⟩
  · rcases look_cons hu with ⟨rfl, rfl⟩ | ⟨hne, hu'⟩
    · rw [hh.slot _ _ ht]; simp only [SV.den, S1.den, At.den, Zj]
    · rw [SV.den_same (Ze ρ S.nx _) (hh.bds u v hu')]; exact hh.slot u v hu'
  · rcases look_cons hu with ⟨rfl, rfl⟩ | ⟨hne, hu'⟩
    · exact Nat.lt_succ_self _
    · exact SV.bd_mono (Nat.le_succ _) (hh.bds u v hu')
theorem Ent.nilCell {c : Cx} {S : St} {m E0 j : Nat} {l : List At} (E : Nat) (k : Kd) (hf : S.find m = some (.cells E0 l)) (hj : l[j]? = some (.raw (.slice none 0 0))) :
    Ent c S ⟨S.slots, (m, .cells E0 (l.set j (.ref S.nx))) :: del ((S.nx, .row E k []) :: S.res) [m], S.nx + 1⟩ := fun ρ a w hh => by
  have h1 := hh.mem.nilRow E k
  have hm := Zd hf
  obtain ⟨b, hv, hb⟩ := hh.mem.res m _ hm
  have hlt := (hh.mem.bdr m _ hm).1
  have hv' : Yg ρ S.nx (.slice none 0 0) m = .pointer (some ⟨b, 0, none⟩) := by rw [Ze ρ S.nx _ m hlt]; exact hv
  have h2 := h1.rewrite (m := m) (r := .cells E0 l) (r' := .cells E0 (l.set j (.ref S.nx))) (g := b) (List.mem_cons_of_mem _ hm) (by simp [Res.block, hv']) (by simp [Res.block, hv']) rfl rfl rfl rfl (fun _ _ => rfl)
    (fun u hu => by
      rcases List.mem_or_eq_of_mem_set hu with hu | rfl
      · exact At.bd_mono (Nat.le_succ _) ((hh.mem.bdr m _ hm).2 u hu)
      · exact Nat.lt_succ_self _)
    fun O' => ⟨b, hv', by
      have hl : (l.set j (.ref S.nx)).map (At.den (Yg ρ S.nx (.slice none 0 0))) = l.map (At.den ρ) := by
        rw [List.map_set, Wv (Ze ρ S.nx _) (hh.mem.bdr m _ hm).2]
        apply List.ext_getElem?
        intro q
        rw [List.getElem?_set]
        split
        · rename_i e
          subst e
          have hjl : j < l.length := (List.getElem?_eq_some_iff.1 hj).1
          rw [if_pos (by simpa using hjl), List.getElem?_map, hj]
          simp only [At.den, Zj, Option.map_some]
        · rfl
      rw [hl]; exact hb⟩
  refine ⟨Yg ρ S.nx (.slice none 0 0), hh.nodef, hh.sz, hh.lown, fun u v hu => ?_, fun u v hu => SV.bd_mono (Nat.le_succ _) (hh.bds u v hu), h2⟩
  rw [SV.den_same (Ze ρ S.nx _) (hh.bds u v hu)]; exact hh.slot u v hu
theorem Ent.smapLe {c : Cx} {S : St} {m : Nat} {P : Program} {K E : TypeId} {k : Kd} {f : List UInt8 → Option k.ty} {n : Nat} (n' : Nat) (hf : S.find m = some (.smap P K E k f n)) (hn : n ≤ n') :
    Ent c S ⟨S.slots, upd S.res m (.smap P K E k f n'), S.nx⟩ := fun ρ a w hh => by
  have hm := Zd hf
  obtain ⟨b, es, clock, h1, h2, h3, h4, h5⟩ := hh.mem.res m _ hm
  exact ⟨ρ, hh.nodef, hh.sz, hh.lown, hh.slot, hh.bds, hh.mem.rewrite (g := b) hm (by simp [Res.block, h1]) (by simp [Res.block, h1]) rfl rfl rfl rfl (fun _ _ => rfl) trivial fun O' => ⟨b, es, clock, h1, h2, h3, Nat.le_trans h4 hn, h5⟩⟩
end Vc
end Go.Proofs.YtjochhncheheaaaGreatDoor
