/-
  A part of the proofs of this seat's laws: a step on the way. It has no conditions of its own.
-/
import Derived.Test.YtjochhncheheaaaGreatDoorVcGc
import Derived.Lib.ItoaNum
import Derived.Lib.ItoaLen
import Derived.Lib.ItoaMem
import Derived.Lib.Join
import Derived.Lib.LaidTab
namespace Go.Proofs.YtjochhncheheaaaGreatDoor
open Go.RowKit
set_option linter.unusedVariables false
set_option linter.unusedSimpArgs false
namespace Vc
theorem Mz {P : Program} {f E E2 : Nat} (hc : ∀ b w, w.cell? ⟨b, 0, none⟩ = some (.pointer (some ⟨b, 0, none⟩)) → Calls P f #[.pointer (some ⟨b, 0, none⟩)] w fun e w' => e = .returned (.tuple #[]) ∧ w' = w) (l : List (Kd.ty (.int .u8))) :
    GC P f [.a (.loc 0 0)] [(0, .cells E [.loc 0 0, .ref 1]), (1, .row E2 (.int .u8) l)] 2 [0, 1] (.tup []) [(0, .cells E [.loc 0 0, .ref 1]), (1, .row E2 (.int .u8) l)] 2 := by
  refine ⟨(by simp [Yo, Yr, Yp, Zw, Zp, Vc.S1.okN, At.okN, SV.okN, Res.okN, Res.outOk, Z1, Res.own, Value.oneCell']), fun ρ w hm => ?_⟩
  obtain ⟨b, hb, hcell⟩ := hm.res 0 _ (List.mem_cons_self ..)
  have h1 : S1.den ρ (.a (.loc 0 0)) = .pointer (some ⟨b, 0, none⟩) := by simp [S1.den, At.den, X1, hb]
  simp only [List.map_cons, List.map_nil, h1]
  refine (hc b w ?_).mono fun e w' ⟨he, hw⟩ => ⟨ρ, fun _ _ => rfl, he, hw ▸ hm⟩
  rw [Lib.cell_of_heap hcell]
  show some (X1 (ρ 0) 0) = _
  rw [hb]; rfl
theorem Nl {P : Program} {f E : Nat} (hc : ∀ b w, w.cell? ⟨b, 0, none⟩ = some (.pointer none) → w.shape? b = some (E, 2) → w.frozen? ⟨b, 0, none⟩ = false → Calls P f #[.pointer (some ⟨b, 0, none⟩)] w fun e w' => e = .returned (.tuple #[]) ∧ w' = w.setCell ⟨b, 0, none⟩ (.pointer (some ⟨b, 0, none⟩))) :
    GC P f [.a (.loc 0 0)] [(0, .cells E [.raw (.pointer none), .raw (.slice none 0 0)])] 1 [0] (.tup []) [(0, .cells E [.loc 0 0, .raw (.slice none 0 0)])] 1 := by
  refine ⟨(by simp [Yo, Yr, Yp, Zw, Zp, Vc.S1.okN, At.okN, SV.okN, Res.okN, Res.outOk, Z1, Res.own, Value.oneCell']), fun ρ w hm => ?_⟩
  obtain ⟨b, hb, hcell⟩ := hm.res 0 _ (List.mem_cons_self ..)
  have h1 : S1.den ρ (.a (.loc 0 0)) = .pointer (some ⟨b, 0, none⟩) := by simp [S1.den, At.den, X1, hb]
  simp only [List.map_cons, List.map_nil, h1]
  refine (hc b w ?_ ?_ ?_).mono fun e w' ⟨he, hw⟩ => ⟨ρ, fun _ _ => rfl, he, hw ▸ ?_⟩
  · rw [Lib.cell_of_heap hcell]; rfl
  · simp [World.shape?, hcell]
  · simp [World.frozen?, hcell]
  · have hh : (w.setCell ⟨b, 0, none⟩ (.pointer (some ⟨b, 0, none⟩))).heap[b]? = some (.cells #[.pointer (some ⟨b, 0, none⟩), .slice none 0 0] E (0, 0)) := by
      simp only [World.setCell, Array.getElem?_modify, hcell, if_true, Option.map_some]
      rfl
    have := hm.rewrite (w' := w.setCell ⟨b, 0, none⟩ (.pointer (some ⟨b, 0, none⟩))) (r' := .cells E [.loc 0 0, .raw (.slice none 0 0)]) (g := b) (List.mem_cons_self ..) (by simp [Res.block, hb]) (by simp [Res.block, hb]) rfl rfl rfl
      (by simp [World.setCell]) (fun k hk => by simp only [World.setCell, Array.getElem?_modify]; rw [if_neg (fun e => hk e.symm)]) (by simp [Res.bd, At.bd, Value.oneCell']) (fun O' => ⟨b, hb, by rw [hh]; simp [At.den, X1, hb]⟩)
    simpa [upd, del] using this
theorem Oe {w : World} {g n : Nat} (k : Nat) (hk : k ≠ g) : (w.freeze ⟨g, 0, none⟩ n).heap[k]? = w.heap[k]? := by
  unfold World.freeze
  split
  · rfl
  · rename_i h
    rw [Array.getElem?_modify, if_neg (fun e => hk e.symm)]
theorem Ob (w : World) (g n : Nat) : (w.freeze ⟨g, 0, none⟩ n).os = w.os ∧ (w.freeze ⟨g, 0, none⟩ n).tape = w.tape ∧ (w.freeze ⟨g, 0, none⟩ n).output = w.output := by
  unfold World.freeze
  split <;> exact ⟨rfl, rfl, rfl⟩
theorem P0 (w : World) (g n : Nat) : (w.freeze ⟨g, 0, none⟩ n).heap.size = w.heap.size := by
  unfold World.freeze
  split
  · rfl
  · exact Array.size_modify ..
theorem F5 {P : Program} {f E E2 : Nat}
    (hc : ∀ (b g cap : Nat) (p : Value) (l : List UInt8) (w : World), w.heap[b]? = some (.cells #[p, .slice (some ⟨g, 0, none⟩) l.length cap] E (0, 0)) → w.ownsRow 0 E2 1 (.slice (some ⟨g, 0, none⟩) l.length cap) l.length (Lib.byteCells l) → l ≠ [] →
      Calls P f #[.pointer (some ⟨b, 0, none⟩)] w fun e w' => e = .returned (.string ⟨l.toArray⟩) ∧ w' = w.drew.freeze ⟨g, 0, none⟩ l.length) (l : List UInt8) (hne : l ≠ []) :
    GC P f [.a (.loc 0 0)] [(0, .cells E [.loc 0 0, .ref 1]), (1, .row E2 (.int .u8) (bytesI l))] 2 [] (.one (.a (.str l))) [] 2 := by
  refine ⟨(by simp [Yo, Yr, Yp, Zw, Zp, Vc.S1.okN, At.okN, SV.okN, Res.okN, Res.outOk, Z1, Res.own, Value.oneCell']), fun ρ w hm => ?_⟩
  obtain ⟨b, hb, hcell⟩ := hm.res 0 _ (List.mem_cons_self ..)
  have hown := hm.res 1 _ (List.mem_cons_of_mem _ (List.mem_cons_self ..))
  simp only [Res.holds] at hown
  have h1 : S1.den ρ (.a (.loc 0 0)) = .pointer (some ⟨b, 0, none⟩) := by simp [S1.den, At.den, X1, hb]
  simp only [List.map_cons, List.map_nil, h1]
  have hbl : (bytesI l).length = l.length := by simp [bytesI]
  rw [hbl, Ut] at hown
  have hsz : Kd.sz (.int .u8) = 1 := rfl
  rw [hsz] at hown
  have hcl : w.heap[b]? = some (.cells #[X1 (ρ 0) 0, ρ 1] E (0, 0)) := hcell
  have hnone : ∀ w' : World, w'.os = w.os → w'.tape = w.tape → w'.output = w.output → w.heap.size ≤ w'.heap.size → (∀ k, k < w.heap.size → k ∉ Zn ρ [(0, Res.cells E [.loc 0 0, .ref 1]), (1, .row E2 (.int .u8) (bytesI l))] → w'.heap[k]? = w.heap[k]?) → Mem ⟨P, w, Zn ρ [(0, Res.cells E [.loc 0 0, .ref 1]), (1, .row E2 (.int .u8) (bytesI l))], 0, []⟩ ρ [] 2 w' :=
    fun w' a1 a2 a3 a4 a5 => ⟨a1, a2, a3, a4, a5, hm.one, by simp, by simp, by simp, by simp [Zn], by simp [Zn]⟩
  cases l with
  | nil => exact absurd rfl hne
  | cons x l =>
    have hown2 := hown
    rcases hown.2 with ⟨_, hz⟩ | ⟨g, cap, cur, hv, r⟩
    · simp at hz
    rw [hv] at hcl hown2
    refine (hc b g cap _ (x :: l) w hcl hown2 (by simp)).mono fun e w' ⟨he, hw⟩ => ⟨ρ, by simp, he, ?_⟩
    subst hw
    obtain ⟨f1, f2, f3⟩ := Ob w.drew g (x :: l).length
    refine hnone _ f1 f2 f3 (by rw [P0]; exact Nat.le_refl _) fun k hk hko => ?_
    rw [Oe k (fun e => hko ?_)]
    · rfl
    · subst e
      simp [Zn, Res.block, hb, hv, Value.ownBlock]
theorem Fo {P : Program} {f E : Nat}
    (h0 : ∀ (b : Nat) (p : Value) (w : World), w.heap[b]? = some (.cells #[p, .slice none 0 0] E (0, 0)) → Calls P f #[.pointer (some ⟨b, 0, none⟩)] w fun e w' => e = .returned (.string ⟨#[]⟩) ∧ Below w.heap.size w w') :
    GC P f [.a (.loc 0 0)] [(0, .cells E [.raw (.pointer none), .raw (.slice none 0 0)])] 1 [] (.one (.a (.str []))) [] 1 := by
  refine ⟨(by simp [Yo, Yr, Yp, Zw, Zp, Vc.S1.okN, At.okN, SV.okN, Res.okN, Res.outOk, Z1, Res.own, Value.oneCell']), fun ρ w hm => ?_⟩
  obtain ⟨b, hb, hcell⟩ := hm.res 0 _ (List.mem_cons_self ..)
  have h1 : S1.den ρ (.a (.loc 0 0)) = .pointer (some ⟨b, 0, none⟩) := by simp [S1.den, At.den, X1, hb]
  simp only [List.map_cons, List.map_nil, h1]
  refine (h0 b _ w hcell).mono fun e w' ⟨he, hw⟩ => ⟨ρ, by simp, he, ?_⟩
  have := hm.below hw
  exact ⟨this.os, this.tape, this.output, this.size, this.block, hm.one, by simp, by simp, by simp, by simp [Zn], by simp [Zn]⟩
theorem N3 (ρ : Env) (l : List (List UInt8)) : ((l.flatMap (Kd.enc .str)).map (At.den ρ)) = l.map fun y => Value.string ⟨y.toArray⟩ := by
  induction l with
  | nil => rfl
  | cons x l ih => simp only [List.flatMap_cons, List.map_append, List.map_cons, ih]; rfl
theorem join_row {P : Program} {f E : Nat}
    (h0 : ∀ (a : Option Addr) (c : Nat) (sep : ByteArray) (w : World), Calls P f #[.slice a 0 c, .string sep] w fun e w' => e = .returned (.string ⟨#[]⟩) ∧ w' = w)
    (hc : ∀ (bk o c : Nat) (xs : List ByteArray) (sep : ByteArray) (w : World), (∀ (j : Nat) x, xs[j]? = some x → w.cell? ⟨bk, o + j, none⟩ = some (.string x)) → bk < w.heap.size → xs.length ≤ 140737488355328 → xs.length ≤ c →
      (Lib.join (xs.map (·.data.toList)) sep.data.toList).length ≤ 140737488355328 → Calls P f #[.slice (some ⟨bk, o, none⟩) xs.length c, .string sep] w fun e w' => e = .returned (.string ⟨(Lib.join (xs.map (·.data.toList)) sep.data.toList).toArray⟩) ∧ Below w.heap.size w w')
    (l : List (List UInt8)) (sep : List UInt8) (hl : l.length ≤ 140737488355328) (hj : (Lib.join l sep).length ≤ 140737488355328) :
    GC P f [.a (.ref 0), .a (.str sep)] [(0, .row E .str l)] 1 [] (.one (.a (.str (Lib.join l sep)))) [] 1 := by
  refine ⟨(by simp [Yo, Yr, Yp, Zw, Zp, Vc.S1.okN, At.okN, SV.okN, Res.okN, Res.outOk, Z1, Res.own, Value.oneCell']), fun ρ w hm => ?_⟩
  have hown := hm.res 0 _ (List.mem_cons_self ..)
  simp only [Res.holds] at hown
  have hnone : ∀ w' : World, Below w.heap.size w w' → Mem ⟨P, w, Zn ρ [(0, Res.row E .str l)], 0, []⟩ ρ [] 1 w' := fun w' hw => by
    have := hm.below hw
    exact ⟨this.os, this.tape, this.output, this.size, this.block, hm.one, by simp, by simp, by simp, by simp [Zn], by simp [Zn]⟩
  have h2 : S1.den ρ (.a (.str sep)) = .string ⟨sep.toArray⟩ := rfl
  simp only [List.map_cons, List.map_nil, h2]
  rcases hown.2 with ⟨hv, hz⟩ | ⟨g, cap, cur, hv, r1, r2, r3, r4, r5, r6⟩
  · have hl0 : l = [] := List.length_eq_zero_iff.1 hz
    subst hl0
    have h1 : S1.den ρ (.a (.ref 0)) = .slice none 0 0 := hv
    rw [h1]
    exact (h0 none 0 ⟨sep.toArray⟩ w).mono fun e w' ⟨he, hw⟩ => ⟨ρ, by simp, he, hnone w' (hw ▸ Below.refl _ _)⟩
  · have h1 : S1.den ρ (.a (.ref 0)) = .slice (some ⟨g, 0, none⟩) l.length cap := hv
    rw [h1]
    have hm1 : ((l.map fun x => ByteArray.mk x.toArray).map (·.data.toList)) = l := by
      rw [List.map_map]; exact List.map_id' l
    have := hc g 0 cap (l.map fun x => ByteArray.mk x.toArray) ⟨sep.toArray⟩ w (fun j x hx => by
        rw [Nat.zero_add, cell_of_row w g j cur E (0, 0) r2]
        rw [List.getElem?_map] at hx
        obtain ⟨y, hy, rfl⟩ := Option.map_eq_some_iff.1 hx
        have hcl : ((l.flatMap (Kd.enc .str)).map (At.den ρ)) = l.map fun y => Value.string ⟨y.toArray⟩ := by
          exact N3 ρ l
        rw [hcl] at r6
        have : (cur.toList.take (l.length * 1))[j]? = some (Value.string ⟨y.toArray⟩) := by
          rw [show cur.toList.take (l.length * 1) = _ from r6, List.getElem?_map, hy]; rfl
        rw [List.getElem?_take] at this
        split at this
        · simpa using this
        · cases this) (by
        have := (World.ownsRow.lt hown g (by rw [hv]; rfl)).2; exact this) (by simpa using hl) (by simpa using r3) (by rw [hm1]; simpa using hj)
    rw [hm1] at this
    simp only [List.length_map] at this
    exact this.mono fun e w' ⟨he, hw⟩ => ⟨ρ, by simp, he, hnone w' hw⟩
end Vc
end Go.Proofs.YtjochhncheheaaaGreatDoor
