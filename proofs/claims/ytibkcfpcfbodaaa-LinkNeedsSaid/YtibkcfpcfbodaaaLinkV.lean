/-
  A part of the proofs of this seat's laws: a step on the way. It has no conditions of its own.
-/
import Derived.Test.YtibkcfpcfbodaaaLinkU
import Derived.Test.YtibkcfpcfbodaaaLinkG
namespace Go.Proofs.Ytibkcfpcfbodaaa
open Go.RowKit Vc
set_option linter.unusedVariables false
set_option linter.unusedSimpArgs false
attribute [local irreducible] T CallVC QCallVC Ent RdC RwC Rw1C GCallVC GQCallVC

/-- how often each unit is in the image -/
def cntL : List Int → List Int → List Int
  | [], c => c
  | u :: us, c => cntL us (c.set u.toNat (c.getD u.toNat 0 + 1))
theorem cntL_len : ∀ (us c : List Int), (cntL us c).length = c.length
  | [], c => rfl
  | u :: us, c => by simp only [cntL]; rw [cntL_len]; simp
theorem cntL_get : ∀ (us c : List Int), us.Nodup → (∀ v ∈ us, 0 ≤ v ∧ v < c.length) → ∀ v : Nat, v < c.length → (cntL us c).getD v 0 = c.getD v 0 + (if (v : Int) ∈ us then 1 else 0)
  | [], c, _, _, v, hv => by simp [cntL]
  | u :: us, c, hn, hr, v, hv => by
    obtain ⟨h1, h2⟩ := List.nodup_cons.1 hn
    obtain ⟨h3, h4⟩ := hr u (List.mem_cons_self ..)
    have hu : u.toNat < c.length := by omega
    simp only [cntL]
    rw [cntL_get us _ h2 (fun w hw => by rw [List.length_set]; exact hr w (List.mem_cons_of_mem _ hw)) v (by rw [List.length_set]; exact hv)]
    by_cases e : u = (v : Int)
    · subst e
      rw [if_neg h1, if_pos (List.mem_cons_self ..)]
      simp only [Int.toNat_natCast, List.getD_eq_getElem?_getD, List.getElem?_set_self hv, Option.getD_some]; omega
    · have hne : u.toNat ≠ v := by omega
      simp only [List.getD_eq_getElem?_getD, List.getElem?_set_ne hne, List.mem_cons]
      have : ((v : Int) = u ∨ (v : Int) ∈ us) ↔ (v : Int) ∈ us := ⟨fun h => h.elim (fun h => absurd h.symm e) id, .inr⟩
      simp only [this]

/-- the units that lines speak of -/
def spkL (l : Units) : List Ln → List Bool → List Bool
  | [], c => c
  | y :: ls, c => spkL l ls (if y.ref ≠ [] ∧ 0 ≤ holderL l y.ref 0 then c.set (holderL l y.ref 0).toNat true else c)
def spkU (l : Units) : List Int → List Bool → List Bool
  | [], c => c
  | u :: us, c => spkU l us (spkL l (linesOf l u) c)
theorem spkL_len (l : Units) : ∀ (ls : List Ln) (c : List Bool), (spkL l ls c).length = c.length
  | [], c => rfl
  | y :: ls, c => by simp only [spkL]; rw [spkL_len]; split <;> simp
theorem spkU_len (l : Units) : ∀ (us : List Int) (c : List Bool), (spkU l us c).length = c.length
  | [], c => rfl
  | u :: us, c => by simp only [spkU]; rw [spkU_len, spkL_len]
theorem set_true {c : List Bool} {n v : Nat} (hv : v < c.length) : (c.set n true).getD v false = true ↔ c.getD v false = true ∨ n = v := by
  by_cases e : n = v
  · subst e; simp [List.getD_eq_getElem?_getD, hv]
  · simp [List.getD_eq_getElem?_getD, List.getElem?_set_ne e, e]
theorem spkL_get (l : Units) : ∀ (ls : List Ln) (c : List Bool) (v : Nat), v < c.length → ((spkL l ls c).getD v false = true ↔ c.getD v false = true ∨ ∃ y ∈ ls, y.ref ≠ [] ∧ holderL l y.ref 0 = (v : Int))
  | [], c, v, hv => by simp [spkL]
  | y :: ls, c, v, hv => by
    simp only [spkL]
    rw [spkL_get l ls _ v (by split <;> simp [hv])]
    simp only [List.mem_cons, exists_eq_or_imp]
    by_cases h : y.ref ≠ [] ∧ 0 ≤ holderL l y.ref 0
    · rw [if_pos h, set_true hv, or_assoc]
      have : (holderL l y.ref 0).toNat = v ↔ (y.ref ≠ [] ∧ holderL l y.ref 0 = (v : Int)) := ⟨fun e => ⟨h.1, by omega⟩, fun e => by omega⟩
      rw [this]
    · rw [if_neg h]
      have : ¬ (y.ref ≠ [] ∧ holderL l y.ref 0 = (v : Int)) := fun e => h ⟨e.1, by omega⟩
      simp only [this, false_or]
theorem spkU_get (l : Units) : ∀ (us : List Int) (c : List Bool) (v : Nat), v < c.length → ((spkU l us c).getD v false = true ↔ c.getD v false = true ∨ ∃ w ∈ us, ∃ y ∈ linesOf l w, y.ref ≠ [] ∧ holderL l y.ref 0 = (v : Int))
  | [], c, v, hv => by simp [spkU]
  | u :: us, c, v, hv => by
    simp only [spkU]
    rw [spkU_get l us _ v (by rw [spkL_len]; exact hv), spkL_get l _ c v hv]
    simp only [List.mem_cons, exists_eq_or_imp, or_assoc]

theorem nat_int {a : Int} {v : Nat} (h : 0 ≤ a) (e : a.toNat = v) : a = (v : Int) := by omega
/-- the law: a unit is there once, or not at all, and there where it is spoken of -/
theorem needs_law {l : Units} {entry : List UInt8} (h : (linkS l entry).2.1 = 0) (v : Nat) (hv : v < l.length) :
    (cntL (linkS l entry).1.2.1 (List.replicate l.length 0)).getD v 0 ≤ 1 ∧
    decide ((cntL (linkS l entry).1.2.1 (List.replicate l.length 0)).getD v 0 = 1) = (spkU l (linkS l entry).1.2.1 ((List.replicate l.length false).set (holderL l entry 0).toNat true)).getD v false := by
  obtain ⟨hne, hr, hn, hiff⟩ := image_units h
  have hc := (linkS_ok h).1
  obtain ⟨first, hf, _⟩ := (linkS_ok h).2
  have hfh := holder_own hc hne
  rw [hf] at hfh
  generalize (linkS l entry).1.2.1 = us at *
  rw [cntL_get us _ hn (by simpa using hr) v (by simpa using hv)]
  have h0 : (List.replicate l.length (0 : Int)).getD v 0 = 0 := by simp [List.getD_eq_getElem?_getD, hv]
  rw [h0]
  have hs := spkU_get l us ((List.replicate l.length false).set (holderL l entry 0).toNat true) v (by simpa using hv)
  rw [set_true (by simpa using hv)] at hs
  have hb0 : (List.replicate l.length false).getD v false = false := by simp [List.getD_eq_getElem?_getD, hv]
  rw [hb0] at hs
  obtain ⟨_, _, ho⟩ := checkedS_ok hc
  have hiff' : (v : Int) ∈ us ↔ (spkU l us ((List.replicate l.length false).set (holderL l entry 0).toNat true)).getD v false = true := by
    rw [hiff, hs]
    have e1 : (checkedS l).1 entry = some (v : Int) ↔ (holderL l entry 0).toNat = v := by
      rw [hf, hfh]
      obtain ⟨g0, g1⟩ := ho _ _ hf
      simp only [Option.getD_some]
      constructor
      · intro e
        have e2 : first = (v : Int) := Option.some.inj e
        rw [e2]; simp
      · intro e
        congr 1
        exact nat_int g0 e
    have e2 : (∃ w ∈ us, ∃ y ∈ linesOf l w, y.ref ≠ [] ∧ (checkedS l).1 y.ref = some (v : Int)) ↔ ∃ w ∈ us, ∃ y ∈ linesOf l w, y.ref ≠ [] ∧ holderL l y.ref 0 = (v : Int) := by
      refine exists_congr fun w => and_congr_right fun _ => exists_congr fun y => and_congr_right fun _ => and_congr_right fun hy => ?_
      rw [holder_own hc hy]
      cases hq : (checkedS l).1 y.ref with
      | none =>
        simp only [Option.getD_none]
        exact ⟨fun e => (by cases e), fun e => absurd e (by omega)⟩
      | some q => exact ⟨fun e => Option.some.inj e, fun e => congrArg some e⟩
    rw [e1, e2]
    simp
  split
  · rename_i hm
    refine ⟨by omega, ?_⟩
    rw [hiff'.1 hm]; rfl
  · rename_i hm
    refine ⟨by omega, ?_⟩
    cases hb : (spkU l us ((List.replicate l.length false).set (holderL l entry 0).toNat true)).getD v false with
    | true => exact absurd (hiff'.2 hb) hm
    | false => rfl
end Go.Proofs.Ytibkcfpcfbodaaa
