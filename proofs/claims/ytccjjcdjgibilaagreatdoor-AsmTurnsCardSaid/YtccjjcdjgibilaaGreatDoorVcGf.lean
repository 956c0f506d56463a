/- General contracts: a call by one. -/
import Derived.Test.YtccjjcdjgibilaaGreatDoorVcGe
namespace Go.Proofs.YtccjjcdjgibilaaGreatDoor
namespace Vc
open Go.RowKit
set_option linter.unusedVariables false
set_option linter.unusedSimpArgs false
def Yz (P' : Program) (S : St) (σ : Nat → At) (args args' : List S1) (R : List (Nat × Res)) : Prop :=
  args' = args.map (S1.sub σ) ∧ X3 P' S ⟨S.slots, del S.res (Zr σ R), S.nx⟩ σ R ∧ (Zr σ R).Nodup
def Y1 (σ : Nat → At) (nx snx : Nat) (n : Nat) : At := if n < nx then σ n else .ref (snx + (n - nx))
def Y8 (σ : Nat → At) : List (Nat × Res) → List (Nat × Res)
  | [] => []
  | (n, r) :: l => (Xc (σ n), r.sub σ) :: Y8 σ l
def Xd (S : St) (σ : Nat → At) (R R' : List (Nat × Res)) (nx nx' : Nat) : St := ⟨S.slots, Y8 (Y1 σ nx S.nx) R' ++ del S.res (Zr σ R), S.nx + (nx' - nx)⟩
theorem Ho.at {c : Cx} {S : St} {ρ : Env} {w : World} {ds O : List Nat} (hm : Mem c ρ S.res S.nx w) (hO : ∀ b ∈ O, ∃ m r, (m, r) ∈ S.res ∧ m ∈ ds ∧ r.block ρ m = some b) {P : Program} {f : Nat} {ms : List Nat} {g : List S1 → Option SV}
    (h : Ho P (del S.res ds) S.nx f ms g) (hms : ∀ m ∈ ms, m < S.nx) {w' : World} (hk : Th O w w') : FnAt P w' (.func (.func f) #[] (ms.map fun m => Vk (ρ m) 0).toArray) g := by
  obtain ⟨h1, nt, x, rl, hF, h2⟩ := h
  refine ⟨f, _, ⟨rfl, h1⟩, fun as r hr => ?_⟩
  obtain ⟨g1, g2, g3, g4⟩ := h2 as r hr
  have hb := Sv g1
  have e1 : (as.map (S1.den fun _ => Y5)).toArray ++ (ms.map fun m => Vk (ρ m) 0).toArray = ((as ++ ms.map fun m => S1.a (.loc m 0)).map (S1.den ρ)).toArray := by
    rw [← Nb (ρ := ρ) hb]
    simp only [List.map_append, List.map_map, List.append_toArray]; rfl
  rw [e1]
  refine hF.calls (S := ⟨Zf 0 (as ++ ms.map fun m => S1.a (.loc m 0)), roR (del S.res ds), S.nx⟩) (ρ := ρ) (X := []) (fr := []) (R := Xi r) (by simpa using g3) (fun t v hv => ?_) (roR_mem hm hO hk P nt).cx (g4 w') fun v S' ρ' w'' hv _ hm' => ⟨?_, hm'.toBelow⟩
  · obtain ⟨j, k1, k2, k3⟩ := U3 (ρ := ρ) (nx := S.nx) (fun v hv => by
      rcases List.mem_append.1 hv with hv | hv
      · exact S1.bd_mono (Nat.zero_le _) (hb v hv)
      · obtain ⟨m, hm, rfl⟩ := List.mem_map.1 hv; exact hms m hm) hv
    simp only [Nat.zero_add] at k1
    subst k1
    have hjl : t < BIG := by
      have := (List.getElem?_eq_some_iff.1 k2).1
      have h4 := hF.lown
      simp only [List.length_map, List.length_append] at this
      omega
    exact ⟨by rw [if_pos hjl]; simpa using k2, k3⟩
  · rw [show v = r from hv, SV.den_same (nx := 0) (ρ := fun _ => Y5) (fun n hn => by omega) g2]
theorem romM_O {c : Cx} {S : St} {ρ : Env} {w : World} {ds O : List Nat} (hm : Mem c ρ S.res S.nx w) (hO : ∀ b ∈ O, ∃ m r, (m, r) ∈ S.res ∧ m ∈ ds ∧ r.block ρ m = some b) {m n : Nat} {P : Program} {K E : TypeId} {k : Kd} {f : List UInt8 → Option k.ty} {q : Nat}
    (h : X4 ⟨S.slots, del S.res ds, S.nx⟩ m (.rosmap P K E k f q)) {ρ' : Env} (hn : ρ' n = ρ m) : (Res.rosmap P K E k f q).holds ρ' O n w := by
  unfold X4 at h
  split at h
  · rename_i hf
    cases h
    obtain ⟨b, es, clock, h1, h2, h3⟩ := hm.res _ _ (Wl (Wm hf))
    exact ⟨b, es, clock, by rw [hn]; exact h1, ⟨h2, Ui hm hO (Wm hf) (by simp [Res.block, h1])⟩, h3⟩
  · rename_i hf
    cases h
    obtain ⟨b, es, clock, h1, h2, h3⟩ := hm.res _ _ (Wl (Wm hf))
    exact ⟨b, es, clock, by rw [hn]; exact h1, ⟨h2.1, Ua hO h2.2⟩, h3⟩
  · exact h.elim
theorem rocM_O {c : Cx} {S : St} {ρ : Env} {w : World} {ds O : List Nat} (hm : Mem c ρ S.res S.nx w) (hO : ∀ b ∈ O, ∃ m r, (m, r) ∈ S.res ∧ m ∈ ds ∧ r.block ρ m = some b) {σ : Nat → At} {n : Nat} {l : List At}
    (h : X1 σ ⟨S.slots, del S.res ds, S.nx⟩ l (σ n)) (hok : ∀ x ∈ l, x.okN fun _ => True) : (Res.rocells l).holds (fun n => (σ n).den ρ) O n w := by
  have hsub : ∀ {u : At}, u ∈ l → (u.sub σ).den ρ = u.den fun n => (σ n).den ρ := fun hu => At.sub_den (p := fun _ => True) (fun n _ => rfl) (hok _ hu)
  unfold X1 at h
  split at h
  · rename_i m hσ
    split at h
    · rename_i E l' hf
      subst h
      obtain ⟨b, hv, hb⟩ := hm.res _ _ (Wl (Wm hf))
      refine ⟨⟨b, 0, none⟩, by simp only [hσ, At.den, hv], fun j u hu => ⟨?_, Ui hm hO (Wm hf) (by simp [Res.block, hv])⟩⟩
      rw [cell_of_row w b _ _ E (0, 0) hb, ← hsub (List.mem_of_getElem? hu)]
      simp [hu]
    · rename_i l' hf
      subst h
      obtain ⟨a, hv, hc⟩ := hm.res _ _ (Wl (Wm hf))
      refine ⟨a, by simp only [hσ, At.den, hv], fun j u hu => ?_⟩
      obtain ⟨g1, g2⟩ := hc j (u.sub σ) (by simp [hu])
      exact ⟨by rw [g1, hsub (List.mem_of_getElem? hu)], Ua hO g2⟩
    · exact h.elim
  · rename_i m o hσ
    have hget : ∀ {l' : List At}, (l'.drop o).take l.length = l.map (At.sub σ) → ∀ {j : Nat} {u : At}, l[j]? = some u → l'[o + j]? = some (u.sub σ) := by
      intro l' h2 j u hu
      have := congrArg (fun z : List At => z[j]?) h2
      simp only [List.getElem?_take, List.getElem?_drop, List.getElem?_map, hu, Option.map_some] at this
      rwa [if_pos (List.getElem?_eq_some_iff.1 hu).1] at this
    split at h
    · rename_i E l' hf
      obtain ⟨b, hv, hb⟩ := hm.res _ _ (Wl (Wm hf))
      refine ⟨⟨b, o, none⟩, by simp only [hσ, At.den, hv, Vk, Nat.zero_add], fun j u hu => ⟨?_, Ui hm hO (Wm hf) (by simp [Res.block, hv])⟩⟩
      rw [cell_of_row w b _ _ E (0, 0) hb, ← hsub (List.mem_of_getElem? hu)]
      simp [hget h.2 hu]
    · rename_i l' hf
      obtain ⟨a, hv, hc⟩ := hm.res _ _ (Wl (Wm hf))
      refine ⟨⟨a.block, a.off + o, none⟩, by simp only [hσ, At.den, hv, Vk], fun j u hu => ?_⟩
      obtain ⟨g1, g2⟩ := hc (o + j) _ (hget h.2 hu)
      exact ⟨by simp only [Nat.add_assoc]; rw [g1, hsub (List.mem_of_getElem? hu)], Ua hO g2⟩
    · exact h.elim
  · exact h.elim
theorem Jt {c : Cx} {S : St} {ρ : Env} {w : World} {ds O : List Nat} (hm : Mem c ρ S.res S.nx w) (hO : ∀ b ∈ O, ∃ m r, (m, r) ∈ S.res ∧ m ∈ ds ∧ r.block ρ m = some b) {σ : Nat → At} {n : Nat} {r : Res}
    (h : mtR c.P S ⟨S.slots, del S.res ds, S.nx⟩ σ n r) (hok : r.okN fun _ => True) : r.holds (fun n => (σ n).den ρ) O n w ∧ (r.own = true → ∃ m, σ n = .ref m ∧ (m, r.sub σ) ∈ S.res) := by
  have hOs : ∀ b ∈ O, b ∈ Y0 ρ S.res := fun b hb => by
    obtain ⟨m', r', h1, h2, h3⟩ := hO b hb
    exact List.mem_filterMap.2 ⟨_, h1, h3⟩
  have own : ∀ {r' : Res}, r' = r.sub σ → r.own = true → Xy S r' (σ n) → r.holds (fun n => (σ n).den ρ) O n w ∧ (r.own = true → ∃ m, σ n = .ref m ∧ (m, r.sub σ) ∈ S.res) := by
    intro r' e ho h
    subst e
    unfold Xy at h
    split at h
    · rename_i m hσ
      exact ⟨Jc (p := fun _ => True) (fun n _ => rfl) (by simp only [hσ, At.den]) hok ho hOs (hm.res _ _ (Yk h)), fun _ => ⟨m, hσ, Yk h⟩⟩
    · exact h.elim
  cases r with
  | cells E l => exact own rfl rfl h
  | lit E sz e l => exact own rfl rfl h
  | row E k l => exact own rfl rfl h
  | smap P K E k f q => exact own rfl rfl h
  | urow b E l => exact own rfl rfl h
  | ro k l => exact ⟨RoO.holds (ρ := fun n => (σ n).den ρ) (roA_O hm hO h), fun h => by cases h⟩
  | rocells l => exact ⟨rocM_O hm hO h hok, fun h => by cases h⟩
  | rou l =>
    refine ⟨?_, fun h => by cases h⟩
    simp only [mtR] at h
    split at h
    · rename_i m hσ; exact Hu hm hO h (by simp only [hσ, At.den])
    · rename_i hσ
      subst h
      exact ⟨none, 0, by simp only [hσ, At.den]; exact ⟨rfl, Nat.le_refl _⟩, fun _ => rfl, fun ad had => by cases had⟩
    · exact h.elim
  | rosmap P K E k f q =>
    refine ⟨?_, fun h => by cases h⟩
    simp only [mtR] at h
    split at h
    · rename_i m hσ; exact romM_O hm hO h (by simp only [hσ, At.den])
    · exact h.elim
  | fn P g =>
    refine ⟨?_, fun h => by cases h⟩
    simp only [mtR] at h
    unfold fnM at h
    split at h
    · rename_i m hσ
      have hr := hm.res _ _ (Wl (Wm h))
      intro w' hk
      simp only [hσ, At.den]
      exact hr w' fun b o hbo hb => hk b o hbo (Ua hO hb)
    · rename_i f ms hσ
      obtain ⟨rfl, h1, h2⟩ := h
      intro w' hk
      simp only [hσ, At.den]
      exact h2.at hm hO h1 hk
    · rename_i f _ _ hσ
      obtain ⟨rfl, ⟨rfl, rfl⟩, h2⟩ := h
      intro w' hk
      simp only [hσ, At.den]
      exact h2.at hm hO (fun m hm => nomatch hm) hk
    · exact h.elim
  | fact _ => exact h.elim
  | view _ _ _ _ => exact h.elim
theorem Hd {p : Nat → Prop} {r : Res} (h : r.okN p) : r.okN fun _ => True := by
  cases r <;> first | trivial | exact h.elim | exact fun y hy => At.okN_mono (fun _ _ => trivial) (h y hy)
theorem Sg {σ : Nat → At} : ∀ {l : List (Nat × Res)} {p : Nat × Res}, p ∈ Y8 σ l → ∃ n r, (n, r) ∈ l ∧ p = (Xc (σ n), r.sub σ)
  | (m, s) :: l, p, h => by
    rcases List.mem_cons.1 h with e | h
    · exact ⟨m, s, List.mem_cons_self .., e⟩
    · obtain ⟨n, r, h1, h2⟩ := Sg h
      exact ⟨n, r, List.mem_cons_of_mem _ h1, h2⟩
theorem Zq.gcpσ {G : Nat} {H : Nat → Option Obj} {c : Cx} (hglob : Vs G H c.w0 c.X) {f : Nat} {args args' : List S1} {S : St} {K : SV → St → Prop} {R : List (Nat × Res)} {nx : Nat} {keep : List Nat} {v : SV} {R' : List (Nat × Res)} {nx' : Nat} (h : GCp G H c.P f args R nx keep v R' nx') (b0 : Bnd)
    (hv : Yz c.P S (sg b0) args args' R) (hK : K (v.sub (Y1 (sg b0) nx S.nx)) (Xd S (sg b0) R R' nx nx')) : Zq c f args' S K := by
  intro ρ a w hh
  obtain ⟨⟨w1, w2, w3, w4, w5, w6, w7, w8, w9⟩, hrun⟩ := h
  obtain ⟨rfl, hmt, hnd⟩ := hv
  have hone : ∀ n, ((sg b0 n).den ρ).oneCell' = true := fun n => Hs b0 n hh.mem.one
  generalize hσ : sg b0 = σ at hmt hnd hK hone
  generalize hds : Zr σ R = ds at hmt hnd
  have hm := hh.mem
  have hR : ∀ n r O, (∀ b ∈ O, ∃ m r, (m, r) ∈ S.res ∧ m ∈ ds ∧ r.block ρ m = some b) → (n, r) ∈ R → r.holds (fun n => (σ n).den ρ) O n w ∧ (r.own = true → ∃ m, σ n = .ref m ∧ (m, r.sub σ) ∈ S.res) := fun n r O hO hr =>
    Jt hm hO (Ms hmt hr) (Hd (W0 w2 n r hr).2)
  have hownR : ∀ n r b, (n, r) ∈ R → r.block (fun n => (σ n).den ρ) n = some b → ∃ m, σ n = .ref m ∧ m ∈ ds ∧ (m, r.sub σ) ∈ S.res ∧ (r.sub σ).block ρ m = some b := fun n r b hr hb => by
    have ho := Tl hb
    obtain ⟨m, h1, h2⟩ := (hR n r [] (fun b hb => nomatch hb) hr).2 ho
    exact ⟨m, h1, by rw [← hds]; exact Su hr ho h1, h2, by rw [Qf (ρ' := fun n => (σ n).den ρ) (n := n) (by simp only [h1, At.den])]; exact hb⟩
  have hOc : ∀ b ∈ Y0 (fun n => (σ n).den ρ) R, ∃ m r, (m, r) ∈ S.res ∧ m ∈ ds ∧ r.block ρ m = some b := fun b hb => by
    obtain ⟨p, hp, hpb⟩ := List.mem_filterMap.1 hb
    obtain ⟨m, h1, h2, h3, h4⟩ := hownR p.1 p.2 b hp hpb
    exact ⟨m, _, h3, h2, h4⟩
  have hOcS : ∀ b ∈ Y0 (fun n => (σ n).den ρ) R, b ∈ Y0 ρ S.res := fun b hb => by
    obtain ⟨m, r, h1, _, h3⟩ := hOc b hb
    exact List.mem_filterMap.2 ⟨_, h1, h3⟩
  have hndo : ∀ (l : List (Nat × Res)), (∀ p ∈ l, p ∈ R) → (l.map Prod.fst).Nodup → (Y0 (fun n => (σ n).den ρ) l).Nodup := by
    intro l
    induction l with
    | nil => intro _ _; exact List.nodup_nil
    | cons p l ih =>
      intro hin hkk
      simp only [List.map_cons, List.nodup_cons] at hkk
      have ih' := ih (fun q hq => hin q (by simp [hq])) hkk.2
      unfold Y0
      rw [List.filterMap_cons]
      split
      · exact ih'
      · rename_i b hb
        refine List.nodup_cons.2 ⟨fun hmem2 => ?_, ih'⟩
        obtain ⟨q, hq, hqb⟩ := List.mem_filterMap.1 hmem2
        obtain ⟨m1, a1, a2, a3, a4⟩ := hownR p.1 p.2 b (hin p (by simp)) hb
        obtain ⟨m2, b1, b2, b3, b4⟩ := hownR q.1 q.2 b (hin q (by simp [hq])) hqb
        have hne : m2 ≠ m1 := fun e => by
          have := Qc (R := R) (by rw [hds]; exact hnd) (hin p (by simp)) (hin q (by simp [hq])) (Tl hb) (Tl hqb) a1 (e ▸ b1)
          exact hkk.1 (by rw [this]; exact List.mem_map.2 ⟨q, hq, rfl⟩)
        have h5 := Wt (ds := [m1]) hm.keys hm.nodup a3 (by simp) a4
        exact h5 (List.mem_filterMap.2 ⟨_, List.mem_filter.2 ⟨b3, by simp [hne]⟩, b4⟩)
  have hmc : Mem ⟨c.P, w, Y0 (fun n => (σ n).den ρ) R, 0, []⟩ (fun n => (σ n).den ρ) R nx w :=
    ⟨rfl, rfl, rfl, Nat.le_refl _, fun _ _ _ => rfl, hone, w3, fun n r hr => (hR n r _ hOc hr).1, fun n r hr => ⟨(W0 w2 n r hr).1, Res.okN_bd (W0 w2 n r hr).2⟩, hndo R (fun _ h => h) w3,
      fun b hb => ⟨(hm.lt b (hOcS b hb)).1, .inr hb⟩⟩
  have hargs : (args.map (S1.sub σ)).map (S1.den ρ) = args.map (S1.den fun n => (σ n).den ρ) := by
    rw [List.map_map]
    refine List.map_congr_left fun x hx => S1.sub_den (p := fun _ => True) (fun n _ => rfl) (S1.okN_mono (fun _ _ => trivial) (Pi w1 x hx))
  have hK' := hK
  rw [hargs]
  have hglob' : Vs G H w (Y0 (fun n => (σ n).den ρ) R) := by
    obtain ⟨k1, k2, k3⟩ := hglob
    refine ⟨Nat.le_trans k1 hm.size, fun b hb => ?_, fun b hb => ?_⟩
    · rw [hm.block b (by omega) (fun hX => by have := k3 b hX; omega)]; exact k2 b hb
    · rcases (hm.lt b (hOcS b hb)).2 with h1 | h1
      · omega
      · exact k3 b h1
  refine (hrun _ w hmc hglob').mono ?_
  rintro e w' ⟨ρ', hkeep, rfl, hm'⟩
  let ρ2 : Env := fun m => if m < S.nx then ρ m else ρ' (nx + (m - S.nx))
  have hs2 : Tp S.nx ρ ρ2 := fun m hlt => if_pos hlt
  have hσk : ∀ n ∈ keep, ∃ m, σ n = .ref m ∧ m ∈ ds ∧ m < S.nx := fun n hn => by
    obtain ⟨r, h1, h2⟩ := Uu w4 n hn
    obtain ⟨m, h3, h4⟩ := (hR n r [] (fun b hb => nomatch hb) h1).2 h2
    exact ⟨m, h3, by rw [← hds]; exact Su h1 h2 h3, (hm.bdr _ _ h4).1⟩
  have hσ' : ∀ n, ((n ∈ keep ∨ nx ≤ n) ∧ n < nx') → ∃ m, Y1 σ nx S.nx n = .ref m ∧ ρ2 m = ρ' n ∧ m < S.nx + (nx' - nx) ∧ ((m ∈ ds ∧ m < S.nx ∧ n ∈ keep) ∨ (m = S.nx + (n - nx) ∧ nx ≤ n)) := fun n hn => by
    by_cases hlt : n < nx
    · have hk : n ∈ keep := hn.1.resolve_right (by omega)
      obtain ⟨m, h1, h2, h3⟩ := hσk n hk
      refine ⟨m, by unfold Y1; rw [if_pos hlt, h1], ?_, by omega, .inl ⟨h2, h3, hk⟩⟩
      rw [hs2 m h3, hkeep n hk, h1]; rfl
    · refine ⟨S.nx + (n - nx), by unfold Y1; rw [if_neg hlt], ?_, by omega, .inr ⟨rfl, by omega⟩⟩
      show (if S.nx + (n - nx) < S.nx then _ else _) = _
      rw [if_neg (by omega)]
      congr 1; omega
  have hden : ∀ n, ((n ∈ keep ∨ nx ≤ n) ∧ n < nx') → (Y1 σ nx S.nx n).den ρ2 = ρ' n := fun n hn => by
    obtain ⟨m, h1, h2, _⟩ := hσ' n hn
    rw [h1]; exact h2
  have hbd : ∀ n, ((n ∈ keep ∨ nx ≤ n) ∧ n < nx') → (Y1 σ nx S.nx n).bd (S.nx + (nx' - nx)) := fun n hn => by
    obtain ⟨m, h1, _, h3, _⟩ := hσ' n hn
    rw [h1]; exact h3
  have hD : ∀ b ∈ Y0 (fun n => (σ n).den ρ) R, b ∈ Y0 ρ S.res := hOcS
  have hkeeps : Th (Y0 (fun n => (σ n).den ρ) R) w w' := fun b o hb hbn => by
    have := hm'.block b (Array.getElem?_eq_some_iff.1 hb).1 hbn
    rw [this]; exact hb
  have hdelmem : ∀ n r, (n, r) ∈ del S.res ds → (n, r) ∈ S.res ∧ n ∉ ds := fun n r h => by
    have := List.mem_filter.1 h
    exact ⟨this.1, by simpa using this.2⟩
  have hown1 : ∀ l : List (Nat × Res), (∀ p ∈ l, p ∈ R') → Y0 ρ2 (Y8 (Y1 σ nx S.nx) l) = Y0 ρ' l := by
    intro l
    induction l with
    | nil => intro _; rfl
    | cons p l ih =>
      intro hin
      obtain ⟨n, r⟩ := p
      obtain ⟨m, h1, h2, _⟩ := hσ' n (W0 w6 n r (hin _ (by simp))).1
      have e1 : (r.sub (Y1 σ nx S.nx)).block ρ2 (Xc (Y1 σ nx S.nx n)) = r.block ρ' n := by
        rw [h1]; exact Qf (by rw [← h2]; rfl)
      have e2 := ih fun q hq => hin q (by simp [hq])
      unfold Y0 at e2 ⊢
      simp only [Y8, List.filterMap_cons, e1, e2]
  have hown2 : Y0 ρ2 (del S.res ds) = Y0 ρ (del S.res ds) := U7 hs2 fun n r hr => (hm.bdr n r (hdelmem n r hr).1).1
  have hownT : Y0 ρ2 (Y8 (Y1 σ nx S.nx) R' ++ del S.res ds) = Y0 ρ' R' ++ Y0 ρ (del S.res ds) := by
    have : ∀ A B : List (Nat × Res), Y0 ρ2 (A ++ B) = Y0 ρ2 A ++ Y0 ρ2 B := fun A B => by unfold Y0; exact List.filterMap_append
    rw [this, hown1 R' (fun _ h => h), hown2]
  have hlt' : ∀ b ∈ Y0 ρ' R', b < w'.heap.size ∧ (w.heap.size ≤ b ∨ b ∈ Y0 (fun n => (σ n).den ρ) R) := fun b hb => hm'.lt b hb
  have hdel : ∀ b ∈ Y0 ρ (del S.res ds), b < w.heap.size ∧ b ∉ Y0 (fun n => (σ n).den ρ) R := fun b hb => by
    refine ⟨(hm.lt b (Vj b hb)).1, fun hbR => ?_⟩
    obtain ⟨m, r, h1, h2, h3⟩ := hOc b hbR
    exact Wt hm.keys hm.nodup h1 h2 h3 hb
  have hO2 : ∀ b ∈ Y0 ρ2 (Y8 (Y1 σ nx S.nx) R' ++ del S.res ds), b ∈ Y0 ρ S.res ∨ w.heap.size ≤ b := fun b hb => by
    rw [hownT] at hb
    rcases List.mem_append.1 hb with hb | hb
    · rcases (hlt' b hb).2 with h1 | h1
      · exact .inr h1
      · exact .inl (hOcS b h1)
    · exact .inl (Vj b hb)
  have hvd : (v.sub (Y1 σ nx S.nx)).den ρ2 = v.den ρ' := SV.sub_den hden w5
  have hout : Mem c ρ2 (Y8 (Y1 σ nx S.nx) R' ++ del S.res ds) (S.nx + (nx' - nx)) w' := by
    refine ⟨hm'.os.trans hm.os, hm'.tape.trans hm.tape, hm'.output.trans hm.output, Nat.le_trans hm.size hm'.size, ?_, fun n => ?_, ?_, ?_, ?_, ?_, ?_⟩
    · intro b hb hbX
      have h0 := hm.block b hb hbX
      have hbs : b < w.heap.size := Nat.lt_of_lt_of_le hb hm.size
      rw [← h0]
      refine hm'.block b hbs fun hbR => ?_
      rcases (hm.lt b (hOcS b hbR)).2 with h1 | h1
      · omega
      · exact hbX h1
    · show (if n < S.nx then ρ n else _).oneCell' = true
      split
      · exact hm.one n
      · exact hm'.one _
    · rw [List.map_append]
      refine List.nodup_append.2 ⟨?_, Rg hm.keys, ?_⟩
      · have key : ∀ l : List (Nat × Res), (∀ p ∈ l, p ∈ R') → (l.map Prod.fst).Nodup → ((Y8 (Y1 σ nx S.nx) l).map Prod.fst).Nodup := by
          intro l
          induction l with
          | nil => intro _ _; exact List.nodup_nil
          | cons p l ih =>
            intro hin hkk
            obtain ⟨n, r⟩ := p
            simp only [List.map_cons, List.nodup_cons] at hkk
            simp only [Y8, List.map_cons, List.nodup_cons]
            refine ⟨fun hmem => ?_, ih (fun q hq => hin q (by simp [hq])) hkk.2⟩
            obtain ⟨q, hq, hqe⟩ := List.mem_map.1 hmem
            obtain ⟨n2, r2, g1, rfl⟩ := Sg hq
            obtain ⟨m1, a1, _, _, a4⟩ := hσ' n (W0 w6 n r (hin _ (by simp))).1
            obtain ⟨m2, b1, _, _, b4⟩ := hσ' n2 (W0 w6 n2 r2 (hin _ (by simp [g1]))).1
            simp only [a1, b1, Xc] at hqe
            subst hqe
            have hnn : n2 = n := by
              rcases a4 with ⟨a5, a6, a7⟩ | ⟨a5, a6⟩ <;> rcases b4 with ⟨b5, b6, b7⟩ | ⟨b5, b6⟩
              · obtain ⟨s1, t1, t2⟩ := Uu w4 n a7
                obtain ⟨s2, u1, u2⟩ := Uu w4 n2 b7
                obtain ⟨q1, q2, _⟩ := hσk n a7
                obtain ⟨q3, q4, _⟩ := hσk n2 b7
                have o1 : n < nx := (W0 w2 n s1 t1).1
                have o2 : n2 < nx := (W0 w2 n2 s2 u1).1
                unfold Y1 at a1 b1
                rw [if_pos o1] at a1
                rw [if_pos o2] at b1
                have := Qc (R := R) (p := (n2, s2)) (q := (n, s1)) (by rw [hds]; exact hnd) u1 t1 u2 t2 b1 a1
                exact congrArg Prod.fst this
              · omega
              · omega
              · omega
            subst hnn
            exact hkk.1 (List.mem_map.2 ⟨_, g1, rfl⟩)
        exact key R' (fun _ h => h) w7
      · intro x hx y hy hxy
        subst hxy
        obtain ⟨p, hp, rfl⟩ := List.mem_map.1 hx
        obtain ⟨n, r, g1, rfl⟩ := Sg hp
        obtain ⟨q, hq, hqe⟩ := List.mem_map.1 hy
        obtain ⟨m1, a1, _, _, a4⟩ := hσ' n (W0 w6 n r g1).1
        simp only [a1, Xc] at hqe
        have hq2 := hdelmem q.1 q.2 hq
        rcases a4 with ⟨a5, _⟩ | ⟨a5, _⟩
        · rw [hqe] at hq2; exact hq2.2 a5
        · have := (hm.bdr _ _ hq2.1).1; omega
    · intro n r hr
      rcases List.mem_append.1 hr with hr | hr
      · obtain ⟨n0, r0, g1, e⟩ := Sg hr
        cases e
        obtain ⟨hq1, hq2⟩ := W0 w6 n0 r0 g1
        obtain ⟨m1, a1, a2, _, _⟩ := hσ' n0 hq1
        have hh0 := hm'.res n0 r0 g1
        have hok := Tg w8 n0 r0 g1
        simp only [a1, Xc]
        cases r0 <;> simp only [Res.outOk, Bool.false_eq_true] at hok
        case cells E l =>
          obtain ⟨b, k1, k2⟩ := hh0
          exact ⟨b, by rw [a2]; exact k1, by rw [Uv hden hq2]; exact k2⟩
        case lit E sz e l =>
          obtain ⟨b, k1, k2, k3⟩ := hh0
          exact ⟨b, by rw [a2]; exact k1, by simpa using k2, by rw [Uv hden hq2]; exact k3⟩
        case row E k l =>
          simp only [Res.sub, Res.holds] at hh0 ⊢
          rw [a2, Kd.encs_den _ _ ρ' ρ2]; exact hh0
        case smap P K E k f q =>
          simp only [Res.sub, Res.holds] at hh0 ⊢
          rw [a2]; exact hh0
      · obtain ⟨h1, h2⟩ := hdelmem n r hr
        refine Res.carry hs2 (hm.bdr n r h1).1 (hm.bdr n r h1).2 hkeeps hD (fun b hb hbD => ?_) hO2 (hm.res n r h1)
        exact (hdel b (List.mem_filterMap.2 ⟨(n, r), hr, hb⟩)).2 hbD
    · intro n r hr
      rcases List.mem_append.1 hr with hr | hr
      · obtain ⟨n0, r0, g1, e⟩ := Sg hr
        cases e
        obtain ⟨hq1, hq2⟩ := W0 w6 n0 r0 g1
        obtain ⟨m1, a1, a2, a3, _⟩ := hσ' n0 hq1
        exact ⟨by simp only [a1, Xc]; exact a3, Res.sub_bd hbd hq2⟩
      · have := hm.bdr n r (hdelmem n r hr).1
        exact ⟨by omega, Res.bd_mono (by omega) this.2⟩
    · rw [hownT]
      refine List.nodup_append.2 ⟨hm'.nodup, O5 hm.nodup, fun x hx y hy hxy => ?_⟩
      subst hxy
      have h1 := hdel x hy
      rcases (hlt' x hx).2 with h2 | h2
      · omega
      · exact h1.2 h2
    · intro b hb
      rw [hownT] at hb
      rcases List.mem_append.1 hb with hb | hb
      · refine ⟨(hlt' b hb).1, ?_⟩
        rcases (hlt' b hb).2 with h2 | h2
        · exact .inl (Nat.le_trans hm.size h2)
        · exact (hm.lt b (hOcS b h2)).2
      · have := hm.lt b (Vj b hb)
        exact ⟨Nat.lt_of_lt_of_le this.1 hm'.size, this.2⟩
  refine ⟨v.sub (Y1 σ nx S.nx), ρ2, Xd S σ R R' nx nx', ⟨hs2, by unfold Xd; simp⟩, by rw [hvd], SV.sub_bd hbd w5, ?_, hK⟩
  unfold Xd
  rw [hds]
  exact hh.res hs2 (by omega) hout
theorem Zq.gcσ {c : Cx} {f : Nat} {args args' : List S1} {S : St} {K : SV → St → Prop} {R : List (Nat × Res)} {nx : Nat} {keep : List Nat} {v : SV} {R' : List (Nat × Res)} {nx' : Nat} (h : GC c.P f args R nx keep v R' nx') (b0 : Bnd)
    (hv : Yz c.P S (sg b0) args args' R) (hK : K (v.sub (Y1 (sg b0) nx S.nx)) (Xd S (sg b0) R R' nx nx')) : Zq c f args' S K :=
  Zq.gcpσ (Vs.zero (fun _ => none) _ _) h.gcp b0 hv hK
theorem Zq.gcp {G : Nat} {H : Nat → Option Obj} {c : Cx} (hglob : Vs G H c.w0 c.X) {f : Nat} {args args' : List S1} {S : St} {K : SV → St → Prop} {R : List (Nat × Res)} {nx : Nat} {keep : List Nat} {v : SV} {R' : List (Nat × Res)} {nx' : Nat} (h : GCp G H c.P f args R nx keep v R' nx')
    (hv : Yz c.P S (sg (Zt S R (Zc args args' []))) args args' R) (hK : K (v.sub (Y1 (sg (Zt S R (Zc args args' []))) nx S.nx)) (Xd S (sg (Zt S R (Zc args args' []))) R R' nx nx')) : Zq c f args' S K :=
  Zq.gcpσ hglob h _ hv hK
theorem Zq.gc {c : Cx} {f : Nat} {args args' : List S1} {S : St} {K : SV → St → Prop} {R : List (Nat × Res)} {nx : Nat} {keep : List Nat} {v : SV} {R' : List (Nat × Res)} {nx' : Nat} (h : GC c.P f args R nx keep v R' nx')
    (hv : Yz c.P S (sg (Zt S R (Zc args args' []))) args args' R) (hK : K (v.sub (Y1 (sg (Zt S R (Zc args args' []))) nx S.nx)) (Xd S (sg (Zt S R (Zc args args' []))) R R' nx nx')) : Zq c f args' S K :=
  Zq.gcσ h _ hv hK
theorem tf {a : Bool} (h : a = true) (h' : a = false) : False := by rw [h] at h'; cases h'
theorem Xs : type_of% (And.intro @List.set_cons_zero.{0} <| And.intro @List.set_cons_succ.{0} <| And.intro @List.set_nil.{0} <| And.intro @forall_eq_or_imp.{1} <| And.intro @forall_eq.{1} <| And.intro @List.mem_singleton.{0} <| And.intro @List.map_cons.{0,0} <| And.intro @List.map_nil.{0,0} <| And.intro @Nat.sub_self <| And.intro @Option.getD_some.{0} <| And.intro @Option.getD_none.{0} <| And.intro @Option.isSome_some.{0} <| And.intro @Option.isSome_none.{0} <| And.intro @List.nodup_nil.{0} <| And.intro @List.nodup_cons.{0} <| And.intro @List.mem_cons.{0} <| And.intro @List.not_mem_nil.{0} <| And.intro @Nat.zero_add <| And.intro @Nat.add_zero <| And.intro @Nat.zero_mul <| And.intro @Nat.le_refl <| And.intro @List.length_cons.{0} <| And.intro @List.length_nil.{0} <| And.intro @List.getElem?_cons_zero.{0} <| And.intro @List.getElem?_cons_succ.{0} <| And.intro @List.getElem?_nil.{0} <| And.intro @List.drop_zero.{0} <| And.intro @List.drop_succ_cons.{0} <| And.intro @List.drop_nil.{0} <| And.intro @List.take_zero.{0} <| And.intro @List.take_succ_cons.{0} <| And.intro @List.take_nil.{0} <| And.intro @List.nil_append.{0} <| And.intro @List.cons_append.{0} <| And.intro @List.append_nil.{0} <| And.intro @List.filter_cons.{0} <| And.intro @List.filter_nil.{0} <| And.intro @List.contains_cons.{0} <| And.intro @List.contains_nil.{0} <| And.intro @List.elem_cons.{0} <| And.intro @List.elem_nil.{0} <| And.intro @Bool.not_true <| And.intro @Bool.not_false <| And.intro @Bool.or_false <| And.intro @Bool.false_or <| And.intro @Bool.true_or <| And.intro @Bool.or_true <| And.intro @Bool.and_true <| And.intro @Bool.true_and <| And.intro @Bool.and_false <| And.intro @Bool.false_and <| And.intro @Bool.false_eq_true <| And.intro @Bool.true_eq_false <| And.intro @beq_self_eq_true.{0} <| And.intro @cond_true.{1} <| And.intro @cond_false.{1} <| And.intro @true_and <| And.intro @and_true <| And.intro @false_and <| And.intro @and_false <| And.intro @true_implies <| And.intro @false_implies <| And.intro @and_self <| And.intro @decide_true <| And.intro @decide_false <| And.intro @not_false_eq_true <| And.intro @not_true_eq_false <| And.intro @ne_eq.{1} <| And.intro @imp_self <| And.intro @Bool.cond_true_left <| And.intro @Bool.cond_false_right <| And.intro @Bool.cond_true_right <| And.intro @Bool.cond_false_left <| And.intro @Bool.not_eq_true' <| And.intro @Bool.not_eq_false' <| And.intro @Bool.or_eq_true <| And.intro @Bool.and_eq_true <| And.intro @Bool.or_eq_false_iff <| And.intro @Bool.and_eq_false_imp <| And.intro @decide_eq_true_eq <| And.intro @decide_eq_false_iff_not <| And.intro @Bool.not_not <| And.intro @bne_self_eq_false.{0} <| And.intro @false_or <| And.intro @or_false <| And.intro @true_or <| And.intro @or_true <| And.intro @not_or <| And.intro @exists_eq_left.{1} <| @exists_eq_left'.{1}) :=
  And.intro @List.set_cons_zero.{0} <| And.intro @List.set_cons_succ.{0} <| And.intro @List.set_nil.{0} <| And.intro @forall_eq_or_imp.{1} <| And.intro @forall_eq.{1} <| And.intro @List.mem_singleton.{0} <| And.intro @List.map_cons.{0,0} <| And.intro @List.map_nil.{0,0} <| And.intro @Nat.sub_self <| And.intro @Option.getD_some.{0} <| And.intro @Option.getD_none.{0} <| And.intro @Option.isSome_some.{0} <| And.intro @Option.isSome_none.{0} <| And.intro @List.nodup_nil.{0} <| And.intro @List.nodup_cons.{0} <| And.intro @List.mem_cons.{0} <| And.intro @List.not_mem_nil.{0} <| And.intro @Nat.zero_add <| And.intro @Nat.add_zero <| And.intro @Nat.zero_mul <| And.intro @Nat.le_refl <| And.intro @List.length_cons.{0} <| And.intro @List.length_nil.{0} <| And.intro @List.getElem?_cons_zero.{0} <| And.intro @List.getElem?_cons_succ.{0} <| And.intro @List.getElem?_nil.{0} <| And.intro @List.drop_zero.{0} <| And.intro @List.drop_succ_cons.{0} <| And.intro @List.drop_nil.{0} <| And.intro @List.take_zero.{0} <| And.intro @List.take_succ_cons.{0} <| And.intro @List.take_nil.{0} <| And.intro @List.nil_append.{0} <| And.intro @List.cons_append.{0} <| And.intro @List.append_nil.{0} <| And.intro @List.filter_cons.{0} <| And.intro @List.filter_nil.{0} <| And.intro @List.contains_cons.{0} <| And.intro @List.contains_nil.{0} <| And.intro @List.elem_cons.{0} <| And.intro @List.elem_nil.{0} <| And.intro @Bool.not_true <| And.intro @Bool.not_false <| And.intro @Bool.or_false <| And.intro @Bool.false_or <| And.intro @Bool.true_or <| And.intro @Bool.or_true <| And.intro @Bool.and_true <| And.intro @Bool.true_and <| And.intro @Bool.and_false <| And.intro @Bool.false_and <| And.intro @Bool.false_eq_true <| And.intro @Bool.true_eq_false <| And.intro @beq_self_eq_true.{0} <| And.intro @cond_true.{1} <| And.intro @cond_false.{1} <| And.intro @true_and <| And.intro @and_true <| And.intro @false_and <| And.intro @and_false <| And.intro @true_implies <| And.intro @false_implies <| And.intro @and_self <| And.intro @decide_true <| And.intro @decide_false <| And.intro @not_false_eq_true <| And.intro @not_true_eq_false <| And.intro @ne_eq.{1} <| And.intro @imp_self <| And.intro @Bool.cond_true_left <| And.intro @Bool.cond_false_right <| And.intro @Bool.cond_true_right <| And.intro @Bool.cond_false_left <| And.intro @Bool.not_eq_true' <| And.intro @Bool.not_eq_false' <| And.intro @Bool.or_eq_true <| And.intro @Bool.and_eq_true <| And.intro @Bool.or_eq_false_iff <| And.intro @Bool.and_eq_false_imp <| And.intro @decide_eq_true_eq <| And.intro @decide_eq_false_iff_not <| And.intro @Bool.not_not <| And.intro @bne_self_eq_false.{0} <| And.intro @false_or <| And.intro @or_false <| And.intro @true_or <| And.intro @or_true <| And.intro @not_or <| And.intro @exists_eq_left.{1} <| @exists_eq_left'.{1}
end Vc
end Go.Proofs.YtccjjcdjgibilaaGreatDoor
