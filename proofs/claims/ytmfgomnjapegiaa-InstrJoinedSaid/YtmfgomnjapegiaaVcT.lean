/- The generator is sound; triples over code; loops, calls, ends. -/
import Derived.Test.YtmfgomnjapegiaaVcEx
namespace Go.Proofs.Ytmfgomnjapegiaa
namespace Vc
open Go.RowKit
set_option linter.unusedVariables false
set_option linter.unusedSimpArgs false

theorem look_del {ds : List Nat} {n : Nat} (hn : n ∉ ds) : ∀ (R : List (Nat × Res)), look (del R ds) n = look R n
  | [] => rfl
  | (m, r) :: R => by
    have ih := look_del hn R
    by_cases hm : m ∈ ds
    · have : del ((m, r) :: R) ds = del R ds := by unfold del; rw [List.filter_cons_of_neg (by simpa using hm)]
      rw [this, ih]
      simp only [look]
      rw [if_neg (fun e => hn (by rw [← e]; exact hm))]
    · have : del ((m, r) :: R) ds = (m, r) :: del R ds := by unfold del; rw [List.filter_cons_of_pos (by simpa using hm)]
      rw [this]
      simp only [look, ih]
theorem castL_self : ∀ (k : Kd) (l : List k.ty), castL k k l = some l := by
  intro k l; cases k <;> simp [castL]
theorem del_upd (R : List (Nat × Res)) (m : Nat) (r : Res) : del (upd R m r) [m] = del R [m] := by
  simp [upd, del, List.filter_filter]

theorem rdAll_sound {c : Cx} {S : St} {ρ : Env} {a : Act} {w : World} (hh : S.holds c ρ a w) : ∀ {xs : List Operand} {p : Prop} {vs : List S1}, rdAll S (xs.map opd) = some (p, vs) → p → xs.map a.eval = vs.map (S1.den ρ)
  | [], p, vs, h, hp => by cases h; rfl
  | x :: xs, p, vs, h, hp => by
    simp only [List.map_cons, rdAll] at h
    split at h
    · rename_i q v r l h1 h2
      cases h
      obtain ⟨e1, _⟩ := rd_sound hh h1 hp.1
      have e2 := rdAll_sound hh h2 hp.2
      simp only [List.map_cons, e1, e2]
    · cases h

theorem bsl_run {c : Cx} {S : St} {ρ : Env} {a : Act} {w : World} (hh : S.holds c ρ a w) {t e m : Nat} {parts : Array (Nat × Operand)} {i : TypeInfo} {z : Value} {ps : List (Nat × Nat × Opd)}
    (ht : c.P.underlying t = some (.slice e)) (hi : c.P.info? e = some i) (hz : i.zero = some z) (hm : m * i.size ≤ 1024 ∧ 0 < m * i.size ∧ z.cells.size = i.size ∧ okV z = true)
    (hps : partsOf ((List.range m).map fun q => (q * i.size, i.size)) parts.toList = some ps) {p : Prop} {l : List At} (h : rdParts S ps ((List.replicate m (z.cells.toList.map atV)).flatten) = some (p, l)) (hp : p) :
    (Instr.buildSlice t m (parts.map fun (i, x) => (i, a.eval x))).run c.P w = .ok (.slice (some ⟨w.heap.size, 0, none⟩) m m) (w.alloc (.cells (l.map (At.den ρ)).toArray e)) ∧ (∀ u ∈ l, u.bd S.nx) ∧ l.length = m * i.size := by
  have hbd : ∀ u ∈ (List.replicate m (z.cells.toList.map atV)).flatten, u.bd S.nx := fun u hu => by
    obtain ⟨y, hy, huy⟩ := List.mem_flatten.1 hu
    rw [List.mem_replicate] at hy
    rw [hy.2] at huy
    obtain ⟨x, hx, rfl⟩ := List.mem_map.1 huy
    exact atV_bd _ _ (List.all_eq_true.1 hm.2.2.2 x hx)
  have hpos : 0 < i.size := Nat.pos_of_mul_pos_left hm.2.1
  have hplace : ∀ (k : Nat), ((List.range m).map fun q => (q * i.size, i.size))[k]? = if k < m then some (k * i.size, i.size) else none := by
    intro k
    rw [List.getElem?_map]
    by_cases hk : k < m
    · simp [hk]
    · simp [hk]
  have hfill := fillAt_sound (fun k => some (k * i.size, i.size)) hh _ (fun k q hq => by rw [hplace] at hq; split at hq <;> first | exact hq | cases hq) parts.toList ps _ l p hps h hp hbd
  have hrd : ∀ {ps : List (Nat × Nat × Opd)} {l l' : List At} {p : Prop}, rdParts S ps l = some (p, l') → l'.length = l.length := by
    intro ps
    induction ps with
    | nil => intro l l' p h; cases h; rfl
    | cons x ps ih =>
      intro l l' p h
      obtain ⟨o, z, x⟩ := x
      simp only [rdParts] at h
      split at h
      · split at h
        · rename_i hl
          split at h
          · rename_i hr
            cases h
            rw [ih hr, putAt_length _ _ _ (by rw [hl.1]; exact hl.2)]
          · cases h
        · cases h
      · cases h
  have hlen : l.length = m * i.size := by
    rw [hrd h]
    simp [hm.2.2.1]
  refine ⟨?_, hfill.2, hlen⟩
  have hzero : ((List.replicate m (z.cells.toList.map atV)).flatten.map (At.den ρ)).toArray = (Array.range (m * i.size)).map (z.cells[· % z.cells.size]!) := by
    apply Array.ext_getElem?
    intro q
    have hd : ((List.replicate m (z.cells.toList.map atV)).flatten.map (At.den ρ)) = (List.replicate m z.cells.toList).flatten := by
      rw [List.map_flatten, List.map_replicate, map_atV]
    rw [List.getElem?_toArray, hd]
    have key : ∀ m q, q < m * i.size → (List.replicate m z.cells.toList).flatten[q]? = some z.cells[q % z.cells.size]! := by
      intro m
      induction m with
      | zero => intro q hq; simp at hq
      | succ m ih =>
        intro q hq
        rw [List.replicate_succ, List.flatten_cons]
        by_cases hqs : q < i.size
        · rw [List.getElem?_append_left (by simpa [hm.2.2.1] using hqs)]
          rw [Nat.mod_eq_of_lt (by rw [hm.2.2.1]; exact hqs)]
          have : q < z.cells.size := by rw [hm.2.2.1]; exact hqs
          simp [this]
        · rw [List.getElem?_append_right (by simp [hm.2.2.1]; omega)]
          rw [Nat.succ_mul] at hq
          have hl : z.cells.toList.length = i.size := by simp [hm.2.2.1]
          rw [hl, ih (q - i.size) (by omega)]
          congr 2
          rw [hm.2.2.1]
          exact (Nat.mod_eq_sub_mod (by omega)).symm
    by_cases hq : q < m * i.size
    · rw [key m q hq]
      simp [hq]
    · rw [List.getElem?_eq_none (by simp [hm.2.2.1]; omega)]
      simp [hq]
  rw [hzero] at hfill
  unfold Instr.buildSlice
  have hne : m * i.size ≠ 0 := by omega
  have hle : ¬ (m * i.size > 2 ^ 24) := by omega
  have e2 : (parts.map fun (i, x) => (i, a.eval x)).toList = parts.toList.map fun x => (x.1, a.eval x.2) := by simp
  simp only [Sem.run_bind, run_underlying ht, Result.andThen_ok, sizeOf, typeInfo, program, Sem.run, hi, Sem.run_pure, hle, if_false, hne, run_zeroValue hi hz]
  have hf := hfill.1
  rw [e2]
  rw [hf]
  simp only [newRow, newObj, Sem.run_bind, Sem.run, Result.andThen_ok, Sem.run_pure, World.alloc]


theorem upon_of_run {P : Program} {o : Oper} {a : Act} {w w' : World} {v : Value} {next : Act → World → Prop} {Q : Exit → Act → World → Prop} (h : (execOp a.eval o).run P w = .ok (.value v) w') (hn : next (a.put o.dst v) w') : o.wp P a w next Q := by
  unfold Oper.wp; rw [h]; exact hn
theorem upon_of_skip {P : Program} {o : Oper} {a : Act} {w w' : World} {next : Act → World → Prop} {Q : Exit → Act → World → Prop} (h : (execOp a.eval o).run P w = .ok .skip w') (hn : next (a.put o.dst undef) w') : o.wp P a w next Q := by
  unfold Oper.wp; rw [h]; exact hn

theorem run_v_w {P : Program} {w w' : World} {s : Sem Value} {v : Value} (h : s.run P w = .ok v w') : (do pure (.value (← s)) : Sem Next).run P w = .ok (.value v) w' := by
  rw [Sem.run_bind, h, Result.andThen_ok, Sem.run_pure]
theorem noV_den (ρ : Env) : noV.den ρ = undef := rfl
theorem noV_bd (n : Nat) : noV.bd n := fun h => by cases h

theorem st_sound {c : Cx} {S : St} {ρ : Env} {a : Act} {w : World} (hh : S.holds c ρ a w) {o : Oper} {i : I} (hc : compI c.P o = some i) (hd : ∀ t, o.dst = some t → t < c.nt) {K : St → Prop} (hs : st c S o.dst i K)
    {next : Act → World → Prop} {Q : Exit → Act → World → Prop} (hn : ∀ S' ρ' a' w', K S' → S'.holds c ρ' a' w' → next a' w') : o.wp c.P a w next Q := by
  have hcc := hc
  unfold compI at hc
  split at hc
  · cases hc; cases hs
  · cases hc; cases hs
  · -- pick
    rename_i cc x y ho
    cases hc
    simp only [st] at hs
    split at hs
    · rename_i p g hrd
      obtain ⟨hp, h1, h2⟩ := hs
      obtain ⟨e1, _⟩ := rd_sound hh hrd hp
      cases g
      · have h2' := h2 rfl
        split at h2'
        · rename_i q v hrd2
          obtain ⟨e2, hb⟩ := rd_sound hh hrd2 h2'.1
          refine upon_of_run (w' := w) (v := v.den ρ) ?_ (hn _ _ _ _ h2'.2 (hh.put_same hd (v := .one v) hb))
          have e1' : a.eval cc = .bool false := e1
          unfold execOp; simp only [ho, e1', asBool, Sem.run_bind, Sem.run_pure, Result.andThen_ok, Bool.false_eq_true, if_false, e2]
        · exact h2'.elim
      · have h1' := h1 rfl
        split at h1'
        · rename_i q v hrd2
          obtain ⟨e2, hb⟩ := rd_sound hh hrd2 h1'.1
          refine upon_of_run (w' := w) (v := v.den ρ) ?_ (hn _ _ _ _ h1'.2 (hh.put_same hd (v := .one v) hb))
          have e1' : a.eval cc = .bool true := e1
          unfold execOp; simp only [ho, e1', asBool, Sem.run_bind, Sem.run_pure, Result.andThen_ok, if_true, e2]
        · exact h1'.elim
    · exact hs.elim
  · (repeat' split at hc) <;> first | (cases hc; done) | (cases hc; cases hs)
  · cases hc; cases hs
  · -- convert
    rename_i sT dT x ho
    split at hc
    · cases hc; cases hs
    · rename_i e hsT hdT
      split at hc
      · rename_i heT
        cases hc
        simp only [st] at hs
        split at hs
        · rename_i p l hrd
          obtain ⟨e1, hb⟩ := rd_sound hh hrd hs.1
          obtain ⟨v, w', g1, g2⟩ := hh.mem.newBytes l hsT hdT heT
          have hput := hh.put (setE_same ρ S.nx v) (Nat.le_succ _) g2 hd (v := .one (.a (.ref S.nx))) (Nat.lt_succ_self _)
          have hden : (SV.one (.a (.ref S.nx))).den (setE ρ S.nx v) = v := by simp only [SV.den, S1.den, At.den, setE_self]
          rw [hden] at hput
          refine upon_of_run ?_ (hn _ _ _ _ hs.2 hput)
          unfold execOp; simp only [ho]
          refine run_v_w ?_
          rw [e1]; exact g1
        · exact hs.elim
      · cases hc
    · cases hc
  · split at hc <;> cases hc; cases hs
  · split at hc
    · split at hc
      · split at hc
        · split at hc <;> cases hc; cases hs
        · cases hc
      · cases hc
    · cases hc
  · split at hc
    · split at hc <;> cases hc; cases hs
    · cases hc
  · split at hc <;> cases hc; cases hs
  · split at hc
    · split at hc
      · split at hc <;> cases hc; cases hs
      · cases hc
    · cases hc
  · cases hc; cases hs
  · split at hc
    · split at hc
      · split at hc
        · split at hc <;> cases hc; cases hs
        · cases hc
      · cases hc
    · cases hc
  · -- alloc
    rename_i E ho
    split at hc
    · rename_i j hi
      split at hc
      · rename_i z hz
        split at hc
        · rename_i hok
          cases hc
          simp only [st] at hs
          have hbd : ∀ u ∈ z.cells.toList.map atV, u.bd S.nx := fun u hu => by
            obtain ⟨x, hx, rfl⟩ := List.mem_map.1 hu
            exact atV_bd _ _ (List.all_eq_true.1 hok x hx)
          have hm := hh.mem.newCells E hbd
          have hput := hh.put (setE_same ρ S.nx _) (Nat.le_succ _) hm hd (v := .one (.a (.loc S.nx 0))) (Nat.lt_succ_self _)
          have hden : (SV.one (.a (.loc S.nx 0))).den (setE ρ S.nx (.pointer (some ⟨w.heap.size, 0, none⟩))) = .pointer (some ⟨w.heap.size, 0, none⟩) := by
            simp only [SV.den, S1.den, At.den, setE_self, locV]
          rw [hden] at hput
          refine upon_of_run ?_ (hn _ _ _ _ hs hput)
          unfold execOp; simp only [ho]
          refine run_v_w ?_
          unfold Instr.alloc
          simp only [Sem.run_bind, run_zeroValue hi hz, Result.andThen_ok, newVar, newRow, newObj, Sem.run, Sem.run_pure, map_atV]
          rfl
        · cases hc
      · cases hc
    · cases hc
  · -- box
    rename_i E x ho
    cases hc
    simp only [st] at hs
    split at hs
    · rename_i p v hrd
      obtain ⟨e1, hb⟩ := rd_sound hh hrd hs.1
      have hm := hh.mem.newCells E (cells_bd hb)
      have hput := hh.put (setE_same ρ S.nx _) (Nat.le_succ _) hm hd (v := .one (.a (.loc S.nx 0))) (Nat.lt_succ_self _)
      have hden : (SV.one (.a (.loc S.nx 0))).den (setE ρ S.nx (.pointer (some ⟨w.heap.size, 0, none⟩))) = .pointer (some ⟨w.heap.size, 0, none⟩) := by
        simp only [SV.den, S1.den, At.den, setE_self, locV]
      rw [hden] at hput
      refine upon_of_run ?_ (hn _ _ _ _ hs.2 hput)
      unfold execOp; simp only [ho]
      refine run_v_w ?_
      unfold Instr.box
      simp only [Sem.run_bind, Result.andThen_ok, newVar, newRow, newObj, Sem.run, Sem.run_pure, e1, cells_den hh.mem.one hb]
      rfl
    · exact hs.elim
  · -- store
    rename_i t x v ho
    split at hc
    · rename_i j hi
      cases hc
      have fin : ∀ {R' : List (Nat × Res)} {w' : World}, (Instr.storeAt t (a.eval x) (a.eval v)).run c.P w = .ok () w' → Mem c ρ R' S.nx w' → K (St.put ⟨S.slots, R', S.nx⟩ o.dst noV) → o.wp c.P a w next Q := by
        intro R' w' hrun hm hK
        refine upon_of_skip (w' := w') ?_ (hn _ _ _ _ hK (by have := hh.put (fun _ _ => rfl) (Nat.le_refl _) hm hd (noV_bd _); rwa [noV_den] at this))
        unfold execOp; simp only [ho, Sem.run_bind, hrun, Result.andThen_ok, Sem.run_pure]
      simp only [st] at hs
      split at hs
      · rename_i p m oo q u h1 h2
        split at hs
        · rename_i E l hf
          obtain ⟨hp, hq, hlen, hK⟩ := hs
          obtain ⟨e1, _⟩ := rd_sound hh h1 hp
          obtain ⟨e2, hb⟩ := rd_sound hh h2 hq
          obtain ⟨w', g1, g2⟩ := hh.cellsStore hf hi hb hlen
          exact fin (by rw [e1, e2]; exact g1) g2 hK
        · exact hs.elim
      · rename_i p m sz ii jj q u h1 h2
        split at hs
        · rename_i E k l hf
          split at hs
          · rename_i hsz
            subst hsz
            split at hs
            · rename_i y hy
              obtain ⟨hp, hq, hlt, hlen, henc, hK⟩ := hs
              obtain ⟨e1, _⟩ := rd_sound hh h1 hp
              obtain ⟨e2, hb⟩ := rd_sound hh h2 hq
              obtain ⟨w', g1, g2⟩ := hh.rowStore hf hi hb hlt hlen henc
              exact fin (by rw [e1, e2]; exact g1) g2 hK
            · exact hs.elim
          · exact hs.elim
        · rename_i E z e l hf
          split at hs
          · rename_i hsz
            subst hsz
            obtain ⟨hp, hq, hlen, hK⟩ := hs
            obtain ⟨e1, _⟩ := rd_sound hh h1 hp
            obtain ⟨e2, hb⟩ := rd_sound hh h2 hq
            obtain ⟨w', g1, g2⟩ := hh.litStore (q := 0) hf hi hb hlen
            exact fin (by rw [e1, e2]; exact g1) g2 hK
          · exact hs.elim
        · exact hs.elim
      · exact hs.elim
    · cases hc
  · -- buildSlice
    rename_i t m parts ho
    split at hc
    · rename_i e ht
      split at hc
      · rename_i j hi
        split at hc
        · rename_i z hz
          split at hc
          · rename_i h0
            cases hc
            simp only [st] at hs
            have hm := hh.mem.newLit e j.size 0 (l := []) (fun u hu => nomatch hu) (by simp)
            have hput := hh.put (setE_same ρ S.nx _) (Nat.le_succ _) hm hd (v := .one (.a (.ref S.nx))) (Nat.lt_succ_self _)
            have hden : (SV.one (.a (.ref S.nx))).den (setE ρ S.nx (.slice (some ⟨w.heap.size, 0, none⟩) 0 0)) = .slice (some ⟨w.heap.size, 0, none⟩) 0 0 := by
              simp only [SV.den, S1.den, At.den, setE_self]
            rw [hden] at hput
            refine upon_of_run ?_ (hn _ _ _ _ hs hput)
            unfold execOp; simp only [ho]
            refine run_v_w ?_
            have e2 : (parts.map fun (i, x) => (i, a.eval x)).toList = [] := by simp [h0.2]
            obtain ⟨rfl, _⟩ := h0
            unfold Instr.buildSlice
            simp only [Sem.run_bind, run_underlying ht, Result.andThen_ok, sizeOf, typeInfo, program, Sem.run, hi, Sem.run_pure, Nat.zero_mul, if_true, e2]
            simp [Instr.fill, newRow, newObj, Sem.run_bind, Sem.run, Sem.run_pure, World.alloc_eq, Array.range_zero']
          rename_i h0
          split at hc
          · rename_i hm'
            split at hc
            · rename_i ps hps
              cases hc
              simp only [st] at hs
              split at hs
              · rename_i p l hrd
                obtain ⟨g1, g2, g3⟩ := bsl_run hh ht hi hz hm' hps hrd hs.1
                have hm := hh.mem.newLit e j.size m g2 g3
                have hput := hh.put (setE_same ρ S.nx _) (Nat.le_succ _) hm hd (v := .one (.a (.ref S.nx))) (Nat.lt_succ_self _)
                have hden : (SV.one (.a (.ref S.nx))).den (setE ρ S.nx (.slice (some ⟨w.heap.size, 0, none⟩) m m)) = .slice (some ⟨w.heap.size, 0, none⟩) m m := by
                  simp only [SV.den, S1.den, At.den, setE_self]
                rw [hden] at hput
                refine upon_of_run ?_ (hn _ _ _ _ hs.2 hput)
                unfold execOp; simp only [ho]
                exact run_v_w g1
              · exact hs.elim
            · cases hc
          · cases hc
        · cases hc
      · cases hc
    · cases hc
  · -- call
    rename_i cl ho
    split at hc
    · rename_i f hcal
      split at hc
      · rename_i fn hfn
        split at hc
        · cases hc
        · rename_i hnot
          cases hc
          simp only [st] at hs
          split at hs
          · rename_i p vs hrd
            obtain ⟨hp, hcall⟩ := hs
            have hargs := rdAll_sound hh hrd hp
            have hrun : (execOp a.eval o).run c.P w = .ok (.enter f (vs.map (S1.den ρ)).toArray) w := by
              have hargs' : cl.args.map a.eval = (vs.map (S1.den ρ)).toArray := by
                rw [← hargs, ← Array.toList_map]
              simp only [Bool.or_eq_true, not_or, Bool.not_eq_true] at hnot
              unfold execOp
              simp only [ho, resolve, hcal, Act.eval, Deferred.ofValue, Sem.run_bind, Sem.run_pure, Result.andThen_ok, invoke, callFunc, program, Sem.run, hfn, hnot.1, hnot.2]
              simp [Sem.run_pure, hargs']
            unfold Oper.wp
            rw [hrun]
            refine (hcall ρ a w hh).mono ?_
            rintro e w' ⟨v, ρ', S', rfl, hvb, hS', hK⟩
            exact hn _ _ _ _ hK (hS'.put_same hd hvb)
          · exact hs.elim
      · cases hc
    · split at hc
      · split at hc <;> cases hc <;> cases hs
      · cases hc
    · split at hc
      · rename_i hcal _ _ x y t u hx ht'
        split at hc
        · rename_i htu
          subst htu
          split at hc
          · rename_i E ht
            split at hc
            · rename_i j hi
              split at hc
              · rename_i z hz
                split at hc
                · rename_i hzz
                  cases hc
                  have ea : cl.args = #[x, y] := by rw [← hx]
                  have et : cl.argTypes = #[t, t] := by rw [← ht']
                  simp only [st] at hs
                  split at hs
                  · rename_i p m q uu h1 h2
                    split at hs
                    · rename_i E' k l hf
                      split at hs
                      · rename_i hE
                        obtain ⟨rfl, hsz⟩ := hE
                        split at hs
                        · rename_i r l' ds happ
                          obtain ⟨hp, hq, hr, hdm, hby, hK⟩ := hs
                          obtain ⟨e1, _⟩ := rd_sound hh h1 hp
                          obtain ⟨e2, _⟩ := rd_sound hh h2 hq
                          obtain ⟨v, w', g1, g2⟩ := hh.append (ty := o.type) hf ht hi hz hzz.1 hsz happ hr hby
                          have hput := hh.put (setE_same ρ S.nx v) (Nat.le_succ _) g2 hd (v := .one (.a (.ref S.nx))) (Nat.lt_succ_self _)
                          have hden : (SV.one (.a (.ref S.nx))).den (setE ρ S.nx v) = v := by simp only [SV.den, S1.den, At.den, setE_self]
                          rw [hden] at hput
                          refine upon_of_run ?_ (hn _ _ _ _ hK hput)
                          unfold execOp
                          simp only [ho, resolve, hcal, ea, et, Sem.run_bind, Sem.run_pure, Result.andThen_ok, invoke, builtin, List.map_toArray, List.map_cons, List.map_nil, e1, e2, g1]
                        · exact hs.elim
                      · exact hs.elim
                    · rename_i E' z0 hf
                      split at hs
                      · rename_i hE
                        obtain ⟨rfl, hz0⟩ := hE
                        split at hs
                        · rename_i k l' happ
                          obtain ⟨hsz, hp, hq, hby, hK⟩ := hs
                          obtain ⟨e1, _⟩ := rd_sound hh h1 hp
                          obtain ⟨e2, _⟩ := rd_sound hh h2 hq
                          have hh2 := hh.litRow hf k [] rfl rfl (by rw [hz0]; exact hsz) (by decide)
                          have hf2 : (St.mk S.slots (upd S.res m (.row E' k [])) S.nx).find m = some (.row E' k []) := by simp [St.find, upd, look]
                          have happ2 : appended (St.mk S.slots (upd S.res m (.row E' k [])) S.nx) E' j.size k uu = some (True, l', []) := by
                            unfold appended0 at happ
                            split at happ
                            · rename_i m2 _
                              have hfind : m2 ≠ m → (St.mk S.slots (upd S.res m (.row E' k [])) S.nx).find m2 = S.find m2 := fun hne => by
                                simp only [St.find, upd, look]
                                rw [if_neg (fun e => hne e.symm), look_del (by simpa using hne)]
                              have hne : ∀ {r}, S.find m2 = some r → (∀ a b c d, r ≠ .lit a b c d) → m2 ≠ m := fun hr hnl e => by
                                rw [e, hf] at hr; cases hr; exact hnl _ _ _ _ rfl
                              split at happ
                              · rename_i k2 l2 hf3
                                cases happ
                                simp only [appended, hfind (hne hf3 (by simp)), hf3, castL_self]
                              · rename_i E3 k2 l2 hf3
                                cases happ
                                simp only [appended, hfind (hne hf3 (by simp)), hf3, castL_self]
                              · cases happ
                            · cases happ
                          obtain ⟨v, w', g1, g2⟩ := hh2.append (ty := o.type) hf2 ht hi hz hzz.1 hsz happ2 trivial (by simpa using hby)
                          simp only [del_upd, List.nil_append] at g2
                          have hput := hh.put (setE_same ρ S.nx v) (Nat.le_succ _) g2 hd (v := .one (.a (.ref S.nx))) (Nat.lt_succ_self _)
                          have hden : (SV.one (.a (.ref S.nx))).den (setE ρ S.nx v) = v := by simp only [SV.den, S1.den, At.den, setE_self]
                          rw [hden] at hput
                          refine upon_of_run ?_ (hn _ _ _ _ hK hput)
                          unfold execOp
                          simp only [ho, resolve, hcal, ea, et, Sem.run_bind, Sem.run_pure, Result.andThen_ok, invoke, builtin, List.map_toArray, List.map_cons, List.map_nil, e1, e2, g1]
                        · exact hs.elim
                      · exact hs.elim
                    · exact hs.elim
                  · exact hs.elim
                · cases hc
              · cases hc
            · cases hc
          · cases hc
        · cases hc
      · cases hc
    · cases hc
  · split at hc <;> cases hc; cases hs
  · cases hc

/-! ### lists of operations -/
theorem gdc_sound {c : Cx} {S : St} {ρ : Env} {a : Act} {w : World} (hh : S.holds c ρ a w) {ops : Array Oper} {o : Oper} {j t : Nat} {want b : Bool} (hg : o.guard = some (j, want)) (hj : (ops[j]?).bind (·.dst) = some t)
    (h : gdc S (t, want) = some b) : Region.wanted o (yielded ops a.tmps) = b := by
  have hy : ∀ v : Value, a.tmps[t]? = some v → yielded ops a.tmps j = match v with | .bool b => some b | _ => none := by
    intro v hv
    unfold yielded
    rw [hj, Option.bind_some, hv]
    cases v <;> rfl
  unfold Region.wanted
  simp only [hg]
  unfold gdc at h
  split at h
  · rename_i b' hget
    cases h
    rw [hy _ (hh.slot _ _ hget)]
    simp only [SV.den, S1.den, At.den]
    cases b' <;> cases want <;> rfl
  · rename_i g b' hget
    cases h
    rw [hy _ (hh.slot _ _ hget)]
    simp only [SV.den, S1.den, At.den]
    cases g <;> cases b' <;> cases want <;> rfl
  · cases h

theorem compIn_spec {P : Program} {nt : Nat} {ops : Array Oper} {o : Oper} {x : In} (h : compIn P nt ops o = some x) :
    compI P o = some x.i ∧ x.d = o.dst ∧ (∀ t, o.dst = some t → t < nt) ∧ (match x.g with | none => o.guard = none | some (t, b) => ∃ j, o.guard = some (j, b) ∧ (ops[j]?).bind (·.dst) = some t) := by
  unfold compIn at h
  split at h
  · cases h
  · rename_i i hi
    split at h
    · rename_i hd
      have hd' : ∀ t, o.dst = some t → t < nt := by
        intro t ht; rw [ht] at hd; simpa [dstOk] using hd
      split at h
      · rename_i hg
        cases h
        exact ⟨hi, rfl, hd', hg⟩
      · rename_i j b hg
        split at h
        · rename_i t ht
          cases h
          exact ⟨hi, rfl, hd', j, hg, ht⟩
        · cases h
    · cases h

theorem ex_sound {c : Cx} {ops : Array Oper} {Q : Exit → Act → World → Prop} : ∀ (ol : List Oper) (il : List In), ol.mapM (compIn c.P c.nt ops) = some il → ∀ (K : St → Prop), (∀ S' ρ' a' w', K S' → S'.holds c ρ' a' w' → Q .normal a' w') →
    ∀ S ρ a w, ex c il S K → S.holds c ρ a w → wpList c.P ops Q ol a w
  | [], il, hm, K, hK, S, ρ, a, w, hx, hh => by
    rw [List.mapM_nil] at hm
    cases hm
    exact hK _ _ _ _ hx hh
  | o :: ol, il, hm, K, hK, S, ρ, a, w, hx, hh => by
    rw [List.mapM_cons] at hm
    cases h1 : compIn c.P c.nt ops o with
    | none => simp [h1] at hm
    | some x =>
      cases h2 : ol.mapM (compIn c.P c.nt ops) with
      | none => simp [h1, h2] at hm
      | some il' =>
        simp [h1, h2] at hm
        subst hm
        obtain ⟨hc, hdst, hd, hg⟩ := compIn_spec h1
        obtain ⟨g, d, i⟩ := x
        simp only at hc hdst hg
        subst hdst
        have ih : ∀ S' ρ' a' w', ex c il' S' K → S'.holds c ρ' a' w' → wpList c.P ops Q ol a' w' := fun S' ρ' a' w' h1 h3 => ex_sound ol il' h2 K hK S' ρ' a' w' h1 h3
        unfold wpList
        cases g with
        | none =>
          simp only at hg
          have hw : Region.wanted o (yielded ops a.tmps) = true := by simp [Region.wanted, hg]
          rw [if_pos hw]
          refine .inl ?_
          unfold ex at hx
          split at hx
          · rename_i p v hev
            obtain ⟨g1, g2⟩ := ev_sound hh hc hev hx.1
            exact upon_of_run g1 (ih _ _ _ _ hx.2 (hh.put_same hd g2))
          · exact st_sound hh hc hd hx ih
        | some g =>
          obtain ⟨t, want⟩ := g
          obtain ⟨j, hgd, hj⟩ := hg
          unfold ex at hx
          split at hx
          · exact hx.elim
          · rename_i b hgdc
            have hw := gdc_sound hh hgd hj hgdc
            split at hx
            · rename_i p v hev
              cases b with
              | true =>
                rw [if_pos hw]
                obtain ⟨g1, g2⟩ := ev_sound hh hc hev (hx.1 rfl)
                exact .inl (upon_of_run g1 (ih _ ρ _ _ hx.2 (hh.put_same hd (v := .opt true v) fun _ => g2)))
              | false =>
                rw [if_neg (by rw [hw]; decide)]
                exact ih _ _ _ _ hx.2 (hh.put_same hd (v := .opt false v) fun h => by cases h)
            · have plain : (b = true → st c S o.dst i fun S' => ex c il' S' K) ∧ (b = false → ex c il' (S.put o.dst noV) K) → (if Region.wanted o (yielded ops a.tmps) then o.wp c.P a w (wpList c.P ops Q ol) Q ∨ (o.asks c.P a w ∧ LetsOut Q) else wpList c.P ops Q ol (a.put o.dst undef) w) := by
                intro hx
                cases b with
                | true =>
                  rw [if_pos hw]
                  exact .inl (st_sound hh hc hd (hx.1 rfl) ih)
                | false =>
                  rw [if_neg (by rw [hw]; decide)]
                  exact ih _ ρ _ _ (hx.2 rfl) (by have := hh.put_same hd (noV_bd S.nx); rwa [noV_den] at this)
              cases i with
              | call f args =>
                simp only [gst] at hx
                split at hx
                · rename_i p vs hrd
                  obtain ⟨hp, hg⟩ := hx
                  obtain ⟨h1, h2⟩ := hg ρ a w hh
                  cases b with
                  | true =>
                    rw [if_pos hw]
                    refine .inl (st_sound (K := fun S' => ex c il' S' K) hh hc hd ?_ ih)
                    simp only [st, hrd]
                    refine ⟨hp rfl, fun ρ2 a2 w2 hh2 => ?_⟩
                    exact (hg ρ2 a2 w2 hh2).1 rfl
                  | false =>
                    rw [if_neg (by rw [hw]; decide)]
                    obtain ⟨v, hvb, hvd, hK2⟩ := h2 rfl
                    have := hh.put_same hd hvb
                    rw [hvd] at this
                    exact ih _ ρ _ _ hK2 this
                · exact hx.elim
              | _ => exact plain hx
end Vc
end Go.Proofs.Ytmfgomnjapegiaa
