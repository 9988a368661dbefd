/- Operations, part 2: making, loading, storing. -/
import Derived.Test.YtjciabbnncidjaaGreatAbOps1
set_option linter.unusedSimpArgs false
set_option linter.unusedVariables false
namespace Go.Ab
open Go
section
variable {P : Program} {o : Oper} {a : Act} {E : Wh} {m : Mem} {w : World} {ρ : Env}

theorem goes_move [Pins] (hS : Sim E m w) (hρ : ERel E ρ a.tmps.toList) {x : Operand} (ho : o.op = .move x ∨ o.op = .assign x) : Goes P o a E m w (opd ρ x) ρ m := by
  refine goes_pure hS hρ ?_ (opd_rel hρ x)
  rcases ho with ho | ho <;> simp [execOp, ho]
theorem goes_var [Pins] {t : TypeId} {z : List Value} {vs : List V} {cs : List Value} {b : Blk} (hS : Sim E m w) (hρ : ERel E ρ a.tmps.toList) (hb : varBlk P t z vs = some b) (hl : vs.length = z.length)
    (hv : VsRel E vs cs) (h1 : ∀ u ∈ cs, u.oneCell' = true) (hr : (execOp a.eval o).run P w = .ok (.value (.pointer (some ⟨w.heap.size, 0, none⟩))) (w.alloc (.cells cs.toArray t))) :
    GoesN P o a E m w (.ptr m.length 0 0) b := by
  unfold varBlk at hb
  split at hb
  · rename_i hc
    rw [Bool.and_eq_true] at hc
    have hle := Nat.le_of_ble_eq_true hc.2
    split at hb
    · rename_i b' hmb
      cases hb
      obtain ⟨c, rfl, hp, hl⟩ := mixBlk_spec hmb
      exact GoesN.col hS hρ hp (by rw [hl]; simp) (by rw [hl]; simp only [maxLen]; omega) (by rw [hl]; exact hv) h1 hr
    · exact GoesN.flat hS hρ hb (by simp) (by simp only [maxLen]; omega) hv h1 hr
  · exact GoesN.box hS hρ hb hl hv h1 hr
theorem goes_alloc [Pins] (hS : Sim E m w) (hρ : ERel E ρ a.tmps.toList) {t : TypeId} (ho : o.op = .alloc t) {z : List Value} {b : Blk} (hz : zeroCells P t = some z) (hb : varBlk P t z (z.map V.of1) = some b) :
    GoesN P o a E m w (.ptr m.length 0 0) b := by
  obtain ⟨i, zv, h1, h2, h3, _, h5⟩ := zeroCells_some hz
  refine goes_var hS hρ hb (by simp) zero_rel h5 ?_
  simp [execOp, ho, Instr.alloc, zeroValue, typeInfo, h1, h2, newVar, newRow, ← h3]
theorem goes_box [Pins] (hS : Sim E m w) (hρ : ERel E ρ a.tmps.toList) {t : TypeId} {x : Operand} (ho : o.op = .box t x) {z : List Value} {b : Blk} (hs : (opd ρ x).sto = true) (hl : (opd ρ x).cells.length = z.length)
    (hb : varBlk P t z (opd ρ x).cells = some b) : GoesN P o a E m w (.ptr m.length 0 0) b := by
  obtain ⟨h1, h2⟩ := sto_cells (opd_rel (a := a) hρ x) hs
  refine goes_var hS hρ hb hl h1 h2 ?_
  simp [execOp, ho, Instr.box, newVar, newRow]

/-! ### Structs and arrays -/
theorem lay_foldl [Pins] : ∀ (vs : List Value) (off n : Nat) (cells : Array Value), off + n + vs.length ≤ cells.size →
    ((vs.zipIdx n).foldl (fun cs (p : Value × Nat) => cs.setIfInBounds (off + p.2) p.1) cells).toList = cells.toList.take (off + n) ++ vs ++ cells.toList.drop (off + n + vs.length)
  | [], off, n, cells, _ => by simp
  | v :: vs, off, n, cells, h => by
    simp only [List.length_cons] at h
    simp only [List.zipIdx_cons, List.foldl_cons]
    rw [lay_foldl vs off (n + 1) _ (by simp; omega)]
    have := list_seg_step cells.toList (off + n) v vs (by simp; omega)
    simp only [Array.toList_setIfInBounds, Nat.add_assoc] at this ⊢
    simpa [Nat.add_assoc, Nat.add_comm, Nat.add_left_comm] using this
theorem fill_rel [Pins] {place : Nat → Option (Nat × Nat)} : ∀ {parts : List (Nat × V)} {cparts : List (Nat × Value)} {vs vs' : List V} {cells : Array Value}, fillV place vs parts = some vs' →
    VsRel E vs cells.toList → (∀ u ∈ cells.toList, u.oneCell' = true) → parts.map (·.1) = cparts.map (·.1) → VsRel E (parts.map (·.2)) (cparts.map (·.2)) →
    ∃ cells', Instr.fill place cells cparts = some cells' ∧ VsRel E vs' cells'.toList ∧ (∀ u ∈ cells'.toList, u.oneCell' = true)
  | [], cparts, vs, vs', cells, h, hv, h1, hi, _ => by
    simp only [fillV] at h
    cases h
    have : cparts = [] := by simpa using hi.symm
    subst this
    exact ⟨cells, rfl, hv, h1⟩
  | (i, v) :: parts, [], vs, vs', cells, h, hv, h1, hi, _ => by simp at hi
  | (i, v) :: parts, (i', c) :: cparts, vs, vs', cells, h, hv, h1, hi, hr => by
    simp only [List.map_cons, List.cons.injEq] at hi
    obtain ⟨rfl, hi⟩ := hi
    simp only [List.map_cons, VsRel] at hr
    obtain ⟨c', cs', hcc, hr1, hr2⟩ := hr
    simp only [List.cons.injEq] at hcc
    obtain ⟨rfl, rfl⟩ := hcc
    simp only [fillV] at h
    split at h
    · cases h
    · rename_i off size hp
      split at h
      · rename_i hs
        simp only [Bool.and_eq_true, beq_iff_eq] at hs
        split at h
        · rename_i hfit
          obtain ⟨g1, g2⟩ := sto_cells hr1 hs.1
          have hlen : c.cells.size = size := by have := g1.length; simp at this; omega
          have hcl : cells.size = vs.length := by have := hv.length; simp at this; omega
          have hfold := lay_foldl c.cells.toList off 0 cells (by simp; omega)
          have hz : c.cells.zipIdx.foldl (fun cs (p : Value × Nat) => cs.setIfInBounds (off + p.2) p.1) cells = (c.cells.toList.zipIdx 0).foldl (fun cs (p : Value × Nat) => cs.setIfInBounds (off + p.2) p.1) cells := by
            rw [← Array.foldl_toList, Array.toList_zipIdx]
          simp only [Nat.add_zero, Array.length_toList] at hfold
          have hrel : VsRel E (lay off v.cells vs) (cells.toList.take off ++ c.cells.toList ++ cells.toList.drop (off + c.cells.size)) := by
            unfold lay
            have := g1.length
            simp only [Array.length_toList] at this
            rw [this]
            exact ((hv.take off).app g1).app (hv.drop _)
          obtain ⟨cells', f1, f2, f3⟩ := fill_rel (cells := c.cells.zipIdx.foldl (fun cs (p : Value × Nat) => cs.setIfInBounds (off + p.2) p.1) cells) (cparts := cparts) h
            (by rw [hz, hfold]; exact hrel)
            (by
              rw [hz, hfold]
              intro u hu
              simp only [List.mem_append] at hu
              rcases hu with (hu | hu) | hu
              · exact h1 u (List.mem_of_mem_take hu)
              · exact g2 u hu
              · exact h1 u (List.mem_of_mem_drop hu))
            hi hr2
          refine ⟨cells', ?_, f2, f3⟩
          rw [Instr.fill, hp]
          simp only
          rw [if_neg (by simp [hlen]; omega)]
          exact f1
        · cases h
      · cases h
theorem built_rel [Pins] {t : TypeId} {parts : List (Nat × V)} {cparts : List (Nat × Value)} {v : V} (h : buildV P t parts = some v) (hi : parts.map (·.1) = cparts.map (·.1)) (hr : VsRel E (parts.map (·.2)) (cparts.map (·.2))) :
    ∃ cells, P.built t cparts = some cells ∧ VRel E v (.agg cells) := by
  unfold buildV at h
  split at h
  · rename_i z fs hz hu
    obtain ⟨it, zv, h1, h2, h3, _, h5⟩ := zeroCells_some hz
    split at h
    · rename_i places hp
      split at h
      · rename_i cs hf
        cases h
        obtain ⟨cells', f1, f2, f3⟩ := fill_rel (E := E) (cells := zv.cells) hf (by rw [h3]; exact zero_rel) (by rw [h3]; exact h5) hi hr
        refine ⟨cells', ?_, by simp only [VRel]; exact ⟨cells', rfl, f2, f3⟩⟩
        simp only [Program.built, h1, hu, h2, hp]
        simpa using f1
      · cases h
    · cases h
  · rename_i z n e hz hu
    obtain ⟨it, zv, h1, h2, h3, _, h5⟩ := zeroCells_some hz
    split at h
    · rename_i sz hsz
      split at h
      · rename_i cs hf
        cases h
        obtain ⟨cells', f1, f2, f3⟩ := fill_rel (E := E) (cells := zv.cells) hf (by rw [h3]; exact zero_rel) (by rw [h3]; exact h5) hi hr
        refine ⟨cells', ?_, by simp only [VRel]; exact ⟨cells', rfl, f2, f3⟩⟩
        unfold sizeT at hsz
        split at hsz
        · rename_i ie hie
          cases hsz
          simp only [Program.built, h1, hu, h2, hie]
          exact f1
        · cases hsz
      · cases h
    · cases h
  · cases h
theorem parts_rel [Pins] (hρ : ERel E ρ a.tmps.toList) (parts : Array (Nat × Operand)) :
    ((parts.toList.map fun p => (p.1, opd ρ p.2)).map (·.1) = ((parts.map fun (p : Nat × Operand) => (p.1, a.eval p.2)).toList).map (·.1)) ∧
    VsRel E ((parts.toList.map fun p => (p.1, opd ρ p.2)).map (·.2)) (((parts.map fun (p : Nat × Operand) => (p.1, a.eval p.2)).toList).map (·.2)) := by
  constructor
  · simp [List.map_map, Function.comp_def]
  · simp only [Array.toList_map, List.map_map, Function.comp_def]
    exact VsRel.map _ _ _ fun p _ => opd_rel hρ p.2
theorem goes_build [Pins] (hS : Sim E m w) (hρ : ERel E ρ a.tmps.toList) {t : TypeId} {parts : Array (Nat × Operand)} (ho : o.op = .build t parts) {v : V} (h : buildV P t (parts.toList.map fun p => (p.1, opd ρ p.2)) = some v) :
    Goes P o a E m w v ρ m := by
  obtain ⟨hi, hr⟩ := parts_rel (a := a) hρ parts
  obtain ⟨cells, h1, h2⟩ := built_rel h hi hr
  refine goes_pure hS hρ ?_ h2
  have := run_build w t (parts.map fun (p : Nat × Operand) => (p.1, a.eval p.2)) cells h1
  simp only [execOp, ho, Sem.run_bind, this, Result.andThen_ok, Sem.run_pure]

/-! ### Slices written out -/
theorem rowsOf_len [Pins] (zero : List V) (n : Nat) : ∀ (parts : List (Nat × V)) (rows : List (List V)), (parts.foldl (fun rows p => rows.set p.1 p.2.cells) rows).length = rows.length
  | [], rows => rfl
  | p :: parts, rows => by simp only [List.foldl_cons]; rw [rowsOf_len zero n parts]; simp
/-- Rows beside the flat cells that 'fill' lays. -/
theorem fill_rows [Pins] {size : Nat} : ∀ {parts : List (Nat × V)} {cparts : List (Nat × Value)} {rows : List (List V)} {crows : List (List Value)} {cells : Array Value}, cells.toList = crows.flatten → rows.length = crows.length →
    (∀ (j : Nat) (r : List V), rows[j]? = some r → ∃ cr, crows[j]? = some cr ∧ VsRel E r cr ∧ r.length = size ∧ ∀ u ∈ cr, u.oneCell' = true) →
    parts.map (·.1) = cparts.map (·.1) → VsRel E (parts.map (·.2)) (cparts.map (·.2)) → (∀ p ∈ parts, p.2.sto = true ∧ p.2.cells.length = size ∧ p.1 < rows.length) →
    ∃ crows' : List (List Value), Instr.fill (fun i => some (i * size, size)) cells cparts = some crows'.flatten.toArray ∧ rows.length = crows'.length ∧
      (∀ (j : Nat) (r : List V), (parts.foldl (fun rows p => rows.set p.1 p.2.cells) rows)[j]? = some r → ∃ cr, crows'[j]? = some cr ∧ VsRel E r cr ∧ r.length = size ∧ ∀ u ∈ cr, u.oneCell' = true)
  | [], cparts, rows, crows, cells, hc, hl, hrel, hi, _, _ => by
    have : cparts = [] := by simpa using hi.symm
    subst this
    exact ⟨crows, by simp [Instr.fill, ← hc], hl, hrel⟩
  | (i, v) :: parts, [], rows, crows, cells, hc, hl, hrel, hi, _, _ => by simp at hi
  | (i, v) :: parts, (i', c) :: cparts, rows, crows, cells, hc, hl, hrel, hi, hr, hp => by
    simp only [List.map_cons, List.cons.injEq] at hi
    obtain ⟨rfl, hi⟩ := hi
    simp only [List.map_cons, VsRel] at hr
    obtain ⟨c', cs', hcc, hr1, hr2⟩ := hr
    simp only [List.cons.injEq] at hcc
    obtain ⟨rfl, rfl⟩ := hcc
    obtain ⟨hs, hsz, hlt⟩ := hp (i, v) (by simp)
    simp only at hs hsz hlt
    obtain ⟨g1, g2⟩ := sto_cells hr1 hs
    have hcsz : c.cells.size = size := by have := g1.length; simp at this; omega
    have hcl : ∀ r ∈ crows, r.length = size := by
      intro cr hcr
      obtain ⟨j, hj, rfl⟩ := List.getElem_of_mem hcr
      obtain ⟨cr', q1, q2, q3, _⟩ := hrel j rows[j] (List.getElem?_eq_getElem (by omega))
      rw [List.getElem?_eq_getElem hj] at q1
      obtain rfl := Option.some.inj q1
      rw [← q3, q2.length]
    have hcells : cells.size = rows.length * size := by
      have := congrArg List.length hc
      rw [flat_len hcl] at this
      simp at this
      rw [hl]; exact this
    have hfit : i * size + size ≤ cells.size := by
      rw [hcells, ← Nat.succ_mul]; exact Nat.mul_le_mul_right _ hlt
    have hfold := lay_foldl c.cells.toList (i * size) 0 cells (by simp; omega)
    have hz : c.cells.zipIdx.foldl (fun cs (p : Value × Nat) => cs.setIfInBounds (i * size + p.2) p.1) cells = (c.cells.toList.zipIdx 0).foldl (fun cs (p : Value × Nat) => cs.setIfInBounds (i * size + p.2) p.1) cells := by
      rw [← Array.foldl_toList, Array.toList_zipIdx]
    simp only [Nat.add_zero, Array.length_toList] at hfold
    have hset : ∀ (rs : List (List Value)) (k : Nat) (x : List Value), (∀ r ∈ rs, r.length = size) → x.length = size → k < rs.length → (rs.set k x).flatten = rs.flatten.take (k * size) ++ x ++ rs.flatten.drop (k * size + size) := by
      intro rs
      induction rs with
      | nil => intro k x _ _ hk; simp at hk
      | cons r0 rs ih =>
        intro k x hrs hx hk
        have h0 : r0.length = size := hrs r0 (by simp)
        cases k with
        | zero => simp [h0]
        | succ k =>
          have := ih k x (fun r hr => hrs r (by simp [hr])) hx (by simpa using hk)
          simp only [List.set_cons_succ, List.flatten_cons, this]
          rw [show (k + 1) * size = r0.length + k * size by rw [h0, Nat.succ_mul]; omega, List.take_length_add_append, show r0.length + k * size + size = r0.length + (k * size + size) by omega, List.drop_length_add_append]
          simp only [List.append_assoc]
    obtain ⟨crows', f1, f2, f3⟩ := fill_rows (size := size) (parts := parts) (cparts := cparts) (rows := rows.set i v.cells) (crows := crows.set i c.cells.toList)
      (cells := c.cells.zipIdx.foldl (fun cs (p : Value × Nat) => cs.setIfInBounds (i * size + p.2) p.1) cells)
      (by rw [hz, hfold, hset crows i _ hcl (by simp [hcsz]) (by omega), hc, hcsz])
      (by simp [hl])
      (by
        intro j r hj
        by_cases hij : i = j
        · subst hij
          rw [List.getElem?_set_self hlt] at hj
          obtain rfl := Option.some.inj hj
          exact ⟨c.cells.toList, by rw [List.getElem?_set_self (by omega)], g1, hsz, g2⟩
        · rw [List.getElem?_set_ne hij] at hj
          obtain ⟨cr, q1, q2⟩ := hrel j r hj
          exact ⟨cr, by rw [List.getElem?_set_ne hij]; exact q1, q2⟩)
      hi hr2 (fun p hpp => by simpa using hp p (by simp [hpp]))
    refine ⟨crows', ?_, by simpa using f2, f3⟩
    rw [Instr.fill]
    simp only
    rw [if_neg (by simp [hcsz]; omega)]
    exact f1
theorem goes_buildSlice [Pins] (hS : Sim E m w) (hρ : ERel E ρ a.tmps.toList) {t e : TypeId} {n : Nat} {parts : Array (Nat × Operand)} (ho : o.op = .buildSlice t n parts) {z : List Value} {b : Blk} (he : elemT P t = some e) (hz : zeroCells P e = some z)
    (hn : n * z.length ≤ 16777216) (hp : ∀ p ∈ (parts.toList.map fun p => (p.1, opd ρ p.2)), p.2.sto = true ∧ p.2.cells.length = z.length ∧ p.1 < n)
    (hb : mkBlk e z (rowsOf (z.map V.of1) n (parts.toList.map fun p => (p.1, opd ρ p.2))) = some b) : GoesN P o a E m w (.sl m.length 0 none none) b := by
  obtain ⟨i, zv, h1, h2, h3, h4, h5⟩ := zeroCells_some hz
  obtain ⟨hi, hr⟩ := parts_rel (a := a) hρ parts
  have hu : P.underlying t = some (.slice e) := by
    unfold elemT at he
    split at he
    · cases he; assumption
    · cases he
  have hne : z ≠ [] := by
    have hms := mkBlk_spec hb
    intro hz0
    have : b.cols.length = 0 := by rw [hms.1, hz0]; rfl
    exact hms.2.1 (List.eq_nil_of_length_eq_zero this)
  have hzl : 0 < z.length := List.length_pos_iff.2 hne
  have hzvs : zv.cells.size = z.length := by rw [← h3]; simp
  have hflat : ∀ k : Nat, ((Array.range (k * z.length)).map (zv.cells[· % zv.cells.size]!)).toList = (List.replicate k z).flatten := by
    intro k
    apply List.ext_getElem
    · rw [flat_len (nc := z.length) (by intro r hr; rw [List.eq_of_mem_replicate hr])]; simp
    · intro j hj1 hj2
      have hj : j < k * z.length := by simpa using hj1
      have hd : j / z.length < k := Nat.div_lt_of_lt_mul (by rwa [Nat.mul_comm])
      have := flat_at (nc := z.length) (rows := List.replicate k z) (by intro r hr; rw [List.eq_of_mem_replicate hr]) (j / z.length) (j % z.length) z (by simp [List.getElem?_replicate, hd]) (Nat.mod_lt _ hzl)
      rw [Nat.mul_comm, Nat.div_add_mod] at this
      rw [List.getElem?_eq_getElem hj2] at this
      have hm := Nat.mod_lt j hzl
      rw [List.getElem?_eq_getElem hm] at this
      have h6 := Option.some.inj this
      rw [h6]
      simp only [Array.getElem_toList, Array.getElem_map, Array.getElem_range]
      have : z[j % z.length]'hm = zv.cells[j % zv.cells.size]! := by
        rw [hzvs, getElem!_pos zv.cells _ (by rw [hzvs]; exact hm)]
        simp [← h3]
      rw [this]
  obtain ⟨crows', f1, f2, f3⟩ := fill_rows (E := E) (size := z.length) (parts := parts.toList.map fun p => (p.1, opd ρ p.2)) (cparts := (parts.map fun (p : Nat × Operand) => (p.1, a.eval p.2)).toList)
    (rows := List.replicate n (z.map V.of1)) (crows := List.replicate n z) (cells := (Array.range (n * z.length)).map (zv.cells[· % zv.cells.size]!))
    (hflat n) (by simp)
    (by
      intro j r hj
      rw [List.getElem?_replicate] at hj
      split at hj
      · rename_i hjn
        obtain rfl := Option.some.inj hj
        exact ⟨z, by simp [List.getElem?_replicate, hjn], zero_rel, by simp, h5⟩
      · cases hj)
    hi hr (by simpa using hp)
  have hrl : (rowsOf (z.map V.of1) n (parts.toList.map fun p => (p.1, opd ρ p.2))).length = n := by
    unfold rowsOf; rw [rowsOf_len (z.map V.of1) n]; simp
  have hst := newBlk (E := E) (m := m) (w := w) hb crows' (by rw [hrl]; simpa using f2) (by
    intro j r hj
    exact f3 j r hj) (by rw [hrl]; have := Nat.le_mul_of_pos_right n hzl; simp only [maxLen]; omega) hS
  rw [hrl] at hst
  refine ⟨_, .slice (some ⟨w.heap.size, 0, none⟩) n n, _, ?_, hst, ?_⟩
  · have hsz : ¬ (n * i.size > 2 ^ 24) := by rw [← h4]; omega
    have hf : Instr.fill (fun x => some (x * i.size, i.size)) ((Array.range (n * i.size)).map (zv.cells[· % zv.cells.size]!)) (parts.map fun (p : Nat × Operand) => (p.1, a.eval p.2)).toList = some crows'.flatten.toArray := by rw [← h4]; exact f1
    have hzero : (if n * i.size = 0 then (pure #[] : Sem (Array Value)) else do pure (← zeroValue e).cells).run P w = .ok (if n * i.size = 0 then #[] else zv.cells) w := by
      split <;> simp [zeroValue, typeInfo, h1, h2]
    simp only [execOp, ho, Instr.buildSlice, run_underlying hu, Sem.run_bind, Result.andThen_ok, sizeOf, typeInfo, run_program, h1, Sem.run_pure, hsz, if_false]
    simp only [Array.toList_map] at hf
    by_cases hn0 : n * i.size = 0
    · have hf' := hf
      simp only [hn0, Array.range_zero', Array.map_empty] at hf'
      simp [hn0, hf', newRow, Array.range_zero']
    · simp [hn0, hf, newRow, zeroValue, typeInfo, h1, h2]
  · simp only [VRel]
    exact ⟨_, _, n, upd_same _ _ _, rfl, by simp [slN], by simp [slN], by simp [CapOk], fun _ => by simp⟩
end
end Go.Ab
