/- Operations, one by one: what the evaluator says is what the machine does. Part 1. -/
import Derived.Test.YtjciabbnncidjaaGreatAbMem
import Derived.Laws.Tables
import Derived.Laws.StructEq
import Derived.Laws.Small
import Derived.Laws.BytesArg
import Derived.Laws.Slices
import Derived.OpenShut
set_option linter.unusedSimpArgs false
set_option linter.unusedVariables false
namespace Go.Ab
open Go

/-- The operation gives a value, or nothing. -/
def Does (P : Program) (o : Oper) (a : Act) (w : World) (cv : Value) (w' : World) : Prop :=
  (execOp a.eval o).run P w = .ok (.value cv) w' ∨ ((execOp a.eval o).run P w = .ok .skip w' ∧ cv = undef)
def Goes [Pins] (P : Program) (o : Oper) (a : Act) (E : Wh) (m : Mem) (w : World) (v : V) (ρ' : Env) (m' : Mem) : Prop :=
  ∃ E' cv w', Does P o a w cv w' ∧ Step E m w E' m' w' ∧ VRel E' v cv ∧ ERel E' ρ' a.tmps.toList

/-- The operation lays a new block, and gives a value that leads to it. -/
def GoesN [Pins] (P : Program) (o : Oper) (a : Act) (E : Wh) (m : Mem) (w : World) (v : V) (b : Blk) : Prop :=
  ∃ e cv w', (execOp a.eval o).run P w = .ok (.value cv) w' ∧ NewB E m w w' b e ∧ VRel (upd E m.length e) v cv
theorem GoesN.goes [Pins] {P : Program} {o : Oper} {a : Act} {E : Wh} {m : Mem} {w : World} {v : V} {b : Blk} {ρ : Env} (hS : Sim E m w) (hρ : ERel E ρ a.tmps.toList) (h : GoesN P o a E m w v b) : Goes P o a E m w v ρ (m ++ [b]) := by
  obtain ⟨e, cv, w', h1, h2, h3⟩ := h
  exact ⟨_, cv, w', .inl h1, h2.step hS, h3, hρ.mono (upd_new hS _)⟩

theorem of1_rel [Pins] (E : Wh) (c : Value) : VRel E (V.of1 c) c := by
  unfold V.of1
  split
  case h_2 k n =>
    split
    · rename_i h; simp only [VRel]; exact ⟨trivial, h⟩
    · simp [VRel]
  case h_3 s =>
    split
    · rename_i h; simp only [VRel]; exact ⟨s, rfl, rfl, h⟩
    · simp [VRel]
  all_goals simp [VRel]
theorem of_rel [Pins] (E : Wh) (c : Value) : VRel E (V.of c) c := by
  unfold V.of
  split
  · rename_i cs
    split
    · rename_i hall
      simp only [VRel]
      refine ⟨cs, rfl, ?_, List.all_eq_true.1 hall⟩
      have := VsRel.map (E := E) V.of1 id cs.toList (fun x _ => of1_rel E x)
      simpa using this
    · simp [VRel]
  · exact of1_rel E c
theorem opd_rel [Pins] {E : Wh} {ρ : Env} {a : Act} (h : ERel E ρ a.tmps.toList) (x : Operand) : VRel E (opd ρ x) (a.eval x) := by
  cases x with
  | tmp t =>
    have := h.getD t undef
    simpa [opd, Act.eval, Array.getD_eq_getD_getElem?] using this
  | const v => exact of_rel E v
  | global g => simp [opd, VRel]
  | func f => simp [opd, Act.eval, VRel, VsRel]
theorem opds_rel [Pins] {E : Wh} {ρ : Env} {a : Act} (h : ERel E ρ a.tmps.toList) (xs : Array Operand) : VsRel E (xs.toList.map (opd ρ)) (xs.map a.eval).toList := by
  rw [Array.toList_map]
  exact VsRel.map _ _ _ fun x _ => opd_rel h x
theorem cells_one [Pins] {v : Value} (h : v.oneCell' = true) : v.cells = #[v] := by
  cases v <;> first | rfl | simp [Value.oneCell'] at h
/-- The cells of what may be stored. -/
theorem sto_cells [Pins] {E : Wh} {v : V} {c : Value} (h : VRel E v c) (hs : v.sto = true) : VsRel E v.cells c.cells.toList ∧ ∀ u ∈ c.cells.toList, u.oneCell' = true := by
  cases v <;> simp only [VRel, V.sto] at h hs <;> try (cases hs; done)
  case agg vs => obtain ⟨cs, rfl, h1, h2⟩ := h; exact ⟨h1, h2⟩
  all_goals simp only [V.cells, V.cells?, VsRel]
  case B x => subst h; exact ⟨⟨_, [], rfl, by simp [VRel], rfl⟩, by simp [Value.cells, Value.oneCell']⟩
  case I k n => obtain ⟨rfl, h1⟩ := h; exact ⟨⟨_, [], rfl, by simp [VRel, h1], rfl⟩, by simp [Value.cells, Value.oneCell']⟩
  case S xs => obtain ⟨s, rfl, h1⟩ := h; exact ⟨⟨_, [], rfl, by simp [VRel, h1], rfl⟩, by simp [Value.cells, Value.oneCell']⟩
  case ptr k r f => obtain ⟨e, h1, h2, rfl⟩ := h; exact ⟨⟨_, [], rfl, by simp [VRel, h1, h2], rfl⟩, by simp [Value.cells, Value.oneCell']⟩
  case nilp => subst h; exact ⟨⟨_, [], rfl, by simp [VRel], rfl⟩, by simp [Value.cells, Value.oneCell']⟩
  case sl k r l q => obtain ⟨e, a, n, h1, rfl, h2⟩ := h; exact ⟨⟨_, [], rfl, by simp only [VRel]; exact ⟨e, a, n, h1, rfl, h2⟩, rfl⟩, by simp [Value.cells, Value.oneCell']⟩
  case nils => subst h; exact ⟨⟨_, [], rfl, by simp [VRel], rfl⟩, by simp [Value.cells, Value.oneCell']⟩
  case fn f a d => obtain ⟨a', d', rfl, h1, h2⟩ := h; exact ⟨⟨_, [], rfl, by simp only [VRel]; exact ⟨a', d', rfl, h1, h2⟩, rfl⟩, by simp [Value.cells, Value.oneCell']⟩
  case nilf => subst h; exact ⟨⟨_, [], rfl, by simp [VRel], rfl⟩, by simp [Value.cells, Value.oneCell']⟩
  case ifc t v => obtain ⟨c', rfl, h1⟩ := h; exact ⟨⟨_, [], rfl, by simp only [VRel]; exact ⟨c', rfl, h1⟩, rfl⟩, by simp [Value.cells, Value.oneCell']⟩
  case nili => subst h; exact ⟨⟨_, [], rfl, by simp [VRel], rfl⟩, by simp [Value.cells, Value.oneCell']⟩
  case mapp k => obtain ⟨e, h1, rfl⟩ := h; exact ⟨⟨_, [], rfl, by simp only [VRel]; exact ⟨e, h1, rfl⟩, rfl⟩, by simp [Value.cells, Value.oneCell']⟩
  case itp k => obtain ⟨e, h1, rfl⟩ := h; exact ⟨⟨_, [], rfl, by simp only [VRel]; exact ⟨e, h1, rfl⟩, rfl⟩, by simp [Value.cells, Value.oneCell']⟩
  case yv k => obtain ⟨e, h1, rfl⟩ := h; exact ⟨⟨_, [], rfl, by simp only [VRel]; exact ⟨e, h1, rfl⟩, rfl⟩, by simp [Value.cells, Value.oneCell']⟩
  case chp k => obtain ⟨e, h1, rfl⟩ := h; exact ⟨⟨_, [], rfl, by simp only [VRel]; exact ⟨e, h1, rfl⟩, rfl⟩, by simp [Value.cells, Value.oneCell']⟩
  case nilm => subst h; exact ⟨⟨_, [], rfl, by simp [VRel], rfl⟩, by simp [Value.cells, Value.oneCell']⟩
  case L k i q b c d => obtain ⟨rfl, h1⟩ := h; exact ⟨⟨_, [], rfl, by simp only [VRel]; exact ⟨trivial, h1⟩, rfl⟩, by simp [Value.cells, Value.oneCell']⟩

section
variable {P : Program} {o : Oper} {a : Act} {E : Wh} {m : Mem} {w : World} {ρ : Env}
/-- Nothing changes but a value. -/
theorem goes_pure [Pins] (hS : Sim E m w) (hρ : ERel E ρ a.tmps.toList) {v : V} {cv : Value} (hr : (execOp a.eval o).run P w = .ok (.value cv) w) (hv : VRel E v cv) : Goes P o a E m w v ρ m :=
  ⟨E, cv, w, .inl hr, Step.refl hS, hv, hρ⟩
theorem zeroCells_some [Pins] {t : TypeId} {z : List Value} (h : zeroCells P t = some z) : ∃ i zv, P.info? t = some i ∧ i.zero = some zv ∧ zv.cells.toList = z ∧ z.length = i.size ∧ ∀ u ∈ z, u.oneCell' = true := by
  unfold zeroCells at h
  split at h
  · rename_i i hi
    split at h
    · rename_i zv hz
      split at h
      · rename_i hc
        simp only [Bool.and_eq_true, beq_iff_eq, List.all_eq_true] at hc
        cases h
        exact ⟨i, zv, hi, hz, rfl, by simpa using hc.2, hc.1⟩
      · cases h
    · cases h
  · cases h
theorem zero_rel [Pins] {z : List Value} : VsRel E (z.map V.of1) z := by
  have := VsRel.map (E := E) V.of1 id z (fun x _ => of1_rel E x)
  simpa using this

/-! ### New blocks -/
theorem zipCols_spec [Pins] : ∀ {zero : List Value} {rows : List (List V)} {cs : List Col}, zipCols zero rows = some cs → cs.length = zero.length ∧ ∀ (fld : Nat) (col : Col), cs[fld]? = some col → col.list = rows.map fun r => r.getD fld .undef
  | [], rows, cs, h => by simp [zipCols] at h; subst h; simp
  | z :: zs, rows, cs, h => by
    simp only [zipCols] at h
    split at h
    · rename_i c cs' hc hcs
      cases h
      obtain ⟨h1, h2⟩ := zipCols_spec hcs
      refine ⟨by simp [h1], ?_⟩
      intro fld col hcol
      cases fld with
      | zero =>
        simp at hcol; subst hcol
        rw [Col.list_mk hc]
        apply List.map_congr_left
        intro r _
        cases r <;> simp
      | succ f =>
        rw [h2 f col (by simpa using hcol), List.map_map]
        apply List.map_congr_left
        intro r _
        cases r <;> simp
    · cases h
theorem mkBlk_spec [Pins] {et : TypeId} {zero : List Value} {rows : List (List V)} {b : Blk} (h : mkBlk et zero rows = some b) :
    b.cols.length = zero.length ∧ b.cols ≠ [] ∧ b.et = et ∧ b.ro = false ∧ b.mv = true ∧ ∀ (fld : Nat) (col : Col), b.cols[fld]? = some col → col.list = rows.map fun r => r.getD fld .undef := by
  unfold mkBlk at h
  split at h
  · cases h
  · rename_i cs hne hcs
    cases h
    obtain ⟨h1, h2⟩ := zipCols_spec hcs
    exact ⟨h1, by intro h; exact hne h, rfl, rfl, rfl, h2⟩
  · cases h
theorem rows_of_cols [Pins] {b : Blk} {n : Nat} (hne : b.cols ≠ []) (h : ∀ col ∈ b.cols, col.len = n) : b.rows = n := by
  unfold Blk.rows
  cases hb : b.cols with
  | nil => exact absurd hb hne
  | cons c cs => exact h c (by simp [hb])
/-- A block whose cells lie at the head of a concrete block of our own. -/
theorem BlkRel.mk' [Pins] {E' : Wh} {w' : World} {b : Blk} {g n cr : Nat} {cur : Array Value} (hne : b.cols ≠ []) (hp : b.cols.all Col.plain = true) (hlen : ∀ col ∈ b.cols, col.len = n)
    (hcells : ∀ (row fld : Nat) (col : Col) (v : V), b.cols[fld]? = some col → col.list[row]? = some v → ∃ c, cur[row * b.cols.length + fld]? = some c ∧ c.oneCell' = true ∧ VRel E' v c)
    (hg : n ≠ 0 ∨ cr ≠ 0 → w'.heap[g]? = some (.cells cur b.et (0, 0))) (hsz : cur.size = cr * b.cols.length) (hn : n ≤ cr) (hm : cr ≤ maxLen) : BlkRel E' w' b ⟨g, 0, cr, b.cols.length, n⟩ := by
  refine ⟨rfl, (rows_of_cols hne hlen).symm, hlen, ?_, ?_, ?_, hn, hm, fun es hes => ?_⟩
  · intro row fld col v hc hv
    obtain ⟨c, h1, h2, h3⟩ := hcells row fld col v hc hv
    have hr : row < n := by rw [← hlen col (List.mem_of_getElem? hc), ← Col.list_len]; exact (List.getElem?_eq_some_iff.1 hv).1
    refine ⟨c, ?_, h2, h3⟩
    rw [cell_of_row _ g _ _ _ _ (hg (.inl (by omega)))]
    simpa using h1
  · intro _ hcr _
    exact ⟨rfl, cur, hg (.inr hcr), hsz⟩
  · intro hcr
    exact (Array.getElem?_eq_some_iff.1 (hg (.inr hcr))).1
  · obtain ⟨h1, h2⟩ := Blk.sp_some hes
    rw [h1] at hp
    simp [h2] at hp
theorem Col.mk_plain [Pins] {z : Value} {vs : List V} {c : Col} (h : Col.mk z vs = some c) : c.plain = true := by
  unfold Col.mk at h
  split at h
  · split at h
    · cases h; rfl
    · cases h; rfl
  · split at h
    · cases h; rfl
    · cases h
  · split at h
    · cases h; rfl
    · cases h
  · cases h; rfl
theorem zipCols_plain [Pins] : ∀ {zero : List Value} {rows : List (List V)} {cs : List Col}, zipCols zero rows = some cs → cs.all Col.plain = true
  | [], rows, cs, h => by simp [zipCols] at h; subst h; rfl
  | z :: zs, rows, cs, h => by
    simp only [zipCols] at h
    split at h
    · rename_i c cs' hc hcs
      cases h
      simp [Col.mk_plain hc, zipCols_plain hcs]
    · cases h
theorem mkBlk_plain [Pins] {et : TypeId} {zero : List Value} {rows : List (List V)} {b : Blk} (h : mkBlk et zero rows = some b) : b.cols.all Col.plain = true := by
  unfold mkBlk at h
  split at h
  · cases h
  · rename_i cs _ hcs
    cases h
    exact zipCols_plain hcs
  · cases h
/-- Cells of rows, one row behind the other. -/
theorem flat_at [Pins] {nc : Nat} : ∀ {rows : List (List Value)} (_ : ∀ r ∈ rows, r.length = nc) (row fld : Nat) (r : List Value), rows[row]? = some r → fld < nc → rows.flatten[row * nc + fld]? = r[fld]?
  | [], _, row, fld, r, h, _ => by simp at h
  | r0 :: rows, hl, row, fld, r, h, hf => by
    have h0 : r0.length = nc := hl r0 (by simp)
    cases row with
    | zero =>
      simp at h; subst h
      simp only [List.flatten_cons, Nat.zero_mul, Nat.zero_add]
      rw [List.getElem?_append_left (by omega)]
    | succ k =>
      simp only [List.flatten_cons]
      rw [List.getElem?_append_right (by rw [h0, Nat.succ_mul]; omega)]
      rw [show (k + 1) * nc + fld - r0.length = k * nc + fld by rw [h0, Nat.succ_mul]; omega]
      exact flat_at (fun r hr => hl r (by simp [hr])) k fld r (by simpa using h) hf
theorem flat_len [Pins] {nc : Nat} : ∀ {rows : List (List Value)} (_ : ∀ r ∈ rows, r.length = nc), rows.flatten.length = rows.length * nc
  | [], _ => by simp
  | r0 :: rows, hl => by
    simp only [List.flatten_cons, List.length_append, List.length_cons, flat_len (rows := rows) (fun r hr => hl r (by simp [hr])), hl r0 (by simp), Nat.succ_mul]
    omega
/-- Rows of cells beside rows of abstract cells. -/
theorem newBlk [Pins] {et : TypeId} {zero : List Value} {rows : List (List V)} {b : Blk} (h : mkBlk et zero rows = some b) (crows : List (List Value)) (hr : rows.length = crows.length)
    (hrel : ∀ (j : Nat) (r : List V), rows[j]? = some r → ∃ cr, crows[j]? = some cr ∧ VsRel E r cr ∧ r.length = zero.length ∧ ∀ u ∈ cr, u.oneCell' = true) (hlt : rows.length ≤ maxLen) (hS : Sim E m w) :
    NewB E m w (w.alloc (.cells crows.flatten.toArray et)) b ⟨w.heap.size, 0, rows.length, b.cols.length, rows.length⟩ := by
  obtain ⟨h1, h2, h3, h4, h5, h6⟩ := mkBlk_spec h
  have hcl : ∀ r ∈ crows, r.length = b.cols.length := by
    intro cr hcr
    obtain ⟨j, hj, rfl⟩ := List.getElem_of_mem hcr
    have hj' : j < rows.length := by omega
    obtain ⟨cr', g1, g2, g3, _⟩ := hrel j rows[j] (List.getElem?_eq_getElem hj')
    rw [List.getElem?_eq_getElem hj] at g1
    obtain rfl := Option.some.inj g1
    rw [h1, ← g3, g2.length]
  refine ⟨rfl, rfl, rfl, by simp, fun j hj => heap_alloc_old w _ j hj, ?_, fun _ => Nat.le_refl _⟩
  refine BlkRel.mk' (cur := crows.flatten.toArray) h2 (mkBlk_plain h) ?_ ?_ ?_ ?_ (Nat.le_refl _) hlt
  · intro col hcol
    obtain ⟨fld, hf, rfl⟩ := List.getElem_of_mem hcol
    rw [← Col.list_len, h6 fld _ (List.getElem?_eq_getElem hf), List.length_map]
  · intro row fld col v hc hv
    have hf : fld < b.cols.length := (List.getElem?_eq_some_iff.1 hc).1
    rw [h6 fld col hc, List.getElem?_map, Option.map_eq_some_iff] at hv
    obtain ⟨r, hr1, rfl⟩ := hv
    obtain ⟨cr, g1, g2, g3, g4⟩ := hrel row r hr1
    have hfl : fld < cr.length := by rw [← g2.length, g3, ← h1]; exact hf
    refine ⟨cr[fld], ?_, g4 _ (List.getElem_mem hfl), ?_⟩
    · have := flat_at hcl row fld cr g1 hf
      simp [this]
    · have := g2.getD fld undef
      rw [List.getD_eq_getElem?_getD, List.getD_eq_getElem?_getD, List.getElem?_eq_getElem hfl] at this
      rw [List.getD_eq_getElem?_getD]
      exact this.mono (upd_new hS _)
  · intro _
    rw [h3]
    exact heap_alloc_new w _
  · simp [flat_len hcl, hr]
theorem GoesN.box [Pins] {t : TypeId} {zero : List Value} {vs : List V} {cs : List Value} {b : Blk} (hS : Sim E m w) (hρ : ERel E ρ a.tmps.toList) (hb : mkBlk t zero [vs] = some b) (hl : vs.length = zero.length)
    (hv : VsRel E vs cs) (h1 : ∀ u ∈ cs, u.oneCell' = true) (hr : (execOp a.eval o).run P w = .ok (.value (.pointer (some ⟨w.heap.size, 0, none⟩))) (w.alloc (.cells cs.toArray t))) :
    GoesN P o a E m w (.ptr m.length 0 0) b := by
  have hst := newBlk (E := E) (m := m) (w := w) hb [cs] rfl (by
    intro j r hj
    cases j with
    | zero => simp at hj; subst hj; exact ⟨cs, rfl, hv, hl, h1⟩
    | succ j => simp at hj) (by simp [maxLen]) hS
  simp only [List.flatten_cons, List.flatten_nil, List.append_nil, List.length_singleton] at hst
  refine ⟨_, _, _, hr, hst, ?_⟩
  simp only [VRel]
  exact ⟨_, upd_same _ _ _, by simp, by simp⟩
/-- A variable kept cell by cell. -/
theorem GoesN.flat [Pins] {t : TypeId} {zz : Value} {vs : List V} {cs : List Value} {b : Blk} (hS : Sim E m w) (hρ : ERel E ρ a.tmps.toList) (hb : mkBlk t [zz] (vs.map fun v => [v]) = some b) (hne : vs ≠ []) (hm : vs.length ≤ maxLen)
    (hv : VsRel E vs cs) (h1 : ∀ u ∈ cs, u.oneCell' = true) (hr : (execOp a.eval o).run P w = .ok (.value (.pointer (some ⟨w.heap.size, 0, none⟩))) (w.alloc (.cells cs.toArray t))) :
    GoesN P o a E m w (.ptr m.length 0 0) b := by
  have hfl : ∀ l : List Value, (l.map fun c => [c]).flatten = l := fun l => by induction l with | nil => rfl | cons x l ih => simp [ih]
  have hst := newBlk (E := E) (m := m) (w := w) hb (cs.map fun c => [c]) (by simp [hv.length]) (by
    intro j r hj
    simp only [List.getElem?_map, Option.map_eq_some_iff] at hj ⊢
    obtain ⟨v, hv1, rfl⟩ := hj
    obtain ⟨c, hc, hvc⟩ := hv.look j v hv1
    exact ⟨[c], ⟨c, hc, rfl⟩, by simp only [VsRel]; exact ⟨c, [], rfl, hvc, rfl⟩, rfl, fun u hu => by simp at hu; subst hu; exact h1 _ (List.mem_of_getElem? hc)⟩) (by simpa using hm) hS
  rw [hfl] at hst
  refine ⟨_, _, _, hr, hst, ?_⟩
  simp only [VRel]
  refine ⟨_, upd_same _ _ _, ?_, by simp⟩
  simp only [List.length_map]
  exact List.length_pos_iff.2 hne
theorem mixBlk_spec [Pins] {t : TypeId} {vs : List V} {b : Blk} (h : mixBlk P t vs = some b) : ∃ c : Col, b = ⟨[c], t, false, true⟩ ∧ c.plain = true ∧ c.list = vs := by
  unfold mixBlk at h
  split at h
  · split at h
    · split at h
      · rename_i n e _
        split at h
        · split at h
          · rename_i k _ _ xs hxs
            split at h
            · rename_i hl
              have hl' : xs.length = n := Nat.eq_of_beq_eq_true hl
              cases h
              refine ⟨_, rfl, rfl, ?_⟩
              have hall := allI_eq hxs
              cases hz : xs.all (fun x => x == 0) with
              | true =>
                show mixL k n [] ++ vs.drop n = vs
                rw [← mixL_nil_of hz, ← hl', mixL_all, hl', ← hall, List.take_append_drop]
              | false =>
                show mixL k n xs ++ vs.drop n = vs
                rw [← hl', mixL_all, hl', ← hall, List.take_append_drop]
            · cases h
          · cases h
        · cases h
      · cases h
    · cases h
  · cases h
/-- A variable kept in one column. -/
theorem GoesN.col [Pins] {t : TypeId} {c : Col} {cs : List Value} (hS : Sim E m w) (hρ : ERel E ρ a.tmps.toList) (hp : c.plain = true) (hne : c.list ≠ []) (hm : c.list.length ≤ maxLen)
    (hv : VsRel E c.list cs) (h1 : ∀ u ∈ cs, u.oneCell' = true) (hr : (execOp a.eval o).run P w = .ok (.value (.pointer (some ⟨w.heap.size, 0, none⟩))) (w.alloc (.cells cs.toArray t))) :
    GoesN P o a E m w (.ptr m.length 0 0) ⟨[c], t, false, true⟩ := by
  have hst : NewB E m w (w.alloc (.cells cs.toArray t)) ⟨[c], t, false, true⟩ ⟨w.heap.size, 0, c.list.length, 1, c.list.length⟩ := by
    refine ⟨rfl, rfl, rfl, by simp, fun j hj => heap_alloc_old w _ j hj, ?_, fun _ => Nat.le_refl _⟩
    refine BlkRel.mk' (cur := cs.toArray) (b := ⟨[c], t, false, true⟩) (by simp) (by simpa using hp) ?_ ?_ ?_ ?_ (Nat.le_refl _) hm
    · intro col hcol
      simp at hcol; subst hcol
      exact (Col.list_len _).symm
    · intro row fld col v hc hv'
      cases fld with
      | zero =>
        simp at hc; subst hc
        obtain ⟨x, hx, hvx⟩ := hv.look row v hv'
        exact ⟨x, by simpa using hx, h1 _ (List.mem_of_getElem? hx), hvx.mono (upd_new hS _)⟩
      | succ f => simp at hc
    · intro _
      exact heap_alloc_new w _
    · simp [hv.length]
  refine ⟨_, _, _, hr, hst, ?_⟩
  simp only [VRel]
  refine ⟨_, upd_same _ _ _, ?_, by simp⟩
  exact List.length_pos_iff.2 hne
end
end Go.Ab
