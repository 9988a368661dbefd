/- Operations, part 3: loads, stores, addresses, fields. -/
import Derived.Test.YtjciabbnncidjaaGreatAbOps2
set_option linter.unusedSimpArgs false
set_option linter.unusedVariables false
namespace Go.Ab
open Go
section
variable {P : Program} {o : Oper} {a : Act} {E : Wh} {m : Mem} {w : World} {ρ : Env}

theorem sizeT_some [Pins] {t : TypeId} {n : Nat} (h : sizeT P t = some n) : ∃ i, P.info? t = some i ∧ i.size = n := by
  unfold sizeT at h
  split at h
  · rename_i i hi; cases h; exact ⟨i, hi, rfl⟩
  · cases h
theorem run_sizeOf' [Pins] {t : TypeId} {n : Nat} (h : sizeT P t = some n) (w : World) : (sizeOf t).run P w = .ok n w := by
  obtain ⟨i, hi, rfl⟩ := sizeT_some h
  simp [sizeOf, typeInfo, hi]
theorem run_isAgg' [Pins] {t : TypeId} {x : Bool} (h : isAggT P t = some x) (w : World) : (isAgg t).run P w = .ok x w := by
  unfold isAggT at h
  unfold isAgg
  split at h
  · rename_i fs hu; cases h; simp [run_underlying hu]
  · rename_i n e hu; cases h; simp [run_underlying hu]
  · rename_i d hn1 hn2 hu
    cases h
    simp only [Sem.run_bind, run_underlying hu, Result.andThen_ok]
    cases d <;> first | rfl | exact absurd hu (hn1 _) | exact absurd hu (hn2 _ _)
  · cases h
theorem rdHead_rel [Pins] {b : Blk} {e : BE} (hb : BlkRel E w b e) {row : Nat} (hr : row < e.rows) : ∀ (n fld : Nat), fld + n ≤ b.cols.length →
    ∃ cs : List Value, VsRel E (rdHead row n (b.cols.drop fld)) cs ∧ cs.length = n ∧ (∀ (j : Nat) (c : Value), cs[j]? = some c → w.cell? ⟨e.blk, e.off + (row * e.nc + (fld + j)), none⟩ = some c) ∧ ∀ u ∈ cs, u.oneCell' = true
  | 0, fld, _ => ⟨[], by simp [rdHead, VsRel], rfl, by simp, by simp⟩
  | n + 1, fld, h => by
    have hf : fld < b.cols.length := by omega
    obtain ⟨cs, h1, h2, h3, h4⟩ := rdHead_rel hb hr n (fld + 1) (by omega)
    rw [List.drop_eq_getElem_cons hf]
    have hcol : b.cols[fld]? = some b.cols[fld] := List.getElem?_eq_getElem hf
    have hlen : b.cols[fld].len = e.rows := hb.len _ (List.getElem_mem hf)
    obtain ⟨c, g1, g2, g3⟩ := hb.cells row fld _ _ hcol (Col.list_get _ row (by omega))
    refine ⟨c :: cs, by simp only [rdHead, VsRel]; exact ⟨c, cs, rfl, g3, h1⟩, by simp [h2], ?_, ?_⟩
    · intro j x hx
      cases j with
      | zero => simp at hx; subst hx; simpa using g1
      | succ j => have := h3 j x (by simpa using hx); rwa [show fld + 1 + j = fld + (j + 1) by omega] at this
    · intro u hu
      simp only [List.mem_cons] at hu
      rcases hu with rfl | hu
      · exact g2
      · exact h4 u hu
theorem rdCols_eq [Pins] (row n : Nat) : ∀ (fld : Nat) (cs : List Col), rdCols row n fld cs = rdHead row n (cs.drop fld)
  | 0, cs => by simp [rdCols]
  | f + 1, [] => by simp [rdCols]
  | f + 1, c :: cs => by simp [rdCols, rdCols_eq row n f cs]
theorem getD_blk [Pins] (hS : Sim E m w) {k : Nat} {e : BE} (hk : E k = some e) : m[k]? = some (m.getD k default) ∧ BlkRel E w (m.getD k default) e := by
  obtain ⟨b, h1, h2⟩ := hS.blk k e hk
  rw [List.getD_eq_getElem?_getD, h1]
  exact ⟨rfl, h2⟩
/-- A part of a block that is one column. -/
theorem flat_rel [Pins] {b : Blk} {e : BE} (hb : BlkRel E w b e) {c : Col} (hc : b.cols = [c]) : ∀ (n r : Nat), r + n ≤ c.len →
    ∃ cs : List Value, VsRel E ((c.list.drop r).take n) cs ∧ cs.length = n ∧ (∀ (j : Nat) (x : Value), cs[j]? = some x → w.cell? ⟨e.blk, e.off + (r + j), none⟩ = some x) ∧ ∀ u ∈ cs, u.oneCell' = true
  | 0, r, _ => ⟨[], by simp [VsRel], rfl, by simp, by simp⟩
  | n + 1, r, h => by
    obtain ⟨cs, h1, h2, h3, h4⟩ := flat_rel hb hc n (r + 1) (by omega)
    have hr : r < c.list.length := by rw [Col.list_len]; omega
    have hnc : e.nc = 1 := by rw [hb.nc, hc]; rfl
    obtain ⟨x, g1, g2, g3⟩ := hb.cells r 0 c c.list[r] (by rw [hc]; rfl) (List.getElem?_eq_getElem hr)
    rw [List.drop_eq_getElem_cons hr, List.take_succ_cons]
    refine ⟨x :: cs, by simp only [VsRel]; exact ⟨x, cs, rfl, g3, h1⟩, by simp [h2], ?_, ?_⟩
    · intro j y hy
      cases j with
      | zero => simp at hy; subst hy; rw [hnc] at g1; simpa using g1
      | succ j => have := h3 j y (by simpa using hy); rwa [show r + 1 + j = r + (j + 1) by omega] at this
    · intro u hu
      simp only [List.mem_cons] at hu
      rcases hu with rfl | hu
      · exact g2
      · exact h4 u hu
theorem loadV_rel [Pins] (hS : Sim E m w) {t : TypeId} {p v : V} {cp : Value} (hp : VRel E p cp) (h : loadV P t m p = some v) : ∃ cv, (Instr.loadAt t cp).run P w = .ok cv w ∧ VRel E v cv := by
  unfold loadV at h
  split at h
  · rename_i k row fld
    simp only [VRel] at hp
    obtain ⟨e, hk, hr, rfl⟩ := hp
    obtain ⟨_, hb⟩ := getD_blk hS hk
    split at h
    · cases h
    · rename_i n hn
      split at h
      · rename_i hfit
        obtain ⟨cs, h1, h2, h3, h4⟩ := rdHead_rel hb hr n fld hfit
        split at h
        · rename_i ha
          cases h
          refine ⟨.agg cs.toArray, ?_, ?_⟩
          · have := run_loadCells_list (P := P) w ⟨e.blk, e.off + (row * e.nc + fld), none⟩ cs (fun j v hv => by rw [Addr.add_none, ← h3 j v hv]; congr 2; omega)
            simp [Instr.loadAt, Instr.sureAddr, loadVar, run_isAgg' ha, run_sizeOf' hn, ← h2, this]
          · simp only [VRel]
            exact ⟨cs.toArray, rfl, by rw [rdCols_eq]; simpa using h1, by simpa using h4⟩
        · rename_i ha
          split at h
          · rename_i v' hv
            cases h
            have hlen1 : fld + 1 ≤ (m.getD k default).cols.length := by
              rw [rdCols_eq] at hv
              by_cases hfl : fld < (m.getD k default).cols.length
              · omega
              · rw [List.drop_eq_nil_of_le (by omega)] at hv; simp [rdHead] at hv
            obtain ⟨cs', g1, g2, g3, g4⟩ := rdHead_rel hb hr 1 fld hlen1
            rw [rdCols_eq] at hv
            rw [hv] at g1
            simp only [VsRel] at g1
            obtain ⟨c, cs'', rfl, g5, rfl⟩ := g1
            refine ⟨c, ?_, g5⟩
            have := g3 0 c rfl
            simp [Instr.loadAt, Instr.sureAddr, loadVar, run_isAgg' ha, run_load, Nat.add_zero] at this ⊢
            simp [this]
          · cases h
        · cases h
      · split at h
        · rename_i c hcols
          have hnc : e.nc = 1 := by rw [hb.nc, hcols]; rfl
          split at h
          · rename_i hfit
            obtain ⟨cs, h1, h2, h3, h4⟩ := flat_rel hb hcols n (row + fld) hfit
            split at h
            · rename_i ha
              cases h
              refine ⟨.agg cs.toArray, ?_, ?_⟩
              · have := run_loadCells_list (P := P) w ⟨e.blk, e.off + (row * e.nc + fld), none⟩ cs (fun j v hv => by rw [Addr.add_none, ← h3 j v hv]; congr 2; rw [hnc]; omega)
                simp [Instr.loadAt, Instr.sureAddr, loadVar, run_isAgg' ha, run_sizeOf' hn, ← h2, this]
              · simp only [VRel]
                exact ⟨cs.toArray, rfl, by simpa using h1, by simpa using h4⟩
            · rename_i ha
              split at h
              · cases h
                have hlt : row + fld < c.list.length := by rw [Col.list_len]; omega
                have hget : c.list[row + fld]? = some (c.get (row + fld)) := Col.list_get c _ (by omega)
                obtain ⟨x, g1, g2, g3⟩ := hb.cells (row + fld) 0 c _ (by rw [hcols]; rfl) hget
                refine ⟨x, ?_, g3⟩
                have g1' : w.cell? ⟨e.blk, e.off + (row * e.nc + fld), none⟩ = some x := by rw [← g1]; congr 2; rw [hnc]; omega
                simp [Instr.loadAt, Instr.sureAddr, loadVar, run_isAgg' ha, run_load, g1']
              · cases h
            · cases h
          · cases h
        · cases h
  · cases h
theorem goes_load [Pins] (hS : Sim E m w) (hρ : ERel E ρ a.tmps.toList) {t : TypeId} {x : Operand} (ho : o.op = .load t x) {v : V} (h : loadV P t m (opd ρ x) = some v) : Goes P o a E m w v ρ m := by
  obtain ⟨cv, h1, h2⟩ := loadV_rel hS (opd_rel (a := a) hρ x) h
  exact goes_pure hS hρ (by simp [execOp, ho, h1]) h2

/-! ### Stores -/
theorem wrCols_spec [Pins] {row : Nat} : ∀ {fld : Nat} {vs : List V} {cs cs' : List Col}, wrCols row fld vs cs = some cs' → cs'.length = cs.length ∧ (vs ≠ [] → fld + vs.length ≤ cs.length) ∧
    ∀ (f : Nat) (c' : Col), cs'[f]? = some c' → ∃ c, cs[f]? = some c ∧ c'.list = if fld ≤ f ∧ f < fld + vs.length then c.list.set row (vs.getD (f - fld) .undef) else c.list
  | fld, [], cs, cs', h => by
    have : wrCols row fld [] cs = some cs := by cases fld <;> cases cs <;> rfl
    rw [this] at h
    cases h
    refine ⟨rfl, fun h => absurd rfl h, fun f c hc => ⟨c, hc, ?_⟩⟩
    rw [if_neg (by simp)]
  | 0, v :: vs, [], cs', h => by simp [wrCols] at h
  | f + 1, v :: vs, [], cs', h => by simp [wrCols] at h
  | 0, v :: vs, c :: cs, cs', h => by
    simp only [wrCols] at h
    split at h
    · rename_i c1 cs1 hc hcs
      cases h
      obtain ⟨h1, h2, h3⟩ := wrCols_spec hcs
      refine ⟨by simp [h1], fun _ => ?_, ?_⟩
      · by_cases hv : vs = []
        · subst hv; simp
        · have := h2 hv; simp only [List.length_cons]; omega
      intro f c' hc'
      cases f with
      | zero =>
        simp at hc'; subst hc'
        exact ⟨c, rfl, by simp [Col.list_set hc]⟩
      | succ f =>
        obtain ⟨c0, g1, g2⟩ := h3 f c' (by simpa using hc')
        refine ⟨c0, by simpa using g1, ?_⟩
        rw [g2]
        by_cases hf : f < vs.length
        · rw [if_pos (by omega), if_pos (by simp; omega)]; simp
        · rw [if_neg (by omega), if_neg (by simp; omega)]
    · cases h
  | fld + 1, v :: vs, c :: cs, cs', h => by
    simp only [wrCols] at h
    split at h
    · rename_i cs1 hcs
      cases h
      obtain ⟨h1, h2, h3⟩ := wrCols_spec hcs
      refine ⟨by simp [h1], fun hv => by have := h2 hv; simp only [List.length_cons] at this ⊢; omega, ?_⟩
      intro f c' hc'
      cases f with
      | zero =>
        simp at hc'; subst hc'
        exact ⟨c, rfl, by rw [if_neg (by omega)]⟩
      | succ f =>
        obtain ⟨c0, g1, g2⟩ := h3 f c' (by simpa using hc')
        refine ⟨c0, by simpa using g1, ?_⟩
        rw [g2]
        by_cases hf : fld ≤ f ∧ f < fld + (v :: vs).length
        · rw [if_pos hf, if_pos (by omega), show f + 1 - (fld + 1) = f - fld by omega]
        · rw [if_neg hf, if_neg (by omega)]
    · cases h
theorem laid_at [Pins] {l vs : List Value} {o : Nat} (h : o + vs.length ≤ l.length) (j : Nat) : (l.take o ++ vs ++ l.drop (o + vs.length))[j]? = if o ≤ j ∧ j < o + vs.length then vs[j - o]? else l[j]? := by
  by_cases h1 : j < o
  · rw [if_neg (by omega), List.append_assoc, List.getElem?_append_left (by simp; omega), List.getElem?_take_of_lt h1]
  · by_cases h2 : j < o + vs.length
    · rw [if_pos (by omega), List.append_assoc, List.getElem?_append_right (by simp; omega), List.getElem?_append_left (by simp; omega)]
      congr 1
      simp; omega
    · rw [if_neg (by omega), List.getElem?_append_right (by simp; omega), List.getElem?_drop]
      congr 1
      simp; omega
theorem allI_list [Pins] {k : IntKind} : ∀ {vs : List V} {ys : List Int}, allI k vs = some ys → ys.map (V.I k) = vs
  | [], ys, h => by simp [allI] at h; subst h; rfl
  | v :: vs, ys, h => by
    cases v <;> simp [allI] at h
    obtain ⟨hk, h⟩ := h
    subst hk
    split at h
    · rename_i r hr
      simp only [Option.some.injEq] at h
      subst h
      simp [allI_list hr]
    · cases h
theorem allS_list [Pins] : ∀ {vs : List V} {ys : List (List Int)}, allS vs = some ys → ys.map V.S = vs
  | [], ys, h => by simp [allS] at h; subst h; rfl
  | v :: vs, ys, h => by
    cases v <;> simp [allS] at h
    split at h
    · rename_i r hr
      simp only [Option.some.injEq] at h
      subst h
      simp [allS_list hr]
    · cases h
theorem allB_list [Pins] : ∀ {vs : List V} {ys : List Bool}, allB vs = some ys → ys.map V.B = vs
  | [], ys, h => by simp [allB] at h; subst h; rfl
  | v :: vs, ys, h => by
    cases v <;> simp [allB] at h
    split at h
    · rename_i r hr
      simp only [Option.some.injEq] at h
      subst h
      simp [allB_list hr]
    · cases h
theorem flatSet_spec [Pins] {r : Nat} {vs : List V} {c c' : Col} (h : flatSet r vs c = some c') (hr : r + vs.length ≤ c.len) : c'.list = c.list.take r ++ vs ++ c.list.drop (r + vs.length) ∧ c'.plain = c.plain := by
  unfold flatSet at h
  split at h
  · rename_i v
    have hl := Col.list_set h
    refine ⟨?_, ?_⟩
    · rw [hl]
      have hlt : r < c.list.length := by rw [Col.list_len]; simp at hr; omega
      rw [List.set_eq_take_append_cons_drop, if_pos hlt]
      simp
    · cases c <;> simp [Col.set] at h
      · cases v <;> simp at h
        case L => subst h; rfl
        obtain ⟨rfl, rfl⟩ := h; rfl
      · cases v <;> simp at h; subst h; rfl
      · cases v <;> simp at h; subst h; rfl
      · subst h; rfl
      · split at h
        · split at h
          · split at h
            · cases h; rfl
            · cases h
          · cases h
        · cases h; rfl
  · split at h
    · cases h; exact ⟨rfl, rfl⟩
    · split at h
      · rename_i k xs ys hy
        cases h
        have e := allI_list hy
        refine ⟨?_, rfl⟩
        simp only [Col.list, List.map_append, List.map_take, List.map_drop]
        rw [← e, List.length_map]
      · cases h; exact ⟨by simp [Col.list, lay], rfl⟩
    · split at h
      · rename_i xs ys hy
        cases h
        have e := allS_list hy
        refine ⟨?_, rfl⟩
        simp only [Col.list, List.map_append, List.map_take, List.map_drop]
        rw [← e, List.length_map]
      · cases h
    · split at h
      · rename_i xs ys hy
        cases h
        have e := allB_list hy
        refine ⟨?_, rfl⟩
        simp only [Col.list, List.map_append, List.map_take, List.map_drop]
        rw [← e, List.length_map]
      · cases h
    · cases h
theorem storeF_rel [Pins] (hS : Sim E m w) {t : TypeId} {k row fld n : Nat} {x : V} {cx : Value} {e : BE} (hk : E k = some e) (hr : row < e.rows) (hx : VRel E x cx) {b : Blk} (hbb : m.getD k default = b) {c c' : Col} (hcols : b.cols = [c]) (hro : b.ro = false)
    (hn : sizeT P t = some n) (hset : flatSet (row + fld) x.cells c = some c') (hsto : x.sto = true) (hst : x.cells.length = n) (hpos : 0 < n) (hfit : row + fld + n ≤ c.len) :
    ∃ w', (Instr.storeAt t (.pointer (some ⟨e.blk, e.off + (row * e.nc + fld), none⟩)) cx).run P w = .ok () w' ∧ Step E m w E (m.set k ⟨[c'], b.et, false, b.mv⟩) w' := by
  obtain ⟨hmk, hb⟩ := getD_blk hS hk
  rw [hbb] at hmk hb
  obtain ⟨g1, g2⟩ := sto_cells hx hsto
  have hroom := hb.room
  have hcr : e.cr ≠ 0 := by omega
  have hnc : e.nc = 1 := by rw [hb.nc, hcols]; rfl
  have hclen : c.len = e.rows := hb.len c (by rw [hcols]; simp)
  obtain ⟨hoff, cur, hheap, hcur⟩ := hb.own hro hcr (sp_rows (by have := hb.rows; omega))
  rw [hnc, Nat.mul_one] at hcur
  have hcl : cx.cells.toList.length = n := by rw [← g1.length, hst]
  obtain ⟨hlist, hplain⟩ := flatSet_spec hset (by omega)
  have hrun := run_storeCells_at P e.blk (row + fld) b.et cx.cells.toList 0 cur w hheap (by rw [hcl]; omega) g2
  simp only [Nat.add_zero] at hrun
  refine ⟨_, ?_, Step.set hS hk hmk hro hcr (w' := w.setRow e.blk (cur.toList.take (row + fld) ++ cx.cells.toList ++ cur.toList.drop (row + fld + cx.cells.toList.length)).toArray) rfl rfl rfl (by simp) (fun j hj => setRow_other w e.blk j _ hj) ?_ rfl rfl⟩
  · obtain ⟨i, hi, hin⟩ := sizeT_some hn
    have hsz : cx.cells.size = i.size := by rw [hin, ← hcl]; simp
    simp only [hoff, hnc, Nat.mul_one, Nat.zero_add, Instr.storeAt, Instr.sureAddr, storeVar, Sem.run_bind, Sem.run_pure, Result.andThen_ok, run_sizeOf' hn]
    rw [if_neg (by simp [hsz, hin])]
    simpa using hrun
  · have hc'len : c'.len = e.rows := by
      rw [← Col.list_len, hlist]
      simp only [List.length_append, List.length_take, List.length_drop, Col.list_len]
      omega
    refine ⟨by rw [hb.nc, hcols]; rfl, hc'len.symm, ?_, ?_, ?_, ?_, hb.room, hb.max, ?_⟩
    · intro c0 hc0
      simp only [List.mem_singleton] at hc0
      subst hc0; exact hc'len
    · intro r f col v hc hv
      cases f with
      | succ f => simp at hc
      | zero =>
        simp only [List.getElem?_cons_zero, Option.some.injEq] at hc
        subst hc
        rw [hlist] at hv
        have hrl : r < e.rows := by
          have := (List.getElem?_eq_some_iff.1 hv).1
          simp only [List.length_append, List.length_take, List.length_drop, Col.list_len] at this
          omega
        have hcell : (w.setRow e.blk (cur.toList.take (row + fld) ++ cx.cells.toList ++ cur.toList.drop (row + fld + cx.cells.toList.length)).toArray).cell? ⟨e.blk, e.off + (r * e.nc + 0), none⟩ =
            if row + fld ≤ r ∧ r < row + fld + n then cx.cells.toList[r - (row + fld)]? else cur.toList[r]? := by
          rw [hoff, hnc, Nat.zero_add, Nat.mul_one, Nat.add_zero, cell_setRow_same w e.blk r cur _ b.et (0, 0) hheap]
          have := laid_at (l := cur.toList) (vs := cx.cells.toList) (o := row + fld) (by rw [hcl]; simp; omega) r
          rw [hcl] at this ⊢
          rw [← this]
          simp
        rw [hcell]
        have hv2 : (if row + fld ≤ r ∧ r < row + fld + n then x.cells[r - (row + fld)]? else c.list[r]?) = some v := by
          rw [← hv]
          by_cases hin : row + fld ≤ r ∧ r < row + fld + n
          · rw [if_pos hin, List.append_assoc, List.getElem?_append_right (by simp [Col.list_len]; omega), List.getElem?_append_left (by simp [Col.list_len]; omega)]
            congr 1
            simp [Col.list_len]; omega
          · rw [if_neg hin]
            by_cases h1 : r < row + fld
            · rw [List.append_assoc, List.getElem?_append_left (by simp [Col.list_len]; omega), List.getElem?_take_of_lt h1]
            · rw [List.getElem?_append_right (by simp [Col.list_len]; omega), List.getElem?_drop]
              congr 1
              simp [Col.list_len]; omega
        by_cases hin : row + fld ≤ r ∧ r < row + fld + n
        · rw [if_pos hin] at hv2 ⊢
          obtain ⟨y, d1, d2⟩ := g1.look _ _ hv2
          exact ⟨y, d1, g2 y (List.mem_of_getElem? d1), d2⟩
        · rw [if_neg hin] at hv2 ⊢
          obtain ⟨y, d1, d2, d3⟩ := hb.cells r 0 c v (by rw [hcols]; rfl) hv2
          rw [hoff, hnc, Nat.zero_add, Nat.mul_one, Nat.add_zero, cell_of_row w e.blk _ cur b.et (0, 0) hheap] at d1
          exact ⟨y, by simpa using d1, d2, d3⟩
    · intro _ _ _
      refine ⟨hoff, _, setRow_heap w e.blk cur _ b.et (0, 0) hheap, ?_⟩
      simp only [List.size_toArray, List.length_append, List.length_take, List.length_drop, Array.length_toList, hcl]
      rw [hnc, Nat.mul_one]; omega
    · intro _; simpa using hb.lt hcr
    · intro es hes
      have hrw : (⟨[c'], b.et, false, b.mv⟩ : Blk).rows = e.rows := hc'len
      rw [sp_rows (by rw [hrw]; omega)] at hes; cases hes
theorem storeV_rel [Pins] (hS : Sim E m w) {t : TypeId} {p x : V} {cp cx : Value} (hp : VRel E p cp) (hx : VRel E x cx) {m' : Mem} (h : storeV P t m p x = some m') :
    ∃ w', (Instr.storeAt t cp cx).run P w = .ok () w' ∧ Step E m w E m' w' := by
  unfold storeV at h
  split at h
  · rename_i k row fld
    simp only [VRel] at hp
    obtain ⟨e, hk, hr, rfl⟩ := hp
    obtain ⟨hmk, hb⟩ := getD_blk hS hk
    generalize hbb : m.getD k default = b at h hmk hb
    split at h
    · rename_i n cs hn hro hcs
      split at h
      · rename_i hst
        simp only [Bool.and_eq_true, beq_iff_eq, decide_eq_true_eq] at hst
        obtain ⟨hsto, hst, hpos⟩ := hst
        cases h
        obtain ⟨g1, g2⟩ := sto_cells hx hsto
        have hroom := hb.room
        have hcr : e.cr ≠ 0 := by omega
        obtain ⟨hoff, cur, hheap, hcur⟩ := hb.own hro hcr (sp_rows (by have := hb.rows; omega))
        obtain ⟨q1, q2', q3⟩ := wrCols_spec hcs
        have q2 := q2' (by intro h0; rw [h0] at hst; simp at hst; omega)
        have hcl : cx.cells.toList.length = n := by rw [← g1.length, hst]
        have hnc := hb.nc
        have hfitc : row * e.nc + fld + n ≤ cur.size := by
          have h3 : (row + 1) * e.nc ≤ e.cr * e.nc := Nat.mul_le_mul_right _ (by omega)
          rw [Nat.succ_mul] at h3
          omega
        have hrun := run_storeCells_at P e.blk (row * e.nc + fld) b.et cx.cells.toList 0 cur w hheap (by rw [hcl]; omega) g2
        simp only [Nat.add_zero] at hrun
        refine ⟨_, ?_, Step.set hS hk hmk hro hcr (w' := w.setRow e.blk (cur.toList.take (row * e.nc + fld) ++ cx.cells.toList ++ cur.toList.drop (row * e.nc + fld + cx.cells.toList.length)).toArray) rfl rfl rfl (by simp) (fun j hj => setRow_other w e.blk j _ hj) ?_ rfl rfl⟩
        · obtain ⟨i, hi, hin⟩ := sizeT_some hn
          have hsz : cx.cells.size = i.size := by rw [hin, ← hcl]; simp
          simp only [hoff, Nat.zero_add, Instr.storeAt, Instr.sureAddr, storeVar, Sem.run_bind, Sem.run_pure, Result.andThen_ok, run_sizeOf' hn]
          rw [if_neg (by simp [hsz, hin])]
          simpa using hrun
        · have hne : b.cols ≠ [] := by
            intro hc0
            have := hb.rows
            rw [Blk.rows, hc0] at this
            simp at this; omega
          have hlens : ∀ col ∈ cs, col.len = e.rows := by
            intro col hcol
            obtain ⟨f, hf, rfl⟩ := List.getElem_of_mem hcol
            obtain ⟨c0, f1, f2⟩ := q3 f _ (List.getElem?_eq_getElem hf)
            rw [← Col.list_len, f2]
            have := hb.len c0 (List.mem_of_getElem? f1)
            split <;> simp [Col.list_len, this]
          have hrw : e.rows = (⟨cs, b.et, false, b.mv⟩ : Blk).rows := (rows_of_cols (b := ⟨cs, b.et, false, b.mv⟩) (by intro h0; simp only at h0; rw [h0] at q1; exact hne (List.eq_nil_of_length_eq_zero (by simpa using q1.symm))) hlens).symm
          refine ⟨by simp [q1, hnc], ?_, hlens, ?_, ?_, ?_, hb.room, hb.max, ?_⟩
          · exact (rows_of_cols (b := ⟨cs, b.et, false, b.mv⟩) (by intro h0; simp only at h0; rw [h0] at q1; exact hne (List.eq_nil_of_length_eq_zero (by simpa using q1.symm))) hlens).symm
          · intro row' f col v hc hv
            obtain ⟨c0, f1, f2⟩ := q3 f col hc
            have hfn : f < e.nc := hb.fld f1
            have hrow' : row' < e.rows := by
              have : col.list.length = e.rows := by rw [Col.list_len]; exact hlens col (List.mem_of_getElem? hc)
              rw [← this]; exact (List.getElem?_eq_some_iff.1 hv).1
            have hcell : ∀ j, (w.setRow e.blk (cur.toList.take (row * e.nc + fld) ++ cx.cells.toList ++ cur.toList.drop (row * e.nc + fld + cx.cells.toList.length)).toArray).cell? ⟨e.blk, e.off + j, none⟩ =
                if row * e.nc + fld ≤ j ∧ j < row * e.nc + fld + n then cx.cells.toList[j - (row * e.nc + fld)]? else cur.toList[j]? := by
              intro j
              rw [hoff, Nat.zero_add, cell_setRow_same w e.blk j cur _ b.et (0, 0) hheap]
              have := laid_at (l := cur.toList) (vs := cx.cells.toList) (o := row * e.nc + fld) (by rw [hcl]; simpa using hfitc) j
              rw [hcl] at this ⊢
              rw [← this]
              simp
            rw [hcell]
            have hold : ∀ v0, c0.list[row']? = some v0 → ∃ c, cur.toList[row' * e.nc + f]? = some c ∧ c.oneCell' = true ∧ VRel E v0 c := by
              intro v0 hv0
              obtain ⟨c, d1, d2, d3⟩ := hb.cells row' f c0 v0 f1 hv0
              rw [hoff, Nat.zero_add, cell_of_row w e.blk _ cur b.et (0, 0) hheap] at d1
              exact ⟨c, by simpa using d1, d2, d3⟩
            by_cases hin : fld ≤ f ∧ f < fld + x.cells.length
            · rw [if_pos hin] at f2
              rw [f2] at hv
              by_cases hrr : row' = row
              · subst hrr
                rw [List.getElem?_set_self (by rw [Col.list_len, hb.len c0 (List.mem_of_getElem? f1)]; exact hrow')] at hv
                cases hv
                rw [if_pos (by omega)]
                have hj : f - fld < x.cells.length := by omega
                obtain ⟨c, d1, d2⟩ := g1.look (f - fld) (x.cells[f - fld]) (List.getElem?_eq_getElem hj)
                refine ⟨c, by rw [← d1]; congr 1; omega, g2 c (List.mem_of_getElem? d1), ?_⟩
                rw [List.getD_eq_getElem?_getD, List.getElem?_eq_getElem hj]
                exact d2
              · rw [List.getElem?_set_ne (by omega)] at hv
                rw [if_neg]
                · exact hold v hv
                · intro hh
                  have hfx : fld + n ≤ e.nc := by omega
                  have : row' = row := by
                    have h5 : row' * e.nc + f = row * e.nc + (fld + (row' * e.nc + f - (row * e.nc + fld))) := by omega
                    exact (cell_uniq hfn (by omega) h5).1
                  exact hrr this
            · rw [if_neg hin] at f2
              rw [f2] at hv
              rw [if_neg]
              · exact hold v hv
              · intro hh
                have hfx : fld + n ≤ e.nc := by omega
                have h5 : row' * e.nc + f = row * e.nc + (fld + (row' * e.nc + f - (row * e.nc + fld))) := by omega
                obtain ⟨_, h6⟩ := cell_uniq hfn (by omega) h5
                omega
          · intro _ _ _
            refine ⟨hoff, _, setRow_heap w e.blk cur _ b.et (0, 0) hheap, ?_⟩
            simp only [List.size_toArray, List.length_append, List.length_take, List.length_drop, Array.length_toList, hcl]
            rw [← hcur]; omega
          · intro _; simpa using hb.lt hcr
          · intro es hes
            rw [sp_rows (by omega)] at hes; cases hes
      · cases h
    · rename_i n hn hro hcs
      split at h
      · rename_i c hcols
        split at h
        · rename_i c' hset
          split at h
          · rename_i hst
            simp only [Bool.and_eq_true, beq_iff_eq, decide_eq_true_eq] at hst
            cases h
            exact storeF_rel hS hk hr hx hbb hcols hro hn hset hst.1 hst.2.1 hst.2.2.1 hst.2.2.2
          · cases h
        · cases h
      · cases h
    · cases h
  · cases h
theorem goes_store [Pins] (hS : Sim E m w) (hρ : ERel E ρ a.tmps.toList) {t : TypeId} {x y : Operand} (ho : o.op = .store t x y) {m' : Mem} (h : storeV P t m (opd ρ x) (opd ρ y) = some m') : Goes P o a E m w .undef ρ m' := by
  obtain ⟨w', h1, h2⟩ := storeV_rel hS (opd_rel (a := a) hρ x) (opd_rel (a := a) hρ y) h
  exact ⟨E, undef, w', .inr ⟨by simp [execOp, ho, h1], rfl⟩, h2, by simp [VRel], hρ⟩
end
end Go.Ab
