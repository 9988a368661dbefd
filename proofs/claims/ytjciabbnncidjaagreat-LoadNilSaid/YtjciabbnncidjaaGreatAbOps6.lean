/- Operations, part 6: slices: reading, cutting, appending. -/
import Derived.Test.YtjciabbnncidjaaGreatAbOps5
import Derived.Laws.MakeOwn
set_option linter.unusedSimpArgs false
set_option linter.unusedVariables false
namespace Go.Ab
open Go
section
variable {P : Program} {o : Oper} {a : Act} {E : Wh} {m : Mem} {w : World} {ρ : Env}

theorem slen_eq [Pins] (hS : Sim E m w) {k row : Nat} {e : BE} {len : Option Nat} (hk : E k = some e) : slen m k row len = slN e row len := by
  cases len with
  | some n => rfl
  | none =>
    obtain ⟨_, hb⟩ := getD_blk hS hk
    simp [slen, slN, hb.rows]
theorem addN_eq [Pins] (x y : Nat) : addN x y = x + y := by cases x <;> simp [addN]

/-! ### Cells of rows -/
/-- A list of concrete cells beside columns. -/
structure Mat [Pins] (E : Wh) (cols : List Col) (n : Nat) (cs : List Value) : Prop where
  len : ∀ c ∈ cols, c.len = n
  size : cs.length = n * cols.length
  one : ∀ u ∈ cs, u.oneCell' = true
  cells : ∀ (row fld : Nat) (col : Col) (v : V), cols[fld]? = some col → col.list[row]? = some v → ∃ c, cs[row * cols.length + fld]? = some c ∧ VRel E v c
theorem Mat.mono [Pins] {E' : Wh} {cols : List Col} {n : Nat} {cs : List Value} (h : Mat E cols n cs) (hE : ∀ k e, E k = some e → E' k = some e) : Mat E' cols n cs :=
  ⟨h.len, h.size, h.one, fun row fld col v hc hv => let ⟨c, h1, h2⟩ := h.cells row fld col v hc hv; ⟨c, h1, h2.mono hE⟩⟩
/-- A block's cells, all of them. -/
theorem BlkRel.cellAt [Pins] {b : Blk} {e : BE} (hb : BlkRel E w b e) (j : Nat) (hj : j < e.rows * e.nc) : ∃ c, w.cell? ⟨e.blk, e.off + j, none⟩ = some c ∧ c.oneCell' = true := by
  have hnc : 0 < e.nc := Nat.pos_of_ne_zero fun h => by rw [h] at hj; simp at hj
  have hf : j % e.nc < b.cols.length := by rw [← hb.nc]; exact Nat.mod_lt _ hnc
  have hr : j / e.nc < e.rows := Nat.div_lt_of_lt_mul (by rwa [Nat.mul_comm])
  have hl := hb.len _ (List.getElem_mem hf)
  obtain ⟨c, h1, h2, _⟩ := hb.cells (j / e.nc) (j % e.nc) _ _ (List.getElem?_eq_getElem hf) (Col.list_get _ _ (by omega))
  rw [Nat.mul_comm, Nat.div_add_mod] at h1
  exact ⟨c, h1, h2⟩
theorem list_of [Pins] {α : Type} (f : Nat → Option α) : ∀ n, (∀ j, j < n → ∃ c, f j = some c) → ∃ l : List α, l.length = n ∧ ∀ j, j < n → l[j]? = f j
  | 0, _ => ⟨[], rfl, by intro j hj; omega⟩
  | n + 1, h => by
    obtain ⟨l, h1, h2⟩ := list_of f n fun j hj => h j (by omega)
    obtain ⟨c, hc⟩ := h n (by omega)
    refine ⟨l ++ [c], by simp [h1], fun j hj => ?_⟩
    by_cases hjn : j < n
    · rw [List.getElem?_append_left (by omega)]; exact h2 j hjn
    · obtain rfl : j = n := by omega
      rw [List.getElem?_append_right (by omega), h1, Nat.sub_self, hc]; rfl
/-- The cells of a block's rows from 'row' on, 'n' of them. -/
theorem BlkRel.mat [Pins] {b : Blk} {e : BE} (hb : BlkRel E w b e) {row n : Nat} (h : row + n ≤ e.rows) :
    ∃ cs : List Value, Mat E (b.cols.map (Col.win row n)) n cs ∧ ∀ (j : Nat) (c : Value), cs[j]? = some c → w.cell? ⟨e.blk, e.off + row * e.nc + j, none⟩ = some c := by
  have hlim : ∀ j, j < n * e.nc → row * e.nc + j < e.rows * e.nc := by
    intro j hj
    have : (row + n) * e.nc ≤ e.rows * e.nc := Nat.mul_le_mul_right _ h
    rw [Nat.add_mul] at this
    omega
  obtain ⟨cs, h1, h2⟩ := list_of (fun j => w.cell? ⟨e.blk, e.off + row * e.nc + j, none⟩) (n * e.nc) (by
    intro j hj
    obtain ⟨c, hc, _⟩ := hb.cellAt (row * e.nc + j) (hlim j hj)
    exact ⟨c, by rw [← hc, Nat.add_assoc]⟩)
  refine ⟨cs, ⟨?_, by rw [h1, List.length_map, hb.nc], ?_, ?_⟩, ?_⟩
  · intro c hc
    simp only [List.mem_map] at hc
    obtain ⟨c0, h0, rfl⟩ := hc
    rw [← Col.list_len, Col.list_win, List.length_take, List.length_drop, Col.list_len, hb.len c0 h0]
    omega
  · intro u hu
    obtain ⟨j, hj, rfl⟩ := List.getElem_of_mem hu
    have h3 := h2 j (by omega)
    rw [List.getElem?_eq_getElem hj] at h3
    obtain ⟨c, hc, ho⟩ := hb.cellAt (row * e.nc + j) (hlim j (by omega))
    rw [← Nat.add_assoc, ← h3] at hc
    obtain rfl := Option.some.inj hc
    exact ho
  · intro r fld col v hc hv
    rw [List.getElem?_map, Option.map_eq_some_iff] at hc
    obtain ⟨c0, hc0, rfl⟩ := hc
    rw [Col.list_win] at hv
    have hrn : r < n := by
      have := (List.getElem?_eq_some_iff.1 hv).1
      simp at this; omega
    rw [List.getElem?_take_of_lt hrn, List.getElem?_drop] at hv
    obtain ⟨c, g1, _, g3⟩ := hb.cells (row + r) fld c0 v hc0 hv
    have hfld := hb.fld hc0
    refine ⟨c, ?_, g3⟩
    rw [List.length_map, ← hb.nc]
    have hjl : r * e.nc + fld < n * e.nc := by
      have : (r + 1) * e.nc ≤ n * e.nc := Nat.mul_le_mul_right _ hrn
      rw [Nat.succ_mul] at this
      omega
    rw [h2 _ hjl, ← g1]
    congr 2
    rw [Nat.add_mul]; omega
  · intro j c hc
    have hj : j < n * e.nc := by rw [← h1]; exact (List.getElem?_eq_some_iff.1 hc).1
    rw [← h2 j hj]; exact hc
theorem map_win_from [Pins] {cols : List Col} {n row : Nat} (h : ∀ c ∈ cols, c.len = n) : cols.map (Col.win row (n - row)) = cols.map (Col.from row) := by
  apply List.map_congr_left
  intro c hc
  have := h c hc
  cases c
  case mix k q xs vs =>
    simp only [Col.win, Col.from, Col.len] at this ⊢
    rw [Nat.ble_eq_true_of_le (show q + vs.length ≤ row + (n - row) by omega)]
  all_goals (simp only [Col.win, Col.from, Col.len] at this ⊢ <;> rw [List.take_of_length_le (by rw [List.length_drop]; omega)])
/-- What a slice reads as. -/
theorem sl_mat [Pins] (hS : Sim E m w) {k row : Nat} {len cap : Option Nat} {c : Value} (h : VRel E (.sl k row len cap) c) {xs : List Col} (hx : srcCols m (.sl k row len cap) = some xs) :
    ∃ ad n q, c = .slice ad n q ∧ n = slen m k row len ∧ n ≤ q ∧ ∃ cs : List Value, Mat E xs n cs ∧ xs.length = (m.getD k default).cols.length ∧ (ad = none → n = 0 ∨ xs = []) ∧ ∀ b, ad = some b → ∀ (j : Nat) (u : Value), cs[j]? = some u → w.cell? (b.add j) = some u := by
  simp only [VRel] at h
  obtain ⟨e, ad, q, hk, rfl, hfit, hq, hcap, had⟩ := h
  obtain ⟨_, hb⟩ := getD_blk hS hk
  have hn := slen_eq hS (row := row) (len := len) hk
  obtain ⟨cs, h1, h2⟩ := hb.mat hfit
  have hxs : xs = (m.getD k default).cols.map (Col.win row (slN e row len)) := by
    unfold srcCols at hx
    simp only at hx
    split at hx
    · cases hx
      rw [show slN e row none = e.rows - row from rfl]
      exact (map_win_from hb.len).symm
    · cases hx
      rfl
  refine ⟨ad, _, q, rfl, hn.symm, hq, cs, by rw [hxs]; exact h1, by rw [hxs, List.length_map], ?_, ?_⟩
  · intro hnone
    by_cases hq0 : q = 0
    · left; omega
    · rw [had hq0] at hnone; cases hnone
  · intro b hb' j u hu
    by_cases hq0 : q = 0
    · have : cs.length = 0 := by rw [h1.size]; rw [show slN e row len = 0 by omega]; simp
      rw [List.eq_nil_of_length_eq_zero this] at hu
      simp at hu
    · rw [had hq0] at hb'
      obtain rfl := Option.some.inj hb'
      rw [Addr.add_none]
      exact h2 j u hu
end
end Go.Ab
