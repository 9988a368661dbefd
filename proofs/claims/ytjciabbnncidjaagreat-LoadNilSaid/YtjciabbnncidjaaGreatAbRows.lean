/- A slice of structs of whole numbers, texts and truth values that was handed in. -/
import Derived.Test.YtjciabbnncidjaaGreatAbLaw
set_option linter.unusedSimpArgs false
set_option linter.unusedVariables false
namespace Go.Ab
open Go

/-- What a field holds. -/
inductive CK where
  | int (k : IntKind)
  | bool
  | str
def CK.is : CK → TypeDesc → Bool
  | .int k, .int k' => decide (k' = k)
  | .bool, .bool => true
  | .str, .string => true
  | _, _ => false
def CK.val : CK → Value → Prop
  | .int k, c => ∃ n, c = .int k n ∧ inR k n = true
  | .bool, c => ∃ b, c = .bool b
  | .str, c => ∃ s, c = .string s ∧ s.size ≤ 9223372036854775807
def CK.fits : CK → Col → Prop
  | .int k, c => ∃ xs, c = .ints k xs ∧ ∀ n ∈ xs, inR k n = true
  | .bool, c => ∃ xs, c = .bools xs
  | .str, c => ∃ xs, c = .strs xs
/-- The fields, one cell each, one behind the other. -/
def fieldsOk (P : Program) : List Field → List CK → Nat → Bool
  | [], [], _ => true
  | f :: fs, k :: ks, i => (match P.underlying f.type with | some d => k.is d | none => false) && (Nat.beq f.offset i && (Nat.beq (P.cellsOf f.type) 1 && fieldsOk P fs ks (i + 1)))
  | _, _, _ => false
theorem fieldsOk_at [Pins] {P : Program} : ∀ {fs : List Field} {ks : List CK} {n i : Nat} {k : CK}, fieldsOk P fs ks n = true → ks[i]? = some k → ∃ f d, fs[i]? = some f ∧ P.underlying f.type = some d ∧ k.is d = true ∧ f.offset = n + i ∧ P.cellsOf f.type = 1
  | [], [], _, i, k, _, hk => by simp at hk
  | [], _ :: _, _, _, _, h, _ => by simp [fieldsOk] at h
  | _ :: _, [], _, _, _, _, hk => by simp at hk
  | f :: fs, k0 :: ks, n, i, k, h, hk => by
    simp only [fieldsOk, Bool.and_eq_true] at h
    obtain ⟨h1, h2, h3, h4⟩ := h
    cases i with
    | zero =>
      simp only [List.getElem?_cons_zero, Option.some.injEq] at hk
      subst hk
      cases hu : P.underlying f.type with
      | none => rw [hu] at h1; cases h1
      | some d => rw [hu] at h1; exact ⟨f, d, rfl, hu, h1, Nat.eq_of_beq_eq_true h2, Nat.eq_of_beq_eq_true h3⟩
    | succ i =>
      rw [List.getElem?_cons_succ] at hk
      obtain ⟨f', d, g1, g2, g3, g4, g5⟩ := fieldsOk_at h4 hk
      exact ⟨f', d, by simpa using g1, g2, g3, by omega, g5⟩
theorem pick_list [Pins] {α : Type} {Q : Nat → α → Prop} : ∀ {n : Nat}, (∀ i, i < n → ∃ x, Q i x) → ∃ xs : List α, xs.length = n ∧ ∀ i x, xs[i]? = some x → Q i x
  | 0, _ => ⟨[], rfl, by simp⟩
  | n + 1, h => by
    obtain ⟨xs, h1, h2⟩ := pick_list (n := n) fun i hi => h i (by omega)
    obtain ⟨x, hx⟩ := h n (by omega)
    refine ⟨xs ++ [x], by simp [h1], fun i y hy => ?_⟩
    by_cases hi : i < n
    · rw [List.getElem?_append_left (by omega)] at hy; exact h2 i y hy
    · rw [List.getElem?_append_right (by omega)] at hy
      have : i - xs.length = 0 := by
        have := (List.getElem?_eq_some_iff.1 hy).1
        simpa using this
      rw [this] at hy
      simp at hy
      subst hy
      obtain rfl : i = n := by omega
      exact hx
theorem col_of [Pins] (k : CK) {n : Nat} {Q : Nat → Value → Prop} (h : ∀ r, r < n → ∃ c, Q r c ∧ k.val c) : ∃ col : Col, k.fits col ∧ col.len = n ∧ ∀ r v, col.list[r]? = some v → ∃ c, Q r c ∧ c.oneCell' = true ∧ ∀ E, VRel E v c := by
  cases k with
  | int k =>
    obtain ⟨xs, h1, h2⟩ := pick_list (Q := fun r x => Q r (.int k x) ∧ inR k x = true) fun r hr => by
      obtain ⟨c, hq, n, rfl, hn⟩ := h r hr; exact ⟨n, hq, hn⟩
    refine ⟨.ints k xs, ⟨xs, rfl, fun n hn => ?_⟩, h1, fun r v hv => ?_⟩
    · obtain ⟨i, hi⟩ := List.getElem?_of_mem hn; exact (h2 i n hi).2
    · simp only [Col.list, List.getElem?_map, Option.map_eq_some_iff] at hv
      obtain ⟨n, hn, rfl⟩ := hv
      exact ⟨_, (h2 r n hn).1, rfl, fun E => by simp only [VRel]; exact ⟨trivial, (h2 r n hn).2⟩⟩
  | bool =>
    obtain ⟨xs, h1, h2⟩ := pick_list (Q := fun r (x : Bool) => Q r (.bool x)) fun r hr => by
      obtain ⟨c, hq, b, rfl⟩ := h r hr; exact ⟨b, hq⟩
    refine ⟨.bools xs, ⟨xs, rfl⟩, h1, fun r v hv => ?_⟩
    simp only [Col.list, List.getElem?_map, Option.map_eq_some_iff] at hv
    obtain ⟨n, hn, rfl⟩ := hv
    exact ⟨_, h2 r n hn, rfl, fun E => by simp only [VRel]⟩
  | str =>
    obtain ⟨xs, h1, h2⟩ := pick_list (Q := fun r (x : List Int) => ∃ s : ByteArray, Q r (.string s) ∧ bytesI s = x ∧ s.size ≤ 9223372036854775807) fun r hr => by
      obtain ⟨c, hq, s, rfl, hs⟩ := h r hr; exact ⟨bytesI s, s, hq, rfl, hs⟩
    refine ⟨.strs xs, ⟨xs, rfl⟩, h1, fun r v hv => ?_⟩
    simp only [Col.list, List.getElem?_map, Option.map_eq_some_iff] at hv
    obtain ⟨n, hn, rfl⟩ := hv
    obtain ⟨s, g1, g2, g3⟩ := h2 r n hn
    exact ⟨_, g1, rfl, fun E => by simp only [VRel]; exact ⟨s, rfl, g2, g3⟩⟩
section
variable {H : Type} {enc : TypeId × Value → H} {P : Program} {W : World}
theorem trod_leaf [Pins] {k : CK} {d : TypeDesc} {t : TypeId} {base : Nat} {sp : Nat → Bool} {held : Bool} {n : Nat} {cs : List Value} {y : DataW H × List MemPlace} (hk : k.is d = true) (ht : P.underlying t = some d) (h : DataW.trod enc P W base sp held n t cs = some y) : ∃ c, cs = [c] ∧ k.val c := by
  cases k with
  | int k =>
    cases d <;> simp only [CK.is] at hk <;> first | (cases hk; done) | skip
    have hk' := of_decide_eq_true hk
    subst hk'
    obtain ⟨m, rfl, rfl, hw⟩ := DataW.trod_int ht h
    exact ⟨_, rfl, m, rfl, by simpa [inR, Lit.wf] using hw⟩
  | bool =>
    cases d <;> simp only [CK.is] at hk <;> first | (cases hk; done) | skip
    obtain ⟨b, rfl, rfl⟩ := DataW.trod_bool ht h
    exact ⟨_, rfl, b, rfl⟩
  | str =>
    cases d <;> simp only [CK.is] at hk <;> first | (cases hk; done) | skip
    obtain ⟨s, rfl, rfl, hs⟩ := DataW.trod_string ht h
    exact ⟨_, rfl, s, rfl, by simp only [maxLen] at hs; omega⟩
theorem open_rows [Pins] {t e : TypeId} {fs : Array Field} {cks : List CK} {fuel : Nat} {base : Nat} {held : Bool} {v : Value} {x : DataW H × List MemPlace} (ht : P.underlying t = some (.slice e)) (he : P.underlying e = some (.struct fs))
    (hc : P.cellsOf e = cks.length) (hpos : 0 < cks.length) (hf : fieldsOk P fs.toList cks 0 = true)
    (hok : Value.okWide P W .any base t v) (h : DataW.trod enc P W 0 (fun _ => true) held fuel t v.cells.toList = some x) :
    ∃ (cs : List Col) (be : BE), cs.length = cks.length ∧ (∀ (i : Nat) (k : CK) (c : Col), cks[i]? = some k → cs[i]? = some c → k.fits c ∧ c.len = be.rows) ∧ (∀ E j, E j = some be → VRel E (.sl j 0 none none) v) ∧
      (∀ E et, BlkRel E W ⟨cs, et, true, false⟩ be) ∧ ((x.1 = .nil ∧ be.rows = 0) ∨ ∃ elems spare, x.1 = .slice elems spare ∧ elems.length = be.rows) := by
  have hv1 : v.cells.toList = [v] := by
    unfold Value.okWide Cell.okWide Cell.ok at hok
    simp only [ht] at hok
    cases v <;> first | rfl | exact hok.elim
  rw [hv1] at h
  -- the block, from its columns
  have mk : ∀ (be : BE) (hnc : be.nc = cks.length) (hroom : be.rows ≤ be.cr) (hmax : be.cr ≤ maxLen) (hlt : be.cr ≠ 0 → be.blk < W.heap.size)
      (hcell : ∀ (r i : Nat) (k : CK), r < be.rows → cks[i]? = some k → ∃ c, W.cell? ⟨be.blk, be.off + (r * be.nc + i), none⟩ = some c ∧ k.val c),
      ∃ cs : List Col, cs.length = cks.length ∧ (∀ (i : Nat) (k : CK) (c : Col), cks[i]? = some k → cs[i]? = some c → k.fits c ∧ c.len = be.rows) ∧ ∀ E et, BlkRel E W ⟨cs, et, true, false⟩ be := by
    intro be hnc hroom hmax hlt hcell
    obtain ⟨cs, hcl, hcs⟩ := pick_list (n := cks.length) (Q := fun i col => ∀ k, cks[i]? = some k → k.fits col ∧ col.len = be.rows ∧ ∀ r v, col.list[r]? = some v → ∃ c, W.cell? ⟨be.blk, be.off + (r * be.nc + i), none⟩ = some c ∧ c.oneCell' = true ∧ ∀ E, VRel E v c) fun i hi => by
      obtain ⟨col, g1, g2, g3⟩ := col_of cks[i] (n := be.rows) (Q := fun r c => W.cell? ⟨be.blk, be.off + (r * be.nc + i), none⟩ = some c) fun r hr => hcell r i _ hr (List.getElem?_eq_getElem hi)
      exact ⟨col, fun k hk => by rw [List.getElem?_eq_getElem hi] at hk; cases hk; exact ⟨g1, g2, g3⟩⟩
    have hk : ∀ (i : Nat) (c : Col), cs[i]? = some c → ∃ k, cks[i]? = some k := fun i c hc => by
      have := (List.getElem?_eq_some_iff.1 hc).1
      exact ⟨_, List.getElem?_eq_getElem (by omega)⟩
    have hlen : ∀ c ∈ cs, c.len = be.rows := fun c hc => by
      obtain ⟨i, hi⟩ := List.getElem?_of_mem hc
      obtain ⟨k, hk⟩ := hk i c hi
      exact (hcs i c hi k hk).2.1
    refine ⟨cs, hcl, fun i k c hk hc => ⟨(hcs i c hc k hk).1, (hcs i c hc k hk).2.1⟩, fun E et => ⟨by rw [hnc]; exact hcl.symm, ?_, hlen, ?_, by simp, hlt, hroom, hmax, ?_⟩⟩
    · cases cs with
      | nil => simp at hcl; omega
      | cons c l => simp only [Blk.rows]; exact (hlen c (by simp)).symm
    · intro row fld col v hcol hrow
      obtain ⟨k, hk⟩ := hk fld col hcol
      obtain ⟨c, g1, g2, g3⟩ := (hcs fld col hcol k hk).2.2 row v hrow
      exact ⟨c, g1, g2, g3 E⟩
    · intro c hc
      obtain ⟨g1, g2⟩ := Blk.sp_some hc
      simp only at g1
      have hc0 : cs[0]? = some c := by rw [g1]; rfl
      obtain ⟨k, hk⟩ := hk 0 c hc0
      have := (hcs 0 c hc0 k hk).1
      cases k <;> simp only [CK.fits] at this
      · obtain ⟨xs, rfl, _⟩ := this; simp [Col.plain] at g2
      · obtain ⟨xs, rfl⟩ := this; simp [Col.plain] at g2
      · obtain ⟨xs, rfl⟩ := this; simp [Col.plain] at g2
  rcases DataW.trod_slice ht h with ⟨hv, rfl⟩ | ⟨a, len, cap, elems, rest, n, _, hv, rfl, hb, hl, hm, hlen, hel, hsp, hns⟩
  · obtain rfl := List.cons.inj hv |>.1
    obtain ⟨cs, g1, g2, g3⟩ := mk ⟨0, 0, 0, cks.length, 0⟩ rfl (Nat.le_refl _) (by simp) (by simp) (fun r i k hr _ => by simp at hr)
    refine ⟨cs, _, g1, g2, fun E j hj => ?_, g3, .inl ⟨rfl, rfl⟩⟩
    simp only [VRel]
    exact ⟨_, none, 0, hj, rfl, Nat.le_refl _, Nat.le_refl _, rfl, by simp⟩
  · obtain rfl := List.cons.inj hv |>.1
    have hhas : W.has P .any base a e cap := by
      unfold Value.okWide Cell.okWide Cell.ok at hok
      simp only [ht] at hok
      exact hok.2.2
    obtain ⟨_, hspot, row, cells, hsh, _⟩ := hhas
    have hadd : ∀ i, a.add i = ⟨a.block, a.off + i, none⟩ := fun i => by
      obtain ⟨b, o, s⟩ := a
      simp only at hspot
      subst hspot
      cases i <;> simp [Addr.add]
    have hadd2 : ∀ i j, (a.add i).add j = ⟨a.block, a.off + (i + j), none⟩ := fun i j => by
      rw [hadd]
      cases j <;> simp [Addr.add, Nat.add_assoc]
    have hlt : a.block < W.heap.size := by
      unfold World.shape? at hsh
      rcases Nat.lt_or_ge a.block W.heap.size with h | h
      · exact h
      · rw [Array.getElem?_eq_none h] at hsh; cases hsh
    obtain ⟨cs, g1, g2, g3⟩ := mk ⟨a.block, a.off, cap, cks.length, len⟩ rfl hl hm (fun _ => hlt) (fun r i k hr hk => by
      have hr' : r < len := hr
      have h1 := hel r hr'
      rw [List.getElem?_eq_getElem (by omega), Option.bind_eq_some_iff] at h1
      obtain ⟨cs', hcs', hy⟩ := h1
      obtain ⟨ys, n', _, _, hl', hys, hfld⟩ := DataW.trod_struct he hy
      obtain ⟨f, d, q1, q2, q3, q4, q5⟩ := fieldsOk_at hf hk
      have hfs : fs[i]? = some f := by simpa using q1
      have hfy := hfld i f hfs
      have hil : i < ys.length := by rw [hys]; exact (Array.getElem?_eq_some_iff.1 hfs).1
      rw [List.getElem?_eq_getElem hil, q4, q5, Nat.zero_add] at hfy
      obtain ⟨c, hc1, hc2⟩ := trod_leaf q3 q2 hfy
      have hci : i < cs'.length := by
        have := congrArg List.length hc1
        simp at this; omega
      have hcc : cs'[i]? = some c := by
        have := congrArg (·[0]?) hc1
        simpa [List.getElem?_take, List.getElem?_drop] using this
      have hcell := (World.cells?_some hcs').2.2 i (by omega)
      rw [hcc, hadd2, hc] at hcell
      exact ⟨c, hcell, hc2⟩)
    refine ⟨cs, _, g1, g2, fun E j hj => ?_, g3, .inr ⟨_, _, rfl, by simpa using hlen⟩⟩
    simp only [VRel]
    refine ⟨_, some a, cap, hj, rfl, by simp [slN], by simpa [slN] using hl, by simp [CapOk], fun _ => ?_⟩
    obtain ⟨b, o, s⟩ := a
    simp only at hspot
    subst hspot
    simp
end
end Go.Ab
