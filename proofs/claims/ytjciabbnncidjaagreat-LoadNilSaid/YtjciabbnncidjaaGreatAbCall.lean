/- A call on the least memory: the callee's memory is the caller's, its blocks alone; what comes back fits into the caller's. -/
import Derived.Test.YtjciabbnncidjaaGreatAbMem
set_option linter.unusedVariables false
set_option linter.unusedSimpArgs false
namespace Go.Ab
open Go

/-! ## Lists of numbers -/
theorem mem?_iff [Pins] {k : Nat} : ∀ {js : List Nat}, mem? k js = true ↔ k ∈ js
  | [] => by simp [mem?]
  | j :: js => by
    simp only [mem?]
    cases h : Nat.beq j k with
    | true => have := Nat.eq_of_beq_eq_true h; simp [this]
    | false =>
      have : j ≠ k := Nat.ne_of_beq_eq_false h
      simp only [mem?_iff (js := js), List.mem_cons]
      exact ⟨.inr, fun hh => hh.resolve_left (fun e => this e.symm)⟩
theorem mem?_false [Pins] {k : Nat} {js : List Nat} (h : mem? k js = false) : k ∉ js := fun hh => by rw [mem?_iff.2 hh] at h; cases h
theorem idx?_some [Pins] {k : Nat} : ∀ {ks : List Nat} {i j : Nat}, idx? k i ks = some j → i ≤ j ∧ ks[j - i]? = some k
  | [], i, j, h => by simp [idx?] at h
  | x :: xs, i, j, h => by
    simp only [idx?] at h
    split at h
    · rename_i hb
      cases h
      simp [Nat.eq_of_beq_eq_true hb]
    · obtain ⟨h1, h2⟩ := idx?_some h
      refine ⟨by omega, ?_⟩
      rw [show j - i = (j - (i + 1)) + 1 by omega]
      simpa using h2
theorem idx?_get [Pins] {k j : Nat} {ks : List Nat} (h : idx? k 0 ks = some j) : ks[j]? = some k := by simpa using (idx?_some h).2
theorem idx?_of [Pins] {k : Nat} : ∀ {ks : List Nat} {i j : Nat}, ks.Nodup → ks[j]? = some k → idx? k i ks = some (i + j)
  | [], i, j, _, h => by simp at h
  | x :: xs, i, j, hn, h => by
    simp only [idx?]
    cases j with
    | zero =>
      simp at h
      subst h
      simp
    | succ j =>
      simp at h
      have hx : x ≠ k := fun e => by
        subst e
        exact (List.nodup_cons.1 hn).1 (List.mem_of_getElem? h)
      cases hb : Nat.beq x k with
      | true => exact absurd (Nat.eq_of_beq_eq_true hb) hx
      | false =>
        simp only
        rw [idx?_of (List.nodup_cons.1 hn).2 h]
        congr 1; omega
theorem idx?_none [Pins] {k : Nat} {ks : List Nat} (hn : ks.Nodup) (h : idx? k 0 ks = none) : k ∉ ks := fun hm => by
  obtain ⟨j, hj⟩ := List.mem_iff_getElem?.1 hm
  rw [idx?_of hn hj] at h
  cases h
theorem reach_ok [Pins] (m : Mem) : ∀ (n : Nat) (todo seen : List Nat), seen.Nodup → (∀ k ∈ seen, k < m.length) → (reach m n todo seen).Nodup ∧ ∀ k ∈ reach m n todo seen, k < m.length
  | 0, todo, seen, h, h' => by simpa [reach] using ⟨h, h'⟩
  | n + 1, [], seen, h, h' => by simpa [reach] using ⟨h, h'⟩
  | n + 1, k :: todo, seen, h, h' => by
    simp only [reach]
    split
    · rename_i b hm hb
      have hk : k < m.length := (List.getElem?_eq_some_iff.1 hb).1
      refine reach_ok m n _ _ ?_ ?_
      · rw [List.nodup_append]
        refine ⟨h, by simp, ?_⟩
        intro x hx y hy hxy
        simp at hy
        subst hy; subst hxy
        exact mem?_false hm hx
      · intro x hx
        simp at hx
        rcases hx with hx | rfl
        · exact h' x hx
        · exact hk
    · exact reach_ok m n todo seen h h'
theorem foot_nodup [Pins] (m : Mem) (vs : List V) : (foot m vs).Nodup := (reach_ok m _ _ _ (by simp) (by simp)).1
theorem foot_lt [Pins] (m : Mem) (vs : List V) : ∀ k ∈ foot m vs, k < m.length := (reach_ok m _ _ _ (by simp) (by simp)).2
theorem keep_nodup [Pins] (m : Mem) (a : Nat) (v : V) : (keep m a v).Nodup := by
  unfold keep
  rw [List.nodup_append]
  refine ⟨List.nodup_range, List.Pairwise.filter _ (reach_ok m _ _ _ (by simp) (by simp)).1, ?_⟩
  intro x hx y hy hxy
  subst hxy
  simp at hx hy
  have := hy.2
  omega
theorem keep_first [Pins] (m : Mem) (a : Nat) (v : V) {i : Nat} (h : i < a) : (keep m a v)[i]? = some i := by
  unfold keep
  rw [List.getElem?_append_left (by simpa using h)]
  simp [h]

/-! ## Blocks with other numbers -/
theorem BlkRel.ren [Pins] {E E' : Wh} {w w' : World} {b b' : Blk} {e : BE} {π : Nat → Option Nat} (h : BlkRel E w b e) (hE : ∀ k j, π k = some j → ∀ e, E k = some e → E' j = some e)
    (hw : e.cr ≠ 0 → w'.heap[e.blk]? = w.heap[e.blk]?) (hs : w.heap.size ≤ w'.heap.size)
    (hc : b'.cols = b.cols.map (Col.ren π)) (het : b'.et = b.et) (hro : b'.ro = b.ro) : BlkRel E' w' b' e := by
  have hmp : b'.sp = (b.ren π).sp := by unfold Blk.sp Blk.ren; rw [hc]
  refine ⟨by rw [h.nc, hc]; simp, ?_, ?_, ?_, ?_, fun hc => Nat.lt_of_lt_of_le (h.lt hc) hs, h.room, h.max, ?_⟩
  · rw [h.rows]
    unfold Blk.rows
    rw [hc]
    cases b.cols with
    | nil => rfl
    | cons c cs => simp only [List.map_cons]; rw [← Col.list_len, ← Col.list_len, Col.list_ren, List.length_map]
  · intro c hcm
    rw [hc, List.mem_map] at hcm
    obtain ⟨c0, h0, rfl⟩ := hcm
    rw [← h.len c0 h0, ← Col.list_len, Col.list_ren, List.length_map, Col.list_len]
  · intro row fld col v hcol hv
    rw [hc, List.getElem?_map, Option.map_eq_some_iff] at hcol
    obtain ⟨c0, h0, rfl⟩ := hcol
    rw [Col.list_ren, List.getElem?_map, Option.map_eq_some_iff] at hv
    obtain ⟨v0, hv0, rfl⟩ := hv
    obtain ⟨c, h1, h2, h3⟩ := h.cells row fld c0 v0 h0 hv0
    have hr : row < e.rows := by rw [← h.collen h0]; exact (List.getElem?_eq_some_iff.1 hv0).1
    have := h.room
    exact ⟨c, by rw [World.cell?_of_block (w := w) (hw (by omega))]; exact h1, h2, h3.ren (fun k _ j hj e he => hE k j hj e he)⟩
  · intro hf hcr hm
    rw [hro] at hf
    rw [hmp, Blk.sp_ren, Option.map_eq_none_iff] at hm
    obtain ⟨h1, cur, h2, h3⟩ := h.own hf hcr hm
    exact ⟨h1, cur, by rw [hw hcr, het]; exact h2, h3⟩
  · intro c hcs
    rw [hmp, Blk.sp_ren, Option.map_eq_some_iff] at hcs
    obtain ⟨c0, h0, rfl⟩ := hcs
    obtain ⟨hcr, ob, h1, h2⟩ := h.mo c0 h0
    exact ⟨hcr, ob, by rw [hw hcr]; exact h1, h2.ren hE⟩
def Ecut (E : Wh) (ks : List Nat) : Wh := fun i => match ks[i]? with | some k => E k | none => none
theorem Ecut_some [Pins] {E : Wh} {ks : List Nat} {i : Nat} {e : BE} (h : Ecut E ks i = some e) : ∃ k, ks[i]? = some k ∧ E k = some e := by
  unfold Ecut at h
  split at h
  · rename_i k hk; exact ⟨k, hk, h⟩
  · cases h
theorem Ecut_of [Pins] {E : Wh} {ks : List Nat} {i k : Nat} (h : ks[i]? = some k) : Ecut E ks i = E k := by simp [Ecut, h]
theorem getD_some [Pins] {m : Mem} {k : Nat} {b : Blk} (h : m[k]? = some b) : m.getD k default = b := by simp [List.getD_eq_getElem?_getD, h]
/-- Of some blocks alone. -/
theorem Sim.cutG [Pins] {E : Wh} {m : Mem} {w : World} (h : Sim E m w) {ks : List Nat} (hn : ks.Nodup) {mm : Mem}
    (hmm : ∀ (i k : Nat) (b : Blk), ks[i]? = some k → m[k]? = some b → ∃ b' : Blk, mm[i]? = some b' ∧ b'.cols = b.cols.map (Col.ren fun j => idx? j 0 ks) ∧ b'.et = b.et ∧ b'.ro = b.ro) : Sim (Ecut E ks) mm w := by
  refine ⟨?_, ?_, fun j hp => ⟨(h.tab j hp).1, fun ⟨i, e, b, he, hb, hro, hcr, hj⟩ => by
    obtain ⟨k, hk, hek⟩ := Ecut_some he
    obtain ⟨b0, hb0, _⟩ := h.blk k e hek
    obtain ⟨b1, hb1, _, _, h3⟩ := hmm i k b0 hk hb0
    rw [hb] at hb1
    obtain rfl := Option.some.inj hb1
    exact (h.tab j hp).2 ⟨k, e, b0, hek, hb0, by rw [← h3]; exact hro, hcr, hj⟩⟩⟩
  · intro i e he
    obtain ⟨k, hk, hek⟩ := Ecut_some he
    obtain ⟨b, hb, hr⟩ := h.blk k e hek
    obtain ⟨b', hb', h1, h2, h3⟩ := hmm i k b hk hb
    refine ⟨b', hb', hr.ren ?_ (fun _ => rfl) (Nat.le_refl _) h1 h2 h3⟩
    intro r j hj e he
    rw [Ecut_of (idx?_get hj)]; exact he
  · intro i e b i' e' he hb hro hcr he' hcr' hne
    obtain ⟨k, hk, hek⟩ := Ecut_some he
    obtain ⟨k', hk', hek'⟩ := Ecut_some he'
    obtain ⟨b0, hb0, _⟩ := h.blk k e hek
    obtain ⟨b1, hb1, _, _, h3⟩ := hmm i k b0 hk hb0
    rw [hb] at hb1
    obtain rfl := Option.some.inj hb1
    refine h.apart k e b0 k' e' hek hb0 (by rw [← h3]; exact hro) hcr hek' hcr' ?_
    intro hkk
    subst hkk
    have h1 := idx?_of (i := 0) hn hk
    have h2 := idx?_of (i := 0) hn hk'
    rw [h1] at h2
    have := Option.some.inj h2
    omega
theorem cut_get [Pins] {m : Mem} {ks : List Nat} {i k : Nat} {b : Blk} (hk : ks[i]? = some k) (hb : m[k]? = some b) :
    (cut m ks)[i]? = some ⟨b.cols.map (Col.ren fun j => idx? j 0 ks), b.et, b.ro, false⟩ := by
  unfold cut
  rw [List.getElem?_map, hk]
  simp [List.getD_eq_getElem?_getD, hb, Blk.ren]
theorem trim_get [Pins] {m : Mem} {ks : List Nat} {i k : Nat} {b : Blk} (hk : ks[i]? = some k) (hb : m[k]? = some b) :
    (trim m ks)[i]? = some ⟨b.cols.map (Col.ren fun j => idx? j 0 ks), b.et, b.ro, b.mv⟩ := by
  unfold trim
  rw [List.getElem?_map, hk]
  simp [List.getD_eq_getElem?_getD, hb, Blk.ren]
theorem Sim.cut' [Pins] {E : Wh} {m : Mem} {w : World} (h : Sim E m w) {ks : List Nat} (hn : ks.Nodup) : Sim (Ecut E ks) (Ab.cut m ks) w :=
  h.cutG hn fun _ _ _ hk hb => ⟨_, cut_get hk hb, rfl, rfl, rfl⟩
theorem VsRel.cut [Pins] {E : Wh} {vs : List V} {cs : List Value} (h : VsRel E vs cs) (ks : List Nat) : VsRel (Ecut E ks) (V.renL (fun j => idx? j 0 ks) vs) cs :=
  h.ren fun k _ j hj e he => by rw [Ecut_of (idx?_get hj)]; exact he
theorem VRel.cut [Pins] {E : Wh} {v : V} {c : Value} (h : VRel E v c) (ks : List Nat) : VRel (Ecut E ks) (V.ren (fun j => idx? j 0 ks) v) c :=
  h.ren fun k _ j hj e he => by rw [Ecut_of (idx?_get hj)]; exact he
theorem Owned.of_cut [Pins] {E : Wh} {m : Mem} {w : World} (h : Sim E m w) {ks : List Nat} {j : Nat} (ho : Owned (Ecut E ks) (cut m ks) j) :
    ∃ k e b, k ∈ ks ∧ E k = some e ∧ m[k]? = some b ∧ b.ro = false ∧ e.cr ≠ 0 ∧ e.blk = j := by
  obtain ⟨i, e, b, he, hb, hro, hcr, rfl⟩ := ho
  obtain ⟨k, hk, hek⟩ := Ecut_some he
  obtain ⟨b0, hb0, _⟩ := h.blk k e hek
  rw [cut_get hk hb0] at hb
  obtain rfl := Option.some.inj hb
  exact ⟨k, e, b0, List.mem_of_getElem? hk, hek, hb0, hro, hcr, rfl⟩

/-! ## At the end of a body: what is kept -/
theorem Step.trim [Pins] {E : Wh} {m : Mem} {w : World} {E' : Wh} {m' : Mem} {w' : World} (h : Step E m w E' m' w') {ks : List Nat} (hn : ks.Nodup) (hf : ∀ i, i < m.length → ks[i]? = some i) (hS : Sim E m w) :
    Step E m w (Ecut E' ks) (trim m' ks) w' := by
  have hs : Sim (Ecut E' ks) (Ab.trim m' ks) w' := h.sim.cutG hn fun _ _ _ hk hb => ⟨_, trim_get hk hb, rfl, rfl, rfl⟩
  refine ⟨hs, h.os, h.tape, h.output, h.size, h.old, ?_, ?_, ?_, ?_, fun k hk h0 => by rw [Ecut_of (hf k hk)]; exact h.gone k hk h0⟩
  · rintro j ⟨i, e, b, he, hb, hro, hcr, rfl⟩ hj
    obtain ⟨k, hk, hek⟩ := Ecut_some he
    obtain ⟨b0, hb0, _⟩ := h.sim.blk k e hek
    rw [trim_get hk hb0] at hb
    obtain rfl := Option.some.inj hb
    exact h.fresh _ ⟨k, e, b0, hek, hb0, hro, hcr, rfl⟩ hj
  · have hl : ∀ n, n ≤ m.length → n ≤ ks.length := by
      intro n hn'
      cases n with
      | zero => omega
      | succ n => have := (List.getElem?_eq_some_iff.1 (hf n (by omega))).1; omega
    simpa [Ab.trim] using hl _ (Nat.le_refl _)
  · intro i e he hcr hlt
    obtain ⟨k, _, hek⟩ := Ecut_some he
    exact h.born k e hek hcr hlt
  · intro k e he
    obtain ⟨e', b, b', h1, h2, h3, h4, h5, h6⟩ := h.keep k e he
    have hk := hf k (hS.lt he)
    exact ⟨e', b, _, h1, trim_get hk h2, by rw [Ecut_of hk]; exact h3, h4, h5, h6⟩

/-! ## Back at the caller -/
theorem movedOf_mem [Pins] : ∀ {ks : List Nat} {mf : Mem} {i r : Nat} {b : Blk}, ks[i]? = some r → mf[i]? = some b → b.mv = true → r ∈ movedOf ks mf
  | [], _, i, _, _, h, _, _ => by simp at h
  | _ :: _, [], i, _, _, _, h, _ => by simp at h
  | k :: ks, c :: mf, 0, r, b, h1, h2, h3 => by
    simp at h1 h2
    subst h1; subst h2
    simp [movedOf, h3]
  | k :: ks, c :: mf, i + 1, r, b, h1, h2, h3 => by
    simp at h1 h2
    have := movedOf_mem h1 h2 h3
    simp only [movedOf]
    split <;> simp [this]
theorem notIn_some [Pins] {js : List Nat} {k j : Nat} (h : notIn js k = some j) : j = k ∧ k ∉ js := by
  unfold notIn at h
  split at h
  · cases h
  · rename_i hm; cases h; exact ⟨rfl, mem?_false hm⟩
theorem putB_get [Pins] (ks : List Nat) (n : Nat) (mf : Mem) (js : List Nat) : ∀ (m : Mem) (k j : Nat),
    (putB ks n mf js k m)[j]? = (m[j]?).map fun b => match idx? (k + j) 0 ks with
      | some i => ⟨((mf.getD i default).ren (backN ks n)).cols, (mf.getD i default).et, (mf.getD i default).ro, b.mv || (mf.getD i default).mv⟩
      | none => dropB js b
  | [], k, j => by simp [putB]
  | b :: bs, k, 0 => by simp only [putB, List.getElem?_cons_zero, Option.map_some, Nat.add_zero]; rfl
  | b :: bs, k, j + 1 => by
    simp only [putB, List.getElem?_cons_succ]
    rw [putB_get ks n mf js bs (k + 1) j, show k + 1 + j = k + (j + 1) by omega]
theorem putB_length [Pins] (ks : List Nat) (n : Nat) (mf : Mem) (js : List Nat) : ∀ (m : Mem) (k : Nat), (putB ks n mf js k m).length = m.length
  | [], _ => rfl
  | _ :: bs, k => by simp [putB, putB_length ks n mf js bs (k + 1)]
/-- Where the blocks lie behind a call. -/
def Eback (E : Wh) (ks : List Nat) (n : Nat) (E1 : Wh) : Wh := fun k =>
  if k < n then (match idx? k 0 ks with | some i => E1 i | none => E k) else E1 (ks.length + (k - n))
section
variable {E : Wh} {m : Mem} {w : World} {ks : List Nat} {E1 : Wh} {mf : Mem} {w' : World}
theorem Eback_in [Pins] {k i : Nat} (hk : k < m.length) (hi : idx? k 0 ks = some i) : Eback E ks m.length E1 k = E1 i := by simp [Eback, hk, hi]
theorem Eback_out [Pins] {k : Nat} (hk : k < m.length) (hi : idx? k 0 ks = none) : Eback E ks m.length E1 k = E k := by simp [Eback, hk, hi]
theorem Eback_new [Pins] {k : Nat} (hk : ¬ k < m.length) : Eback E ks m.length E1 k = E1 (ks.length + (k - m.length)) := by simp [Eback, hk]
theorem backN_ok [Pins] (hn : ks.Nodup) (hl : ∀ k ∈ ks, k < m.length) : ∀ j j2, backN ks m.length j = some j2 → ∀ e, E1 j = some e → Eback E ks m.length E1 j2 = some e := by
  intro j j2 h e he
  unfold backN at h
  split at h
  · rename_i k hk
    cases h
    rw [Eback_in (hl _ (List.mem_of_getElem? hk)) (idx?_of hn hk)]
    simpa using he
  · rename_i hk
    cases h
    rw [Eback_new (by omega)]
    have : ks.length ≤ j := by simpa using hk
    rw [show ks.length + (m.length + (j - ks.length) - m.length) = j by omega]
    exact he
/-- What of the caller is not forgotten stays where it was. -/
theorem notIn_ok [Pins] (h : Sim E m w) (hn : ks.Nodup) (hc : Step (Ecut E ks) (cut m ks) w E1 mf w') :
    ∀ r j, notIn (movedOf ks mf) r = some j → ∀ e, E r = some e → Eback E ks m.length E1 j = some e := by
  intro r j hj e he
  obtain ⟨rfl, hr⟩ := notIn_some hj
  have hlt := h.lt he
  cases hi : idx? j 0 ks with
  | none => rw [Eback_out hlt hi]; exact he
  | some i =>
    rw [Eback_in hlt hi]
    have hk := idx?_get hi
    obtain ⟨e', b, b', h1, h2, h3, h4, h5, h6⟩ := hc.keep i e (by rw [Ecut_of hk]; exact he)
    have hmv : b'.mv = false := by
      cases hb : b'.mv with
      | false => rfl
      | true => exact absurd (movedOf_mem hk h2 hb) hr
    rw [h3, h6 hmv]
theorem dropE_rel [Pins] (h : Sim E m w) (hn : ks.Nodup) (hc : Step (Ecut E ks) (cut m ks) w E1 mf w') {ρ : Env} {cs : List Value} (hρ : ERel E ρ cs) :
    ERel (Eback E ks m.length E1) (dropE (movedOf ks mf) ρ) cs := by
  have key := notIn_ok h hn hc
  unfold dropE
  split
  · rename_i hjs
    rw [hjs] at key
    exact hρ.mono fun k e he => key k k (by simp [notIn, mem?]) e he
  · exact hρ.ren fun k j hj e he => key k j hj e he
theorem BlkRel.dropB [Pins] (h : Sim E m w) (hn : ks.Nodup) (hc : Step (Ecut E ks) (cut m ks) w E1 mf w') {b : Blk} {e : BE} (hb : BlkRel E w b e) (hw : e.cr ≠ 0 → w'.heap[e.blk]? = w.heap[e.blk]?) :
    BlkRel (Eback E ks m.length E1) w' (dropB (movedOf ks mf) b) e := by
  have key := notIn_ok h hn hc
  unfold Ab.dropB
  split
  · rename_i hjs
    rw [hjs] at key
    exact hb.kept (fun k e he => key k k (by simp [notIn, mem?]) e he) hw hc.size
  · exact hb.ren (fun k j hj e he => key k j hj e he) hw hc.size rfl rfl rfl
theorem dropB_ro [Pins] (js : List Nat) (b : Blk) : (Ab.dropB js b).ro = b.ro ∧ (Ab.dropB js b).mv = b.mv := by
  unfold Ab.dropB; split <;> exact ⟨rfl, rfl⟩
theorem Step.back [Pins] (h : Sim E m w) (hn : ks.Nodup) (hl : ∀ k ∈ ks, k < m.length) (hc : Step (Ecut E ks) (cut m ks) w E1 mf w') :
    Step E m w (Eback E ks m.length E1) (putB ks m.length mf (movedOf ks mf) 0 m ++ newsB ks m.length mf) w' := by
  have hkl : ks.length ≤ mf.length := by simpa [Ab.cut] using hc.len
  -- the memory
  have mIn : ∀ k i b, k < m.length → idx? k 0 ks = some i → mf[i]? = some b → ∃ b0, m[k]? = some b0 ∧
      (putB ks m.length mf (movedOf ks mf) 0 m ++ newsB ks m.length mf)[k]? = some ⟨(b.ren (backN ks m.length)).cols, b.et, b.ro, b0.mv || b.mv⟩ := by
    intro k i b hk hi hb
    refine ⟨m[k], List.getElem?_eq_getElem hk, ?_⟩
    rw [List.getElem?_append_left (by rw [putB_length]; exact hk), putB_get, List.getElem?_eq_getElem hk]
    simp [hi, List.getD_eq_getElem?_getD, hb]
  have mOut : ∀ k b, m[k]? = some b → idx? k 0 ks = none → (putB ks m.length mf (movedOf ks mf) 0 m ++ newsB ks m.length mf)[k]? = some (dropB (movedOf ks mf) b) := by
    intro k b hb hi
    have hk : k < m.length := (List.getElem?_eq_some_iff.1 hb).1
    rw [List.getElem?_append_left (by rw [putB_length]; exact hk), putB_get, hb]
    simp [hi]
  have mNew : ∀ k b, ¬ k < m.length → mf[ks.length + (k - m.length)]? = some b →
      (putB ks m.length mf (movedOf ks mf) 0 m ++ newsB ks m.length mf)[k]? = some ⟨(b.ren (backN ks m.length)).cols, b.et, b.ro, true⟩ := by
    intro k b hk hb
    rw [List.getElem?_append_right (by rw [putB_length]; omega), putB_length]
    unfold newsB
    rw [List.getElem?_map, List.getElem?_drop, hb]
    rfl
  -- what is where
  have hcase : ∀ k e, Eback E ks m.length E1 k = some e →
      (∃ i b b2, E1 i = some e ∧ mf[i]? = some b ∧ (putB ks m.length mf (movedOf ks mf) 0 m ++ newsB ks m.length mf)[k]? = some b2 ∧ b2.cols = b.cols.map (Col.ren (backN ks m.length)) ∧ b2.et = b.et ∧ b2.ro = b.ro ∧ (k < m.length → ks[i]? = some k) ∧ (¬ k < m.length → i = ks.length + (k - m.length)))
      ∨ (E k = some e ∧ k ∉ ks ∧ ∃ b, m[k]? = some b ∧ (putB ks m.length mf (movedOf ks mf) 0 m ++ newsB ks m.length mf)[k]? = some (dropB (movedOf ks mf) b)) := by
    intro k e he
    by_cases hk : k < m.length
    · cases hi : idx? k 0 ks with
      | some i =>
        rw [Eback_in hk hi] at he
        obtain ⟨b, hb, _⟩ := hc.sim.blk i e he
        obtain ⟨b0, _, hm⟩ := mIn k i b hk hi hb
        exact .inl ⟨i, b, _, he, hb, hm, rfl, rfl, rfl, fun _ => idx?_get hi, fun hh => absurd hk hh⟩
      | none =>
        rw [Eback_out hk hi] at he
        obtain ⟨b, hb, _⟩ := h.blk k e he
        exact .inr ⟨he, idx?_none hn hi, b, hb, mOut k b hb hi⟩
    · rw [Eback_new hk] at he
      obtain ⟨b, hb, _⟩ := hc.sim.blk _ e he
      exact .inl ⟨_, b, _, he, hb, mNew k b hk hb, rfl, rfl, rfl, fun hh => absurd hh hk, fun _ => rfl⟩
  have hsame : ∀ k i i', (k < m.length → ks[i]? = some k) → (¬ k < m.length → i = ks.length + (k - m.length)) → (k < m.length → ks[i']? = some k) → (¬ k < m.length → i' = ks.length + (k - m.length)) → i = i' := by
    intro k i i' h1 h2 h3 h4
    by_cases hk : k < m.length
    · have g1 := idx?_of (i := 0) hn (h1 hk)
      have g2 := idx?_of (i := 0) hn (h3 hk)
      rw [g1] at g2
      have := Option.some.inj g2
      omega
    · rw [h2 hk, h4 hk]
  have hdiff : ∀ k k' i, k ≠ k' → (k < m.length → ks[i]? = some k) → (¬ k < m.length → i = ks.length + (k - m.length)) → (k' < m.length → ks[i]? = some k') → (¬ k' < m.length → i = ks.length + (k' - m.length)) → False := by
    intro k k' i hne h1 h2 h3 h4
    by_cases hk : k < m.length <;> by_cases hk' : k' < m.length
    · have g1 := h1 hk; rw [h3 hk'] at g1; exact hne (Option.some.inj g1).symm
    · have := (List.getElem?_eq_some_iff.1 (h1 hk)).1; have := h4 hk'; omega
    · have := (List.getElem?_eq_some_iff.1 (h3 hk')).1; have := h2 hk; omega
    · have := h2 hk; have := h4 hk'; omega
  have hold : ∀ k e, E k = some e → k ∉ ks → e.cr ≠ 0 → w'.heap[e.blk]? = w.heap[e.blk]? := by
    intro k e he hk hcr
    obtain ⟨b, _, hb⟩ := h.blk k e he
    refine hc.old _ (hb.lt hcr) fun ho => ?_
    obtain ⟨k1, e1, b1, h1, h2, h3, h4, h5, h6⟩ := Owned.of_cut h ho
    exact h.apart k1 e1 b1 k e h2 h3 h4 h5 he hcr (fun hh => hk (hh ▸ h1)) h6
  have hgone : ∀ k, k < m.length → E k = none → Eback E ks m.length E1 k = none := by
    intro k hk h0
    cases hi : idx? k 0 ks with
    | none => rw [Eback_out hk hi]; exact h0
    | some i =>
      rw [Eback_in hk hi]
      have hki := idx?_get hi
      have hlt := (List.getElem?_eq_some_iff.1 hki).1
      exact hc.gone i (by simpa [Ab.cut] using hlt) (by rw [Ecut_of hki]; exact h0)
  refine Step.of h ?_ ?_ hc.os hc.tape hc.output hc.size ?_ ?_ (by simp [putB_length]) ?_ ?_ hgone
  · intro k e he
    rcases hcase k e he with ⟨i, b, b2, h1, h2, h3, h4, h5, h6, _, _⟩ | ⟨h1, h2, b, h3, h4⟩
    · obtain ⟨b', hb', hr⟩ := hc.sim.blk i e h1
      rw [h2] at hb'
      obtain rfl := Option.some.inj hb'
      exact ⟨b2, h3, hr.ren (backN_ok hn hl) (fun _ => rfl) (Nat.le_refl _) h4 h5 h6⟩
    · obtain ⟨b', hb', hr⟩ := h.blk k e h1
      rw [h3] at hb'
      obtain rfl := Option.some.inj hb'
      exact ⟨_, h4, hr.dropB h hn hc (hold k e h1 h2)⟩
  · intro k e b2 k' e' he hb2 hro hcr he' hcr' hne
    rcases hcase k e he with ⟨i, b, b3, h1, h2, h3, h4, h5, h6, h7, h8⟩ | ⟨h1, h2, b, h3, h4⟩ <;>
    rcases hcase k' e' he' with ⟨i', b', b3', h1', h2', h3', h4', h5', h6', h7', h8'⟩ | ⟨h1', h2', b', h3', h4'⟩
    · rw [h3] at hb2
      obtain rfl := Option.some.inj hb2
      refine hc.sim.apart i e b i' e' h1 h2 (by rw [← h6]; exact hro) hcr h1' hcr' ?_
      intro hii
      subst hii
      exact hdiff k k' i hne h7 h8 h7' h8'
    · rw [h3] at hb2
      obtain rfl := Option.some.inj hb2
      obtain ⟨b0, _, hb0⟩ := h.blk k' e' h1'
      have hlt := hb0.lt hcr'
      by_cases hj : e.blk < w.heap.size
      · obtain ⟨k1, e1, b1, g1, g2, g3, g4, g5, g6⟩ := Owned.of_cut h (hc.fresh e.blk ⟨i, e, b, h1, h2, by rw [← h6]; exact hro, hcr, rfl⟩ hj)
        have := h.apart k1 e1 b1 k' e' g2 g3 g4 g5 h1' hcr' (fun hh => h2' (hh ▸ g1))
        omega
      · omega
    · rw [h4] at hb2
      obtain rfl := Option.some.inj hb2
      obtain ⟨b0, _, hb0⟩ := h.blk k e h1
      have hlt := hb0.lt hcr
      by_cases hj : e'.blk < w.heap.size
      · obtain ⟨i0, e0, g1, g2, g3⟩ := hc.born i' e' h1' hcr' hj
        obtain ⟨k0, hk0, hek0⟩ := Ecut_some g1
        have := h.apart k e b k0 e0 h1 h3 (by rw [← (dropB_ro _ b).1]; exact hro) hcr hek0 g2 (fun hh => h2 (hh ▸ List.mem_of_getElem? hk0))
        omega
      · omega
    · rw [h4] at hb2
      obtain rfl := Option.some.inj hb2
      exact h.apart k e b k' e' h1 h3 (by rw [← (dropB_ro _ b).1]; exact hro) hcr h1' hcr' hne
  · intro j hj ho
    refine hc.old j hj fun hh => ?_
    obtain ⟨k1, e1, b1, _, h2, h3, h4, h5, h6⟩ := Owned.of_cut h hh
    exact ho ⟨k1, e1, b1, h2, h3, h4, h5, h6⟩
  · rintro j ⟨k, e, b2, he, hb2, hro, hcr, rfl⟩ hj
    rcases hcase k e he with ⟨i, b, b3, h1, h2, h3, h4, h5, h6, _, _⟩ | ⟨h1, h2, b, h3, h4⟩
    · rw [h3] at hb2
      obtain rfl := Option.some.inj hb2
      obtain ⟨k1, e1, b1, _, g2, g3, g4, g5, g6⟩ := Owned.of_cut h (hc.fresh e.blk ⟨i, e, b, h1, h2, by rw [← h6]; exact hro, hcr, rfl⟩ hj)
      exact ⟨k1, e1, b1, g2, g3, g4, g5, g6⟩
    · rw [h4] at hb2
      obtain rfl := Option.some.inj hb2
      exact ⟨k, e, b, h1, h3, by rw [← (dropB_ro _ b).1]; exact hro, hcr, rfl⟩
  · intro k e he hcr hlt
    rcases hcase k e he with ⟨i, b, b3, h1, _⟩ | ⟨h1, _⟩
    · obtain ⟨i0, e0, g1, g2, g3⟩ := hc.born i e h1 hcr hlt
      obtain ⟨k0, _, hek0⟩ := Ecut_some g1
      exact ⟨k0, e0, hek0, g2, g3⟩
    · exact ⟨k, e, h1, hcr, rfl⟩
  · intro k e he
    have hk := h.lt he
    obtain ⟨b0, hb0, _⟩ := h.blk k e he
    cases hi : idx? k 0 ks with
    | none =>
      have := dropB_ro (movedOf ks mf) b0
      exact ⟨e, b0, _, hb0, mOut k b0 hb0 hi, by rw [Eback_out hk hi]; exact he, fun hh => by rw [this.1]; exact hh, fun hh => by rw [this.2]; exact hh, fun _ => rfl⟩
    | some i =>
      have hki := idx?_get hi
      obtain ⟨e', b, b', h1, h2, h3, h4, h5, h6⟩ := hc.keep i e (by rw [Ecut_of hki]; exact he)
      obtain ⟨b00, hb00, hm⟩ := mIn k i b' hk hi h2
      rw [hb0] at hb00
      obtain rfl := Option.some.inj hb00
      rw [cut_get hki hb0] at h1
      obtain rfl := Option.some.inj h1
      refine ⟨e', b0, _, hb0, hm, by rw [Eback_in hk hi]; exact h3, h4, fun hh => by simp [hh], fun hh => h6 ?_⟩
      simp at hh
      exact hh.2
end
end Go.Ab
