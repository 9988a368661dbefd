/- Operations, part 7: append, copy, make, slices of slices. -/
import Derived.Test.YtjciabbnncidjaaGreatAbOps6
set_option linter.unusedSimpArgs false
set_option linter.unusedVariables false
namespace Go.Ab
open Go
section
variable {P : Program} {o : Oper} {a : Act} {E : Wh} {m : Mem} {w : World} {ρ : Env}

theorem Col.app_plain [Pins] {c d x : Col} (h : c.app d = some x) : x.plain = true ∧ c.plain = true := by
  unfold Col.app at h
  split at h <;> (try split at h) <;> (try split at h) <;> first | (cases h; exact ⟨rfl, rfl⟩) | cases h
theorem Col.over_plain [Pins] {n : Nat} {c d x : Col} (h : c.over n d = some x) : x.plain = true ∧ c.plain = true := by
  cases c <;> cases d <;> simp only [Col.over] at h <;> (try split at h) <;> (try split at h) <;> first | (cases h; exact ⟨rfl, rfl⟩) | (cases h; rename_i hp; simp [Col.plain] at hp) | cases h
theorem zipApp_plain [Pins] : ∀ {cs ds xs : List Col}, zipApp cs ds = some xs → xs.all Col.plain = true ∧ cs.all Col.plain = true
  | [], [], xs, h => by simp [zipApp] at h; subst h; simp
  | [], _ :: _, xs, h => by simp [zipApp] at h
  | _ :: _, [], xs, h => by simp [zipApp] at h
  | c :: cs, d :: ds, xs, h => by
    simp only [zipApp] at h
    split at h
    · rename_i x ys hx hys
      cases h
      obtain ⟨h1, h2⟩ := zipApp_plain hys
      obtain ⟨g1, g2⟩ := Col.app_plain hx
      simp only [List.all_cons, h1, h2, g1, g2, Bool.and_self, and_self]
    · cases h
theorem zipOver_plain [Pins] {n : Nat} : ∀ {cs ds xs : List Col}, zipOver n cs ds = some xs → xs.all Col.plain = true ∧ cs.all Col.plain = true
  | [], [], xs, h => by simp [zipOver] at h; subst h; simp
  | [], _ :: _, xs, h => by simp [zipOver] at h
  | _ :: _, [], xs, h => by simp [zipOver] at h
  | c :: cs, d :: ds, xs, h => by
    simp only [zipOver] at h
    split at h
    · rename_i x ys hx hys
      cases h
      obtain ⟨h1, h2⟩ := zipOver_plain hys
      obtain ⟨g1, g2⟩ := Col.over_plain hx
      simp only [List.all_cons, h1, h2, g1, g2, Bool.and_self, and_self]
    · cases h
theorem kill_plain [Pins] {j : Nat} {cs : List Col} (h : cs.all Col.plain = true) : (cs.map (Col.kill j)).all Col.plain = true := by
  rw [List.all_eq_true] at h ⊢
  intro c hc
  simp only [List.mem_map] at hc
  obtain ⟨c0, h0, rfl⟩ := hc
  have := h c0 h0
  cases c0 <;> first | rfl | (simp [Col.plain] at this)
theorem plain_sp [Pins] {b : Blk} (h : b.cols.all Col.plain = true) : b.sp = none := by
  obtain ⟨cs, et, ro, mv⟩ := b
  exact Blk.sp_plain h
theorem zipApp_spec [Pins] : ∀ {cs ds xs : List Col}, zipApp cs ds = some xs → xs.length = cs.length ∧ xs.length = ds.length ∧ ∀ (f : Nat) (x : Col), xs[f]? = some x → ∃ c d, cs[f]? = some c ∧ ds[f]? = some d ∧ x.list = c.list ++ d.list
  | [], [], xs, h => by simp [zipApp] at h; subst h; simp
  | [], _ :: _, xs, h => by simp [zipApp] at h
  | _ :: _, [], xs, h => by simp [zipApp] at h
  | c :: cs, d :: ds, xs, h => by
    simp only [zipApp] at h
    split at h
    · rename_i x xs' hx hxs
      cases h
      obtain ⟨h1, h2, h3⟩ := zipApp_spec hxs
      refine ⟨by simp [h1], by simp [h2], ?_⟩
      intro f x' hx'
      cases f with
      | zero => simp at hx'; subst hx'; exact ⟨c, d, rfl, rfl, Col.list_app hx⟩
      | succ f => simpa using h3 f x' (by simpa using hx')
    · cases h
theorem zipOver_spec [Pins] {n : Nat} : ∀ {cs ds xs : List Col}, zipOver n cs ds = some xs → xs.length = cs.length ∧ xs.length = ds.length ∧ ∀ (f : Nat) (x : Col), xs[f]? = some x → ∃ c d, cs[f]? = some c ∧ ds[f]? = some d ∧ x.list = c.list.take n ++ d.list
  | [], [], xs, h => by simp [zipOver] at h; subst h; simp
  | [], _ :: _, xs, h => by simp [zipOver] at h
  | _ :: _, [], xs, h => by simp [zipOver] at h
  | c :: cs, d :: ds, xs, h => by
    simp only [zipOver] at h
    split at h
    · rename_i x xs' hx hxs
      cases h
      obtain ⟨h1, h2, h3⟩ := zipOver_spec hxs
      refine ⟨by simp [h1], by simp [h2], ?_⟩
      intro f x' hx'
      cases f with
      | zero => simp at hx'; subst hx'; exact ⟨c, d, rfl, rfl, Col.list_over hx⟩
      | succ f => simpa using h3 f x' (by simpa using hx')
    · cases h
/-- One matrix behind the other. -/
theorem Mat.app [Pins] {cs ds xs : List Col} {n n' : Nat} {l l' : List Value} (h : Mat E cs n l) (h' : Mat E ds n' l') (hl : xs.length = cs.length) (hl' : xs.length = ds.length)
    (hx : ∀ (f : Nat) (x : Col), xs[f]? = some x → ∃ c d, cs[f]? = some c ∧ ds[f]? = some d ∧ x.list = c.list ++ d.list) : Mat E xs (n + n') (l ++ l') := by
  refine ⟨?_, by rw [List.length_append, h.size, h'.size, ← hl, ← hl', Nat.add_mul], ?_, ?_⟩
  · intro c hc
    obtain ⟨f, hf, rfl⟩ := List.getElem_of_mem hc
    obtain ⟨c, d, h1, h2, h3⟩ := hx f _ (List.getElem?_eq_getElem hf)
    rw [← Col.list_len, h3, List.length_append, Col.list_len, Col.list_len, h.len c (List.mem_of_getElem? h1), h'.len d (List.mem_of_getElem? h2)]
  · intro u hu
    rw [List.mem_append] at hu
    exact hu.elim (h.one u) (h'.one u)
  · intro row fld col v hc hv
    obtain ⟨c, d, h1, h2, h3⟩ := hx fld col hc
    rw [h3] at hv
    have hf : fld < xs.length := (List.getElem?_eq_some_iff.1 hc).1
    have hcl : c.list.length = n := by rw [Col.list_len]; exact h.len c (List.mem_of_getElem? h1)
    by_cases hr : row < n
    · rw [List.getElem?_append_left (by omega)] at hv
      obtain ⟨u, g1, g2⟩ := h.cells row fld c v h1 hv
      refine ⟨u, ?_, g2⟩
      rw [hl, List.getElem?_append_left]
      · exact g1
      · exact (List.getElem?_eq_some_iff.1 g1).1
    · rw [List.getElem?_append_right (by omega)] at hv
      obtain ⟨u, g1, g2⟩ := h'.cells (row - n) fld d v h2 (by rw [← hcl]; exact hv)
      refine ⟨u, ?_, g2⟩
      have hnm : n * xs.length ≤ row * xs.length := Nat.mul_le_mul_right _ (by omega)
      rw [List.getElem?_append_right (by rw [h.size, ← hl]; omega), h.size, ← hl, ← g1]
      congr 1
      rw [← hl', Nat.sub_mul]; omega
/-- A matrix that lies at the head of a new block. -/
theorem Mat.blk [Pins] {E' : Wh} {w' : World} {cs : List Col} {n cr g : Nat} {l : List Value} {et : TypeId} {mv : Bool} {cur : Array Value} (h : Mat E' cs n l) (hne : cs ≠ []) (hp : cs.all Col.plain = true) (hg : n ≠ 0 ∨ cr ≠ 0 → w'.heap[g]? = some (.cells cur et (0, 0)))
    (hpre : ∀ (j : Nat) (c : Value), l[j]? = some c → cur[j]? = some c) (hsz : cur.size = cr * cs.length) (hn : n ≤ cr) (hm : cr ≤ maxLen) : BlkRel E' w' ⟨cs, et, false, mv⟩ ⟨g, 0, cr, cs.length, n⟩ := by
  refine BlkRel.mk' (b := ⟨cs, et, false, mv⟩) hne hp h.len ?_ hg hsz hn hm
  intro row fld col v hc hv
  obtain ⟨c, h1, h2⟩ := h.cells row fld col v hc hv
  exact ⟨c, hpre _ _ h1, h.one c (List.mem_of_getElem? h1), h2⟩
theorem Mat.kill [Pins] {E' : Wh} {cols : List Col} {n j : Nat} {cs : List Value} (h : Mat E cols n cs) (hE : ∀ k e, k ≠ j → E k = some e → E' k = some e) : Mat E' (cols.map (Col.kill j)) n cs := by
  refine ⟨?_, by simpa using h.size, h.one, ?_⟩
  · intro c hc
    simp only [List.mem_map] at hc
    obtain ⟨c0, h0, rfl⟩ := hc
    rw [← h.len c0 h0, ← Col.list_len, Col.list_kill, List.length_map, Col.list_len]
  · intro row fld col v hc hv
    rw [List.getElem?_map, Option.map_eq_some_iff] at hc
    obtain ⟨c0, h0, rfl⟩ := hc
    rw [Col.list_kill, List.getElem?_map, Option.map_eq_some_iff] at hv
    obtain ⟨v0, hv0, rfl⟩ := hv
    obtain ⟨c, h1, h2⟩ := h.cells row fld c0 v0 h0 hv0
    exact ⟨c, by simpa using h1, h2.kill hE⟩
theorem appRun [Pins] {st : TypeId} {s x : Value} {sx xx : Operand} (ho : o.op = .call ⟨.builtin .append, #[sx, xx], #[st, st]⟩) (hs : a.eval sx = s) (hx : a.eval xx = x) {cv : Value} {w' : World}
    (h : (Builtin.append_ #[st, st] o.type #[s, x]).run P w = .ok cv w') : (execOp a.eval o).run P w = .ok (.value cv) w' := by
  simp [execOp, ho, resolve, invoke, builtin, hs, hx, h]
theorem limit_max [Pins] {n : Nat} (h : n ≤ limit) : n ≤ maxLen := by simp only [limit, maxLen] at *; omega
/-- The new block behind an append that grew. -/
theorem grown_blk [Pins] {E' : Wh} {cs : List Col} {n : Nat} {l : List Value} {et : TypeId} {mv : Bool} {z : Value} {need old cap : Nat} (h : Mat E' cs n l) (hne : cs ≠ []) (hp : cs.all Col.plain = true) (hz : z.cells.size = cs.length) (hcap : cap = grownCap w need old et) (hneed : need = n) (hlim : n ≤ limit) :
    BlkRel E' (w.drew.alloc (.cells (l.toArray ++ Builtin.zeroCells z.cells (cap - n)) et)) ⟨cs, et, false, mv⟩ ⟨w.heap.size, 0, cap, cs.length, n⟩ := by
  subst hneed
  have hge : need ≤ cap := by rw [hcap]; exact grownCap_ge w need old et
  have hle : cap ≤ maxLen := by rw [hcap]; exact grownCap_le_maxLen w need old et (limit_max hlim)
  refine h.blk (cur := l.toArray ++ Builtin.zeroCells z.cells (cap - need)) hne hp (fun _ => heap_alloc_new w.drew _) ?_ ?_ hge hle
  · intro j c hc
    have hj := (List.getElem?_eq_some_iff.1 hc).1
    rw [Array.getElem?_append_left (by simpa using hj)]
    simpa using hc
  · rw [Array.size_append, size_zeroCells, List.size_toArray, h.size, hz, ← Nat.add_mul]
    congr 1
    omega
theorem Step.drewAlloc [Pins] (hS : Sim E m w) (b : Blk) (e : BE) (ob : Obj) (hb : BlkRel (upd E m.length e) (w.drew.alloc ob) b e) (hg : e.blk = w.heap.size) (hob : ∃ cs et, ob = .cells cs et) : Step E m w (upd E m.length e) (m ++ [b]) (w.drew.alloc ob) :=
  Step.new hS b e rfl rfl rfl (by simp) (fun j hj => heap_alloc_old w.drew ob j hj) hb (fun _ => by omega)
theorem zlen [Pins] {z : List Value} {i : TypeInfo} {zv : Value} {xs : List Col} (h3 : zv.cells.toList = z) (h4 : z.length = i.size) (hx : z.length = xs.length) : i.size = xs.length ∧ zv.cells.size = xs.length := by
  refine ⟨by omega, ?_⟩
  rw [← h3] at hx; simpa using hx
theorem sl_new [Pins] {E' : Wh} {k : Nat} {e : BE} (h : E' k = some e) (hoff : e.off = 0) (hr : e.rows ≤ e.cr) : VRel E' (.sl k 0 none none) (.slice (some ⟨e.blk, 0, none⟩) e.rows e.cr) := by
  simp only [VRel]
  exact ⟨e, some ⟨e.blk, 0, none⟩, e.cr, h, by simp [slN], by simp [slN], by simpa [slN] using hr, by simp [CapOk], fun _ => by simp [hoff]⟩
theorem append_grow_any [Pins] {st e : TypeId} {i : TypeInfo} {zv : Value} (hu : P.underlying st = some (.slice e)) (hi : P.info? e = some i) (hz : i.zero = some zv) {ad : Option Addr} {n q : Nat} {l : List Value} (hl : l.length = n * i.size) (hq : n ≤ q)
    (hnone : ad = none → q = 0) (hrd : ∀ b, ad = some b → ∀ (j : Nat) (u : Value), l[j]? = some u → w.cell? (b.add j) = some u)
    {b2 : Addr} {n2 q2 : Nat} {l2 : List Value} (hl2 : l2.length = n2 * i.size) (hrd2 : ∀ (j : Nat) (u : Value), l2[j]? = some u → w.cell? (b2.add j) = some u) (hgt : q < n + n2) (hb : (n + n2) * i.bytes ≤ limit) (hlim : n + n2 ≤ limit) (ty : TypeId) :
    (Builtin.append_ #[st, st] ty #[.slice ad n q, .slice (some b2) n2 q2]).run P w =
      .ok (.slice (some ⟨w.heap.size, 0, none⟩) (n + n2) (grownCap w (n + n2) q e)) (w.drew.alloc (.cells ((l ++ l2).toArray ++ Builtin.zeroCells zv.cells (grownCap w (n + n2) q e - (n + n2))) e)) := by
  have h63 : ((n + n2 : Nat) : Int) ≤ 9223372036854775807 := by simp only [limit] at hlim; omega
  have hfit := growslice_fits hgt (by simpa only [limit] using hb)
  cases ad with
  | some b =>
    have := run_append_grow (P := P) w st ty e i zv hu hi hz b n q l hl (hrd b rfl) b2 n2 q2 l2 hl2 hrd2 hgt h63 hfit
    rw [this]
    simp
  | none =>
    obtain rfl := hnone rfl
    obtain rfl : n = 0 := by omega
    have hl0 : l = [] := List.eq_nil_of_length_eq_zero (by simpa using hl)
    subst hl0
    simp only [Nat.zero_add] at *
    have := run_append_nil (P := P) w st ty e i zv hu hi hz b2 n2 q2 l2 hl2 hrd2 (by omega) (by simp only [limit] at hlim; omega) (by simp only [limit] at hb; omega)
    rw [this]
    simp
theorem append_none [Pins] {st e : TypeId} {sz : Nat} (hu : P.underlying st = some (.slice e)) (hs : sizeT P e = some sz) {ad : Option Addr} {n q q2 : Nat} (hq : n ≤ q) (ad2 : Option Addr) (ty : TypeId) :
    (Builtin.append_ #[st, st] ty #[.slice ad n q, .slice ad2 0 q2]).run P w = .ok (.slice ad n q) w := by
  cases ad <;> cases ad2 <;> simp [Builtin.append_, run_underlying hu, run_sizeOf' hs, Builtin.lenOf, hq, Builtin.firstCells, storeCells, loadCells, loadCellsFrom]
theorem sizeT_of [Pins] {e : TypeId} {i : TypeInfo} (h : P.info? e = some i) : sizeT P e = some i.size := by simp [sizeT, h]
theorem bytesT_of [Pins] {e : TypeId} {i : TypeInfo} (h : P.info? e = some i) : bytesT P e = i.bytes := by simp [bytesT, h]
/-- What is appended: 'n2' rows with the cells 'l2', as the machine appends them. -/
structure Src (P : Program) (w : World) (st xt ty e : TypeId) (i : TypeInfo) (zv X : Value) (n2 : Nat) (l2 : List Value) : Prop where
  zero : n2 = 0 → ∀ (ad : Option Addr) (n q : Nat), n ≤ q → (Builtin.append_ #[st, xt] ty #[.slice ad n q, X]).run P w = .ok (.slice ad n q) w
  grow : n2 ≠ 0 → ∀ {ad : Option Addr} {n q : Nat} {l : List Value}, l.length = n * i.size → n ≤ q → (ad = none → q = 0) → (∀ b, ad = some b → ∀ (j : Nat) (u : Value), l[j]? = some u → w.cell? (b.add j) = some u) → q < n + n2 →
    (n + n2) * i.bytes ≤ limit → n + n2 ≤ limit →
    (Builtin.append_ #[st, xt] ty #[.slice ad n q, X]).run P w =
      .ok (.slice (some ⟨w.heap.size, 0, none⟩) (n + n2) (grownCap w (n + n2) q e)) (w.drew.alloc (.cells ((l ++ l2).toArray ++ Builtin.zeroCells zv.cells (grownCap w (n + n2) q e - (n + n2))) e))
  room : n2 ≠ 0 → ∀ (g n q : Nat) (cur : Array Value), w.heap[g]? = some (.cells cur e (0, 0)) → n + n2 ≤ q → n * i.size + l2.length ≤ cur.size →
    (Builtin.append_ #[st, xt] ty #[.slice (some ⟨g, 0, none⟩) n q, X]).run P w =
      .ok (.slice (some ⟨g, 0, none⟩) (n + n2) q) (w.setRow g (cur.toList.take (n * i.size) ++ l2 ++ cur.toList.drop (n * i.size + l2.length)).toArray)
theorem appRun' [Pins] {st xt : TypeId} {s x : Value} {sx xx : Operand} (ho : o.op = .call ⟨.builtin .append, #[sx, xx], #[st, xt]⟩) (hs : a.eval sx = s) (hx : a.eval xx = x) {cv : Value} {w' : World}
    (h : (Builtin.append_ #[st, xt] o.type #[s, x]).run P w = .ok cv w') : (execOp a.eval o).run P w = .ok (.value cv) w' := by
  simp [execOp, ho, resolve, invoke, builtin, hs, hx, h]
set_option maxHeartbeats 2000000 in
theorem goes_appendC [Pins] (hS : Sim E m w) (hρ : ERel E ρ a.tmps.toList) {st xt : TypeId} {sx xx : Operand} (ho : o.op = .call ⟨.builtin .append, #[sx, xx], #[st, xt]⟩) {v : V} {ρ' : Env} {m' : Mem} {e : TypeId} (hu : P.underlying st = some (.slice e))
    {S : V} {cs : Value} (hcs : a.eval sx = cs) (hs : VRel E S cs) {X : Value} (hcx : a.eval xx = X) {z : List Value} {i : TypeInfo} {zv : Value} (hi : P.info? e = some i) (hzz : i.zero = some zv) (h3 : zv.cells.toList = z) (h4 : z.length = i.size)
    {n2 : Nat} {l2 : List Value} {xs : List Col} (src : Src P w st xt o.type e i zv X n2 l2) (hm2 : Mat E xs n2 l2)
    (h : appendC P e z ρ m S xs n2 = some (true, v, ρ', m')) : Goes P o a E m w v ρ' m' := by
  unfold appendC at h
  split at h
  · rename_i hlen
    simp only [Bool.and_eq_true, decide_eq_true_eq, beq_iff_eq] at hlen
    obtain ⟨hlen, hpos, hxp⟩ := hlen
    obtain ⟨hsz, hzc⟩ := zlen (i := i) h3 h4 hlen
    have hne : xs ≠ [] := by intro h0; rw [h0, List.length_nil] at hlen; omega
    have hby := bytesT_of (P := P) hi
    split at h
    · -- from nil
      simp only [VRel] at hs
      subst hs
      simp only [Option.some.injEq, Prod.mk.injEq, Bool.and_eq_true, decide_eq_true_eq, hby] at h
      obtain ⟨⟨hb, hlim⟩, rfl, rfl, rfl⟩ := h
      by_cases h0 : n2 = 0
      · subst h0
        have hst := Step.new hS ⟨xs, e, false, true⟩ ⟨0, 0, 0, xs.length, 0⟩ (w' := w) rfl rfl rfl (Nat.le_refl _) (fun _ _ => rfl)
          ((hm2.mono (upd_new hS _)).blk (cur := #[]) hne hxp (fun h => by simp at h) (fun j c hc => by have := hm2.size; simp at this; subst this; simp at hc) (by simp) (Nat.le_refl _) (by simp [maxLen])) (fun h => absurd rfl h)
        refine ⟨_, _, _, .inl (appRun' ho hcs hcx (src.zero rfl none 0 0 (Nat.le_refl 0))), hst, ?_, hρ.mono (upd_new hS _)⟩
        simp only [VRel]
        exact ⟨_, none, 0, upd_same _ _ _, by simp [slN], by simp [slN], by simp [slN], by simp [CapOk], fun h => absurd rfl h⟩
      · have hrun := src.grow h0 (ad := none) (n := 0) (q := 0) (l := []) (by simp) (Nat.le_refl 0) (fun _ => rfl) (by simp) (by omega) (by simpa using hb) (by simpa using hlim)
        simp only [Nat.zero_add, List.nil_append] at hrun
        have hst := Step.drewAlloc hS ⟨xs, e, false, true⟩ ⟨w.heap.size, 0, grownCap w n2 0 e, xs.length, n2⟩ _ (grown_blk (mv := true) (hm2.mono (upd_new hS _)) hne hxp hzc (cap := grownCap w n2 0 e) rfl rfl hlim) rfl ⟨_, _, rfl⟩
        refine ⟨_, _, _, .inl (appRun' ho hcs hcx hrun), hst, ?_, hρ.mono (upd_new hS _)⟩
        exact sl_new (upd_same _ _ _) rfl (grownCap_ge w n2 0 e)
    · -- an exact capacity
      rename_i k row len c
      split at h
      · rename_i olds holds
        split at h
        · rename_i cs' hcs'
          obtain ⟨ad, n, q, rfl, hn, hq, l, hm, _, hnone, hrd⟩ := sl_mat hS (cap := some c) hs holds
          simp only [Option.some.injEq, Prod.mk.injEq, Bool.and_eq_true, decide_eq_true_eq, ← hn, hby] at h
          obtain ⟨⟨hgt, hb, hlim⟩, rfl, rfl, rfl⟩ := h
          obtain ⟨s1, s2, s3⟩ := zipApp_spec hcs'
          have hqc : q = c := by
            simp only [VRel] at hs
            obtain ⟨_, _, q', _, hv, _, _, hcap, _⟩ := hs
            injection hv with _ _ hv
            subst hv
            exact hcap.1
          subst hqc
          have hadn : ad = none → q = 0 := by
            simp only [VRel] at hs
            obtain ⟨_, ad', q', _, hv, _, _, _, had⟩ := hs
            injection hv with hv1 _ hv
            subst hv; subst hv1
            intro h0
            by_cases hq0 : q = 0
            · exact hq0
            · rw [had hq0] at h0; cases h0
          have h20 : n2 ≠ 0 := by omega
          have hol : olds.length = xs.length := by rw [← s1, s2]
          have hrun := src.grow h20 (ad := ad) (n := n) (q := q) (l := l) (by rw [hm.size, hsz, hol]) hq hadn hrd hgt hb hlim
          have hne' : cs' ≠ [] := by intro h0; rw [h0] at s2; exact hne (List.eq_nil_of_length_eq_zero s2.symm)
          have hmm := (hm.app hm2 s1 s2 s3).mono (upd_new hS ⟨w.heap.size, 0, grownCap w (n + n2) q e, cs'.length, n + n2⟩)
          have hst := Step.drewAlloc hS ⟨cs', e, false, true⟩ ⟨w.heap.size, 0, grownCap w (n + n2) q e, cs'.length, n + n2⟩ _ (grown_blk (mv := true) hmm hne' (zipApp_plain hcs').1 (by rw [hzc, s2]) (cap := grownCap w (n + n2) q e) rfl rfl hlim) rfl ⟨_, _, rfl⟩
          refine ⟨_, _, _, .inl (appRun' ho hcs hcx hrun), hst, ?_, hρ.mono (upd_new hS _)⟩
          exact sl_new (upd_same _ _ _) rfl (grownCap_ge w (n + n2) q e)
        · cases h
      · cases h
    · -- our own
      rename_i k len
      split at h
      · rename_i cs' hro hcs'
        split at hcs'
        · rename_i het
          have hs' := hs
          simp only [VRel] at hs'
          obtain ⟨be, ad, q, hk, rfl, hfit, hq, hcap, had⟩ := hs'
          obtain ⟨hmk, hb⟩ := getD_blk hS hk
          have hn := slen_eq hS (row := 0) (len := len) hk
          simp only [CapOk, Nat.zero_add] at hcap
          subst hcap
          simp only [Nat.zero_mul, Nat.add_zero] at had
          obtain ⟨olds, holds, so1, so2⟩ : ∃ olds, srcCols m (.sl k 0 len none) = some olds ∧ olds.length = (m.getD k default).cols.length ∧
              (cs'.length = olds.length ∧ cs'.length = xs.length ∧ ∀ (f : Nat) (x : Col), cs'[f]? = some x → ∃ c d, olds[f]? = some c ∧ xs[f]? = some d ∧ x.list = c.list ++ d.list) := by
            cases len with
            | none =>
              obtain ⟨q1, q2, q3⟩ := zipApp_spec hcs'
              refine ⟨(m.getD k default).cols.map (Col.from 0), rfl, by simp, by simpa using q1, q2, ?_⟩
              intro f x hx
              obtain ⟨c, d, g1, g2, g3⟩ := q3 f x hx
              exact ⟨c.from 0, d, by rw [List.getElem?_map, g1]; rfl, g2, by rw [g3, Col.list_from]; simp⟩
            | some nn =>
              obtain ⟨q1, q2, q3⟩ := zipOver_spec hcs'
              refine ⟨(m.getD k default).cols.map (Col.win 0 nn), rfl, by simp, by simpa using q1, q2, ?_⟩
              intro f x hx
              obtain ⟨c, d, g1, g2, g3⟩ := q3 f x hx
              exact ⟨c.win 0 nn, d, by rw [List.getElem?_map, g1]; rfl, g2, by rw [g3, Col.list_win]; simp⟩
          obtain ⟨s1, s2, s3⟩ := so2
          have hpl : cs'.all Col.plain = true ∧ (m.getD k default).cols.all Col.plain = true := by
            cases len with
            | none => exact zipApp_plain hcs'
            | some nn => exact zipOver_plain hcs'
          obtain ⟨ad', n, q', hv, hn', _, l, hm, _, _, hrd⟩ := sl_mat hS hs holds
          injection hv with hv1 hv2 hv3
          subst hv1; subst hv3
          rw [hn] at hn'
          simp only [Option.some.injEq, Prod.mk.injEq, Bool.and_eq_true, decide_eq_true_eq, hn, ← hn', hby] at h
          obtain ⟨⟨hbb, hlim⟩, rfl, rfl, rfl⟩ := h
          rw [← hn'] at hq hfit hcs
          have hol : olds.length = xs.length := by rw [← s1, s2]
          have hne' : cs' ≠ [] := by intro h0; rw [h0] at s2; exact hne (List.eq_nil_of_length_eq_zero s2.symm)
          have hmm := hm.app hm2 s1 s2 s3
          have hnc : cs'.length = be.nc := by rw [s1, so1, hb.nc]
          have hkE : ∀ e' : BE, ∀ j x, j ≠ k → E j = some x → upd E k e' j = some x := fun e' j x hj hx => by rw [upd_ne hj]; exact hx
          by_cases hcr : be.cr = 0
          · obtain rfl : n = 0 := by omega
            by_cases h20 : n2 = 0
            · subst h20
              have hst := Step.app hS (e' := ⟨0, 0, 0, cs'.length, 0⟩) (b' := ⟨cs'.map (Col.kill k), e, false, true⟩) (w' := w) hk hmk hro rfl rfl rfl (Nat.le_refl _) (fun _ _ _ => rfl)
                (by
                  have := (hmm.kill (hkE ⟨0, 0, 0, cs'.length, 0⟩)).blk (w' := w) (g := 0) (cr := 0) (et := e) (mv := true) (cur := #[]) (by simpa using hne') (kill_plain hpl.1) (fun h => by simp at h) (fun j c hc => by
                    have hs0 := hmm.size
                    simp only [Nat.add_zero, Nat.zero_mul] at hs0
                    rw [List.eq_nil_of_length_eq_zero hs0] at hc
                    simp at hc) (by simp) (Nat.le_refl _) (by simp [maxLen])
                  rw [List.length_map] at this
                  exact this) rfl rfl (fun h => absurd rfl h)
              refine ⟨_, _, _, .inl (appRun' ho hcs hcx (src.zero rfl _ _ _ hq)), hst, ?_, hρ.kill (hkE _)⟩
              simp only [VRel]
              exact ⟨_, ad, 0, upd_same _ _ _, by simp [slN, hcr], by simp [slN], by simp [slN], by simp [CapOk], fun h => absurd rfl h⟩
            · have hrun := src.grow h20 (ad := ad) (n := 0) (q := be.cr) (l := l) (by rw [hm.size, hsz, hol]) hq (fun _ => hcr) hrd (by omega) hbb hlim
              have hst := Step.app hS (e' := ⟨w.heap.size, 0, grownCap w (0 + n2) be.cr e, cs'.length, 0 + n2⟩) (b' := ⟨cs'.map (Col.kill k), e, false, true⟩) (w' := w.drew.alloc (.cells ((l ++ l2).toArray ++ Builtin.zeroCells zv.cells (grownCap w (0 + n2) be.cr e - (0 + n2))) e)) hk hmk hro rfl rfl rfl (by simp) (fun j hj _ => heap_alloc_old w.drew _ j hj)
                (by
                  have := grown_blk (w := w) (mv := true) (hmm.kill (hkE ⟨w.heap.size, 0, grownCap w (0 + n2) be.cr e, cs'.length, 0 + n2⟩)) (by simpa using hne') (kill_plain hpl.1) (z := zv) (by simpa [s2] using hzc) (cap := grownCap w (0 + n2) be.cr e) rfl rfl hlim
                  rw [List.length_map] at this
                  exact this) rfl rfl (fun _ => .inl (Nat.le_refl _))
              refine ⟨_, _, _, .inl (appRun' ho hcs hcx hrun), hst, ?_, hρ.kill (hkE _)⟩
              exact sl_new (upd_same _ _ _) rfl (grownCap_ge w (0 + n2) be.cr e)
          · obtain ⟨hoff, cur, hheap, hcur⟩ := hb.own hro hcr (plain_sp hpl.2)
            have hadv := had hcr
            rw [hoff] at hadv
            subst hadv
            rw [het] at hheap
            have hpre : ∀ (j : Nat) (c : Value), l[j]? = some c → cur[j]? = some c := by
              intro j c hc
              have := hrd _ rfl j c hc
              rw [Addr.add_none, Nat.zero_add, cell_of_row w be.blk j cur e (0, 0) hheap] at this
              exact this
            by_cases hroom : n + n2 ≤ be.cr
            · obtain ⟨w', cur', hrun, g1, g2, g3, g4, g5, g6, g7, g8⟩ : ∃ (w' : World) (cur' : Array Value), (Builtin.append_ #[st, xt] o.type #[.slice (some ⟨be.blk, 0, none⟩) n be.cr, X]).run P w = .ok (.slice (some ⟨be.blk, 0, none⟩) (n + n2) be.cr) w' ∧
                  w'.os = w.os ∧ w'.tape = w.tape ∧ w'.output = w.output ∧ w'.heap.size = w.heap.size ∧ (∀ j, j ≠ be.blk → w'.heap[j]? = w.heap[j]?) ∧ w'.heap[be.blk]? = some (.cells cur' e (0, 0)) ∧ cur'.size = cur.size ∧
                  ∀ (j : Nat) (c : Value), (l ++ l2)[j]? = some c → cur'[j]? = some c := by
                by_cases h20 : n2 = 0
                · subst h20
                  refine ⟨w, cur, by simpa using src.zero rfl (some ⟨be.blk, 0, none⟩) n be.cr hq, rfl, rfl, rfl, rfl, fun _ _ => rfl, hheap, rfl, ?_⟩
                  have : l2 = [] := List.eq_nil_of_length_eq_zero (by rw [hm2.size]; simp)
                  subst this
                  simpa using hpre
                · have hfits : n * i.size + l2.length ≤ cur.size := by
                    rw [hm2.size, hsz, hcur, ← Nat.add_mul, ← hnc, s2]
                    exact Nat.mul_le_mul_right _ hroom
                  have hrun := src.room h20 be.blk n be.cr cur hheap hroom hfits
                  refine ⟨_, _, hrun, rfl, rfl, rfl, by simp, fun j hj => setRow_other w be.blk j _ hj, setRow_heap w be.blk cur _ e (0, 0) hheap, ?_, ?_⟩
                  · simp only [List.size_toArray, List.length_append, List.length_take, List.length_drop, Array.length_toList]
                    omega
                  · intro j c hc
                    have hll : l.length = n * i.size := by rw [hm.size, hsz, hol]
                    have htake : cur.toList.take (n * i.size) = l := by
                      apply List.ext_getElem?
                      intro j
                      by_cases hj : j < l.length
                      · rw [List.getElem?_take_of_lt (by omega), List.getElem?_eq_getElem hj]
                        have := hpre j l[j] (List.getElem?_eq_getElem hj)
                        simpa using this
                      · rw [List.getElem?_eq_none (by simp; omega), List.getElem?_eq_none (by omega)]
                    rw [htake]
                    have hj := (List.getElem?_eq_some_iff.1 hc).1
                    rw [List.getElem?_toArray, List.getElem?_append_left hj]
                    exact hc
              have hst := Step.app hS (e' := ⟨be.blk, 0, be.cr, cs'.length, n + n2⟩) (b' := ⟨cs'.map (Col.kill k), e, false, true⟩) (w' := w') hk hmk hro g1 g2 g3 (by omega) (fun j _ hj => g5 j (hj.resolve_left hcr))
                (by
                  have := (hmm.kill (hkE ⟨be.blk, 0, be.cr, cs'.length, n + n2⟩)).blk (w' := w') (g := be.blk) (cr := be.cr) (et := e) (mv := true) (cur := cur') (by simpa using hne') (kill_plain hpl.1) (fun _ => g6) g8 (by rw [g7, hcur, List.length_map, hnc]) hroom hb.max
                  rw [List.length_map] at this
                  exact this) rfl rfl (fun _ => .inr ⟨hcr, rfl⟩)
              refine ⟨_, _, _, .inl (appRun' ho hcs hcx hrun), hst, ?_, hρ.kill (hkE _)⟩
              exact sl_new (upd_same _ _ _) rfl (hroom)
            · have h20 : n2 ≠ 0 := by omega
              have hrun := src.grow h20 (ad := some ⟨be.blk, 0, none⟩) (n := n) (q := be.cr) (l := l) (by rw [hm.size, hsz, hol]) hq (fun h => by cases h) hrd (by omega) hbb hlim
              have hst := Step.app hS (e' := ⟨w.heap.size, 0, grownCap w (n + n2) be.cr e, cs'.length, n + n2⟩) (b' := ⟨cs'.map (Col.kill k), e, false, true⟩) (w' := w.drew.alloc (.cells ((l ++ l2).toArray ++ Builtin.zeroCells zv.cells (grownCap w (n + n2) be.cr e - (n + n2))) e)) hk hmk hro rfl rfl rfl (by simp) (fun j hj _ => heap_alloc_old w.drew _ j hj)
                (by
                  have := grown_blk (w := w) (mv := true) (hmm.kill (hkE ⟨w.heap.size, 0, grownCap w (n + n2) be.cr e, cs'.length, n + n2⟩)) (by simpa using hne') (kill_plain hpl.1) (z := zv) (by simpa [s2] using hzc) (cap := grownCap w (n + n2) be.cr e) rfl rfl hlim
                  rw [List.length_map] at this
                  exact this) rfl rfl (fun _ => .inl (Nat.le_refl _))
              refine ⟨_, _, _, .inl (appRun' ho hcs hcx hrun), hst, ?_, hρ.kill (hkE _)⟩
              exact sl_new (upd_same _ _ _) rfl (grownCap_ge w (n + n2) be.cr e)
        · cases hcs'
      · cases h
    · cases h
  · cases h
theorem src_slice [Pins] {st e : TypeId} (hu : P.underlying st = some (.slice e)) {i : TypeInfo} {zv : Value} (hi : P.info? e = some i) (hzz : i.zero = some zv) {ad2 : Option Addr} {n2 q2 : Nat} {l2 : List Value} (ty : TypeId) (hl : l2.length = n2 * i.size) (h1 : ∀ u ∈ l2, u.oneCell' = true)
    (hnone2 : ad2 = none → n2 = 0) (hrd2 : ∀ b, ad2 = some b → ∀ (j : Nat) (u : Value), l2[j]? = some u → w.cell? (b.add j) = some u) : Src P w st st ty e i zv (.slice ad2 n2 q2) n2 l2 := by
  refine ⟨fun h0 ad n q hq => ?_, fun h0 => ?_, fun h0 => ?_⟩
  · subst h0; exact append_none hu (sizeT_of (P := P) hi) hq ad2 _
  · cases had2 : ad2 with
    | none => exact absurd (hnone2 had2) h0
    | some b2 =>
      intro ad n q l h1 h2 h3 h4 h5 h6 h7
      exact append_grow_any (P := P) (w := w) hu hi hzz h1 h2 h3 h4 hl (hrd2 b2 had2) h5 h6 h7 ty
  · cases had2 : ad2 with
    | none => exact absurd (hnone2 had2) h0
    | some b2 =>
      intro g n q cur hg hroom hfit
      exact run_append_room (P := P) w st ty e i hu hi g n q cur hg b2 n2 q2 l2 hl (hrd2 b2 had2) h1 hroom hfit
theorem to_list [Pins] (c d : Col) : (Col.to c d).list = d.list := by
  unfold Col.to
  split
  · split
    · rename_i ys h; simp only [Col.list]; exact allI_list h
    · rfl
  · split
    · rename_i ys h; simp only [Col.list]; exact allI_list h
    · rfl
  · rfl
  · rfl
  · rfl
  · rfl
  · rfl
theorem tyCols_len [Pins] : ∀ (z : List Value) (xs : List Col), (tyCols z xs).length = xs.length := by
  intro z
  induction z with
  | nil => intro xs; rfl
  | cons v z ih =>
    intro xs
    cases xs with
    | nil => cases v <;> rfl
    | cons c cs => cases v <;> cases c <;> simp [tyCols, ih]
theorem tyCols_get [Pins] : ∀ (z : List Value) (xs : List Col) (f : Nat) (c' : Col), (tyCols z xs)[f]? = some c' → ∃ c, xs[f]? = some c ∧ c'.list = c.list := by
  intro z
  induction z with
  | nil => intro xs f c' h; exact ⟨c', h, rfl⟩
  | cons v z ih =>
    intro xs f c' h
    cases xs with
    | nil => cases v <;> simp [tyCols] at h
    | cons c cs =>
      have key : ∃ c0, tyCols (v :: z) (c :: cs) = c0 :: tyCols z cs ∧ c0.list = c.list := by
        cases v <;> cases c <;> first | exact ⟨_, rfl, rfl⟩ | exact ⟨_, rfl, to_list _ _⟩
      obtain ⟨c0, h0, h1⟩ := key
      rw [h0] at h
      cases f with
      | zero => simp at h; subst h; exact ⟨c, rfl, h1⟩
      | succ f => simpa using ih cs f c' (by simpa using h)
theorem Mat.ty [Pins] {z : List Value} {xs : List Col} {n : Nat} {l : List Value} (h : Mat E xs n l) : Mat E (tyCols z xs) n l := by
  refine ⟨fun c hc => ?_, by rw [tyCols_len]; exact h.size, h.one, fun row fld col v hc hv => ?_⟩
  · obtain ⟨f, hf, rfl⟩ := List.getElem_of_mem hc
    obtain ⟨c0, h1, h2⟩ := tyCols_get z xs f _ (List.getElem?_eq_getElem hf)
    rw [← Col.list_len, h2, Col.list_len]
    exact h.len c0 (List.mem_of_getElem? h1)
  · obtain ⟨c0, h1, h2⟩ := tyCols_get z xs fld col hc
    rw [h2] at hv
    obtain ⟨c, h3, h4⟩ := h.cells row fld c0 v h1 hv
    exact ⟨c, by rw [tyCols_len]; exact h3, h4⟩
theorem goes_append [Pins] (hS : Sim E m w) (hρ : ERel E ρ a.tmps.toList) {st : TypeId} {sx xx : Operand} (ho : o.op = .call ⟨.builtin .append, #[sx, xx], #[st, st]⟩) {v : V} {ρ' : Env} {m' : Mem}
    (h : appendV P st ρ m (opd ρ sx) (opd ρ xx) = some (true, v, ρ', m')) : Goes P o a E m w v ρ' m' := by
  have hs := opd_rel (a := a) hρ sx
  have hx := opd_rel (a := a) hρ xx
  generalize opd ρ sx = S at h hs
  generalize opd ρ xx = X at h hx
  generalize hcs : a.eval sx = cs at hs
  generalize hcx : a.eval xx = cx at hx
  unfold appendV at h
  split at h
  · cases h
  rename_i e hel
  have hu : P.underlying st = some (.slice e) := by
    unfold elemT at hel
    split at hel
    · cases hel; assumption
    · cases hel
  split at h
  · -- nothing is appended
    simp only [VRel] at hx
    subst hx
    split at h
    · rename_i sz hsz
      simp only [VRel] at hs
      subst hs
      simp only [okV, Option.some.injEq, Prod.mk.injEq, true_and] at h
      obtain ⟨rfl, rfl, rfl⟩ := h
      exact goes_pure hS hρ (appRun ho hcs hcx (append_none hu hsz (Nat.le_refl 0) none _)) (by simp [VRel])
    · rename_i k row len cap sz hsz
      simp only [okV, Option.some.injEq, Prod.mk.injEq, true_and] at h
      obtain ⟨rfl, rfl, rfl⟩ := h
      have hs' := hs
      simp only [VRel] at hs'
      obtain ⟨_, ad, q, _, rfl, _, hq, _⟩ := hs'
      exact goes_pure hS hρ (appRun ho hcs hcx (append_none hu hsz hq none _)) hs
    · cases h
  · rename_i k2 row2 len2 cap2
    split at h
    · rename_i xs z hxs hz
      obtain ⟨i, zv, hi, hzz, h3, h4, h5⟩ := zeroCells_some hz
      obtain ⟨ad2, n2, q2, rfl, hn2, hq2, l2, hm2, _, hnone2, hrd2⟩ := sl_mat hS hx hxs
      rw [← hn2] at h
      have h' := h
      unfold appendC at h'
      split at h'
      · rename_i hlen
        simp only [Bool.and_eq_true, decide_eq_true_eq, beq_iff_eq] at hlen
        obtain ⟨hlen, hpos⟩ := hlen
        rw [tyCols_len] at hlen
        obtain ⟨hsz, _⟩ := zlen (i := i) h3 h4 hlen
        have hne : xs ≠ [] := by intro h0; rw [h0, List.length_nil] at hlen; omega
        exact goes_appendC hS hρ ho hu hcs hs hcx hi hzz h3 h4 (src_slice hu hi hzz o.type (by rw [hm2.size, hsz]) hm2.one (fun h => (hnone2 h).resolve_right hne) hrd2) hm2.ty h
      · cases h'
    · cases h
  · cases h
end
end Go.Ab
