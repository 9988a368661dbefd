/- Operations, part X: unsafe pointers, capacities, and what else hangs on the operands and the memory alone. -/
import Derived.Test.YtjciabbnncidjaaGreatAbMaps
import Derived.Lib.UnsafeStr
import Derived.Laws.LoneSync
set_option linter.unusedSimpArgs false
set_option linter.unusedVariables false
namespace Go.Ab
open Go
section
variable {P : Program} {o : Oper} {a : Act} {E : Wh} {m : Mem} {w : World} {ρ : Env}
theorem plainAt_use [Pins] (hS : Sim E m w) {u k : Nat} (h : plainAt P m u k = true) {e : BE} (hk : E k = some e) (hr : 0 < e.rows) :
    (m.getD k default).ro = false ∧ (m.getD k default).et = u ∧ (m.getD k default).cols.length = P.cellsOf u ∧ 0 < P.cellsOf u ∧ e.off = 0 ∧ e.cr ≠ 0 ∧ e.nc = P.cellsOf u ∧
      ∃ cur, w.heap[e.blk]? = some (.cells cur u (0, 0)) ∧ cur.size = e.cr * e.nc := by
  obtain ⟨hmk, hb⟩ := getD_blk hS hk
  simp only [plainAt, Bool.and_eq_true, Bool.not_eq_true', Nat.beq_eq_true_eq] at h
  obtain ⟨h1, h2, h3, h4⟩ := h
  replace h2 := Nat.eq_of_beq_eq_true h2
  replace h3 := Nat.eq_of_beq_eq_true h3
  replace h4 : 0 < P.cellsOf u := Nat.le_of_ble_eq_true h4
  have hcr : e.cr ≠ 0 := by have := hb.room; omega
  obtain ⟨g1, cur, g2, g3⟩ := hb.own h1 hcr (sp_rows (by have := hb.rows; omega))
  refine ⟨h1, h2, h3, h4, g1, hcr, by rw [hb.nc, h3], cur, by rw [← h2]; exact g2, g3⟩
theorem cell_at [Pins] (hS : Sim E m w) {k row fld : Nat} {e : BE} (hk : E k = some e) (hr : row < e.rows) (hf : fld < (m.getD k default).cols.length) : ∃ c, w.cell? ⟨e.blk, e.off + (row * e.nc + fld), none⟩ = some c := by
  obtain ⟨hmk, hb⟩ := getD_blk hS hk
  have hcol := List.getElem?_eq_getElem hf
  have hl := hb.collen hcol
  have hv := List.getElem?_eq_getElem (show row < ((m.getD k default).cols[fld]).list.length by omega)
  obtain ⟨c, h1, _⟩ := hb.cells row fld _ _ hcol hv
  exact ⟨c, h1⟩
theorem run_convert_from_unsafe [Pins] {src dst u : TypeId} (hs : P.underlying src = some .unsafePointer) (hd : P.underlying dst = some (.pointer u)) {n : Nat} (hz : sizeT P u = some n)
    {g cells : Nat} (hsh : w.shape? g = some (u, cells)) (hc : 0 < P.cellsOf u) (hn : P.cellsOf u ≤ cells) : (convert src dst (.pointer (some ⟨g, 0, none⟩))).run P w = .ok (.pointer (some ⟨g, 0, none⟩)) w := by
  have hd0 : P.depth = (2 * (P.types.size + Made.depth) + 1) + 1 := rfl
  have hlies : liesAt P P.depth u (cells / P.cellsOf u) 0 u 1 = true := by
    have hc0 : P.cellsOf u ≠ 0 := by omega
    have h1 : 1 ≤ cells / P.cellsOf u := (Nat.le_div_iff_mul_le hc).2 (by omega)
    rw [hd0]
    simp only [liesAt, Bool.or_eq_true]
    left
    rw [hd0]
    simp [rowAt, hc0, h1, sameLayout]
  have hsz := run_sizeOf' (P := P) hz w
  simp [convert, Conv.unsafePointer, Conv.seenAt, viewAt, run_underlying hs, run_underlying hd, hsh, hsz, variablesAt, hlies, Result.andThen]
theorem xcv_rel [Pins] (hS : Sim E m w) {s d : TypeId} {x v : V} {cx : Value} (hx : VRel E x cx) (h : xcv P s d m x = some v) : ∃ cv, (convert s d cx).run P w = .ok cv w ∧ VRel E v cv := by
  unfold xcv at h
  split at h
  · rename_i t hs hd
    cases h
    simp only [VRel] at hx; subst hx
    exact ⟨.pointer none, by simp [convert, Conv.unsafePointer, run_underlying hs, run_underlying hd], by simp [VRel]⟩
  · rename_i t hs hd
    cases h
    simp only [VRel] at hx; subst hx
    exact ⟨.pointer none, by simp [convert, Conv.unsafePointer, run_underlying hs, run_underlying hd], by simp [VRel]⟩
  · rename_i t k row hs hd
    split at h
    · rename_i n c cs hz hcs
      cases h
      have hx' := hx
      simp only [VRel] at hx'
      obtain ⟨e, hk, hr, rfl⟩ := hx'
      obtain ⟨cv, hcv⟩ := cell_at (fld := 0) hS hk hr (by rw [hcs]; simp)
      obtain ⟨i, hi, hsz⟩ := sizeT_some hz
      exact ⟨_, run_convert_to_unsafe hs hd (by simp [hi, hsz]) hcv, hx⟩
    · cases h
  · rename_i u k hs hd
    split at h
    · rename_i hp
      cases h
      have hx' := hx
      simp only [VRel] at hx'
      obtain ⟨e, hk, hr, rfl⟩ := hx'
      obtain ⟨h1, h2, h3, h4, h5, h6, h7, cur, h8, h9⟩ := plainAt_use hS hp hk hr
      have hsz : ∃ n, sizeT P u = some n := by
        unfold sizeT
        unfold Program.cellsOf at h4
        cases hi : P.info? u with
        | none => simp [hi] at h4
        | some i => exact ⟨_, rfl⟩
      obtain ⟨n, hn⟩ := hsz
      have hsh : w.shape? e.blk = some (u, cur.size) := by unfold World.shape?; rw [h8]
      have := run_convert_from_unsafe (w := w) hs hd hn hsh h4 (by rw [h9, h7]; exact Nat.le_mul_of_pos_left _ (by omega))
      simp only [h5, Nat.zero_mul, Nat.add_zero] at hx ⊢
      exact ⟨_, this, hx⟩
    · cases h
  · cases h
theorem equalIn_ptr [Pins] (q : Nat) {t u : TypeId} {n : Nat} (hu : P.underlying t = some (.pointer u)) (hz : sizeT P u = some (n + 1)) (ad : Addr) : (Op.equalIn (q + 1) t (.pointer (some ad)) (.pointer (some ad))).run P w = .ok true w := by
  have hsz := run_sizeOf' (P := P) hz w
  simp [Op.equalIn, run_underlying hu, hsz, sameAddr]
theorem equalIn_map0 [Pins] (d : Nat) {t k e : TypeId} (b : Nat) (h : P.underlying t = some (.map k e)) : (Op.equalIn (d + 1) t (.map (some b)) (.map none)).run P w = .ok false w := by
  simp [Op.equalIn, run_underlying h]
theorem equalIn_map1 [Pins] (d : Nat) {t k e : TypeId} (h : P.underlying t = some (.map k e)) : (Op.equalIn (d + 1) t (.map none) (.map none)).run P w = .ok true w := by
  simp [Op.equalIn, run_underlying h]
theorem equalIn_fn0 [Pins] (d : Nat) {t : TypeId} {f1 : Array TypeId} {f2 : Array TypeId} {f3 : Bool} (f : Fn) (a c : Array Value) (h : P.underlying t = some (.func f1 f2 f3)) : (Op.equalIn (d + 1) t (.func f a c) .nilFunc).run P w = .ok false w := by
  simp [Op.equalIn, run_underlying h]
theorem equalIn_fn1 [Pins] (d : Nat) {t : TypeId} {f1 : Array TypeId} {f2 : Array TypeId} {f3 : Bool} (h : P.underlying t = some (.func f1 f2 f3)) : (Op.equalIn (d + 1) t .nilFunc .nilFunc).run P w = .ok true w := by
  simp [Op.equalIn, run_underlying h]
theorem equalIn_sl0 [Pins] (d : Nat) {t e : TypeId} (ad : Addr) (n q : Nat) (h : P.underlying t = some (.slice e)) : (Op.equalIn (d + 1) t (.slice (some ad) n q) (.slice none 0 0)).run P w = .ok false w := by
  simp [Op.equalIn, run_underlying h]
theorem eqGuardIn_nili [Pins] (d : Nat) {t : TypeId} {ms : Array (String × TypeId)} (h : P.underlying t = some (.interface ms)) (he : ms.isEmpty = true) : (Op.eqGuardIn (d + 1) t .nilIface .nilIface).run P w = .ok false w := by
  simp only [Op.eqGuardIn, Sem.run_bind, run_underlying h, Result.andThen_ok, Sem.run_pure, he, Bool.not_true]
theorem equalIn_nili [Pins] (d : Nat) {t : TypeId} {ms : Array (String × TypeId)} (h : P.underlying t = some (.interface ms)) : (Op.equalIn (d + 1) t .nilIface .nilIface).run P w = .ok true w := by
  simp only [Op.equalIn, Sem.run_bind, run_underlying h, Result.andThen_ok, Sem.run_pure]
theorem xbin_rel [Pins] (hS : Sim E m w) {op : BinOp} {t : TypeId} {x y v : V} {cx cy : Value} {ox oy : Operand} (hx : VRel E x cx) (hy : VRel E y cy) (h : xbin P op t m x y = some (true, v)) :
    ∃ cv, (do eqGuard op t ox oy cx cy; binOp op t cx cy : Sem Value).run P w = .ok cv w ∧ VRel E v cv := by
  unfold xbin at h
  split at h
  · rename_i k r f k' r' f'
    split at h
    · rename_i u hu hb
      simp only [Bool.and_eq_true] at hb
      obtain ⟨hb1, hb2, hb3⟩ := hb
      obtain rfl := Nat.eq_of_beq_eq_true hb1
      obtain rfl := Nat.eq_of_beq_eq_true hb2
      obtain rfl := Nat.eq_of_beq_eq_true hb3
      split at h
      · rename_i n hz
        simp only [VRel] at hx hy
        obtain ⟨e, hk, _, rfl⟩ := hx
        obtain ⟨e', hk', _, rfl⟩ := hy
        rw [hk] at hk'
        cases hk'
        rw [eqGuard_one ⟨fun z => by simp, by simp⟩]
        simp only [Sem.run_bind, Sem.run_pure, Result.andThen_ok]
        obtain ⟨_, ⟨rfl, rfl⟩ | ⟨rfl, rfl⟩⟩ := nilop_some h
        · refine ⟨.bool true, ?_, by simp [VRel]⟩
          simp only [binOp]
          simp [Op.equal, Op.maxDepth, equalIn_ptr 9999 hu hz]
        · refine ⟨.bool false, ?_, by simp [VRel]⟩
          simp only [binOp]
          simp [Op.equal, Op.maxDepth, equalIn_ptr 9999 hu hz]
      · cases h
    · cases h
  · rename_i k
    split at h
    · rename_i kt et hu
      simp only [VRel] at hx hy
      obtain ⟨e, hk, rfl⟩ := hx
      subst hy
      rw [eqGuard_one ⟨fun z => by simp, by simp⟩]
      simp only [Sem.run_bind, Sem.run_pure, Result.andThen_ok]
      have he : (Op.equalIn 10000 t (.map (some e.blk)) (.map none)).run P w = .ok false w := equalIn_map0 9999 e.blk hu
      obtain ⟨_, ⟨rfl, rfl⟩ | ⟨rfl, rfl⟩⟩ := nilop_some h
      · refine ⟨.bool false, ?_, by simp [VRel]⟩
        simp only [binOp]
        simp [Op.equal, Op.maxDepth, he]
      · refine ⟨.bool true, ?_, by simp [VRel]⟩
        simp only [binOp]
        simp [Op.equal, Op.maxDepth, he]
    · cases h
  · skip
    split at h
    · rename_i kt et hu
      simp only [VRel] at hx hy
      subst hx; subst hy
      rw [eqGuard_one ⟨fun z => by simp, by simp⟩]
      simp only [Sem.run_bind, Sem.run_pure, Result.andThen_ok]
      have he : (Op.equalIn 10000 t (.map none) (.map none)).run P w = .ok true w := equalIn_map1 9999 hu
      obtain ⟨_, ⟨rfl, rfl⟩ | ⟨rfl, rfl⟩⟩ := nilop_some h
      · refine ⟨.bool true, ?_, by simp [VRel]⟩
        simp only [binOp]
        simp [Op.equal, Op.maxDepth, he]
      · refine ⟨.bool false, ?_, by simp [VRel]⟩
        simp only [binOp]
        simp [Op.equal, Op.maxDepth, he]
    · cases h
  · rename_i f fa fc
    split at h
    · rename_i f1 f2 f3 hu
      simp only [VRel] at hx hy
      obtain ⟨a', d', rfl, _, _⟩ := hx
      subst hy
      rw [eqGuard_one ⟨fun z => by simp, by simp⟩]
      simp only [Sem.run_bind, Sem.run_pure, Result.andThen_ok]
      have he : (Op.equalIn 10000 t (.func f a' d') .nilFunc).run P w = .ok false w := equalIn_fn0 9999 f a' d' hu
      obtain ⟨_, ⟨rfl, rfl⟩ | ⟨rfl, rfl⟩⟩ := nilop_some h
      · refine ⟨.bool false, ?_, by simp [VRel]⟩
        simp only [binOp]
        simp [Op.equal, Op.maxDepth, he]
      · refine ⟨.bool true, ?_, by simp [VRel]⟩
        simp only [binOp]
        simp [Op.equal, Op.maxDepth, he]
    · cases h
  · skip
    split at h
    · rename_i f1 f2 f3 hu
      simp only [VRel] at hx hy
      subst hx; subst hy
      rw [eqGuard_one ⟨fun z => by simp, by simp⟩]
      simp only [Sem.run_bind, Sem.run_pure, Result.andThen_ok]
      have he : (Op.equalIn 10000 t .nilFunc .nilFunc).run P w = .ok true w := equalIn_fn1 9999 hu
      obtain ⟨_, ⟨rfl, rfl⟩ | ⟨rfl, rfl⟩⟩ := nilop_some h
      · refine ⟨.bool true, ?_, by simp [VRel]⟩
        simp only [binOp]
        simp [Op.equal, Op.maxDepth, he]
      · refine ⟨.bool false, ?_, by simp [VRel]⟩
        simp only [binOp]
        simp [Op.equal, Op.maxDepth, he]
    · cases h
  · skip
    split at h
    · rename_i ms hu
      split at h
      · rename_i hms
        simp only [VRel] at hx hy
        subst hx; subst hy
        have hg : (eqGuard op t ox oy .nilIface .nilIface).run P w = .ok () w := by
          have hq : (Op.eqGuardIn Op.maxDepth t .nilIface .nilIface).run P w = .ok false w := eqGuardIn_nili 9999 hu hms
          unfold eqGuard
          cases op <;> simp [hq] <;> (split <;> simp [hq])
        have he : (Op.equalIn 10000 t .nilIface .nilIface).run P w = .ok true w := equalIn_nili 9999 hu
        simp only [Sem.run_bind, hg, Result.andThen_ok]
        obtain ⟨_, ⟨rfl, rfl⟩ | ⟨rfl, rfl⟩⟩ := nilop_some h
        · refine ⟨.bool true, ?_, by simp [VRel]⟩
          simp only [binOp]
          simp [Op.equal, Op.maxDepth, he]
        · refine ⟨.bool false, ?_, by simp [VRel]⟩
          simp only [binOp]
          simp [Op.equal, Op.maxDepth, he]
      · cases h
    · cases h
  · rename_i k row len cap
    split at h
    · rename_i e0 c0 v0 hu hnil
      simp only [Option.some.injEq, Prod.mk.injEq] at h
      obtain ⟨hpos, rfl⟩ := h
      simp only [VRel] at hx hy
      obtain ⟨e, ad, q, hk, rfl, hfit, hnq, hcap, had⟩ := hx
      subst hy
      rw [slen_eq hS hk] at hpos
      have hpos' : 0 < slN e row len := by simpa using hpos
      have hq : q ≠ 0 := by omega
      obtain rfl := had hq
      rw [eqGuard_one ⟨fun z => by simp, by simp⟩]
      simp only [Sem.run_bind, Sem.run_pure, Result.andThen_ok]
      have he : (Op.equalIn 10000 t (.slice (some ⟨e.blk, e.off + row * e.nc, none⟩) (slN e row len) q) (.slice none 0 0)).run P w = .ok false w := equalIn_sl0 9999 _ _ _ hu
      obtain ⟨_, ⟨rfl, rfl⟩ | ⟨rfl, rfl⟩⟩ := nilop_some hnil
      · refine ⟨.bool false, ?_, by simp [VRel]⟩
        simp only [binOp]
        simp [Op.equal, Op.maxDepth, he]
      · refine ⟨.bool true, ?_, by simp [VRel]⟩
        simp only [binOp]
        simp [Op.equal, Op.maxDepth, he]
    · cases h
  · cases h
theorem sl_under [Pins] {t : TypeId} {d : TypeDesc} (h : P.underlying t = some d) (w : World) : (underlying t).run P w = .ok d w := by simp [run_underlying h]
/-- A block that is frozen: from now on it is only read. -/
theorem Step.freeze [Pins] (hS : Sim E m w) {k : Nat} {e : BE} (hk : E k = some e) {u : TypeId} (hu : (m.getD k default).et = u) (hro : (m.getD k default).ro = false) (hcr : e.cr ≠ 0) (hmp : (m.getD k default).sp = none) (n : Nat) :
    Step E m w E (m.set k ⟨(m.getD k default).cols, (m.getD k default).et, true, (m.getD k default).mv⟩) (w.freeze ⟨e.blk, 0, none⟩ n) := by
  obtain ⟨hmk, hb⟩ := getD_blk hS hk
  generalize hbb : m.getD k default = b at *
  obtain ⟨hoff, cur, hheap, hcur⟩ := hb.own hro hcr hmp
  have hlt := hS.lt hk
  have hfsz : (w.freeze ⟨e.blk, 0, none⟩ n).heap.size = w.heap.size := by unfold World.freeze; split <;> simp
  have hold : ∀ j, j ≠ e.blk → (w.freeze ⟨e.blk, 0, none⟩ n).heap[j]? = w.heap[j]? := by
    intro j hj
    unfold World.freeze
    split
    · rfl
    · simp only [Array.getElem?_modify]
      rw [if_neg (by omega)]
  have hcell : ∀ o : Nat, (w.freeze ⟨e.blk, 0, none⟩ n).cell? ⟨e.blk, o, none⟩ = w.cell? ⟨e.blk, o, none⟩ := by
    intro o
    unfold World.freeze
    split
    · rfl
    · unfold World.cell?
      simp [Array.getElem?_modify, hheap]
  have hb' : BlkRel E (w.freeze ⟨e.blk, 0, none⟩ n) ⟨b.cols, b.et, true, b.mv⟩ e := by
    refine ⟨hb.nc, hb.rows, hb.len, ?_, by simp, fun hc => by rw [hfsz]; exact hb.lt hc, hb.room, hb.max, fun es hes => by rw [show (⟨b.cols, b.et, true, b.mv⟩ : Blk).sp = b.sp from rfl, hmp] at hes; cases hes⟩
    intro row fld col v hc hv
    obtain ⟨c, h1, h2, h3⟩ := hb.cells row fld col v hc hv
    exact ⟨c, by rw [hcell]; exact h1, h2, h3⟩
  have at_ : ∀ (b' : Blk) j, j ≠ k → (m.set k b')[j]? = m[j]? := fun b' j hj => by rw [List.getElem?_set_ne (by omega)]
  have atk : ∀ b' : Blk, (m.set k b')[k]? = some b' := fun b' => by rw [List.getElem?_set_self hlt]
  refine Step.of hS ?_ ?_ ?_ ?_ ?_ (by omega) ?_ ?_ (by simp) (fun j x hx hc _ => ⟨j, x, hx, hc, rfl⟩) ?_ (fun _ _ h0 => h0)
  · intro j x hx
    by_cases hj : j = k
    · subst hj
      rw [hk] at hx
      obtain rfl := Option.some.inj hx
      exact ⟨_, atk _, hb'⟩
    · obtain ⟨b0, h1, h2⟩ := hS.blk j x hx
      exact ⟨b0, by rw [at_ _ j hj]; exact h1, h2.kept (fun _ _ hh => hh) (fun hc => hold _ (fun hh => hS.apart k e b j x hk hmk hro hcr hx hc (by omega) hh.symm)) (by omega)⟩
  · intro j x bj j' x' hx hbj hroj hcrj hx' hcr' hne
    by_cases hj : j = k
    · subst hj
      rw [atk] at hbj
      obtain rfl := Option.some.inj hbj
      cases hroj
    · rw [at_ _ j hj] at hbj
      exact hS.apart j x bj j' x' hx hbj hroj hcrj hx' hcr' hne
  · unfold World.freeze; split <;> rfl
  · unfold World.freeze; split <;> rfl
  · unfold World.freeze; split <;> rfl
  · intro j _ ho
    exact hold j fun hh => ho ⟨k, e, b, hk, hmk, hro, hcr, hh.symm⟩
  · rintro j ⟨q, x, bq, hx, hbq, hroq, hcrq, rfl⟩ _
    by_cases hj : q = k
    · subst hj
      rw [atk] at hbq
      obtain rfl := Option.some.inj hbq
      cases hroq
    · rw [at_ _ q hj] at hbq
      exact ⟨q, x, bq, hx, hbq, hroq, hcrq, rfl⟩
  · intro j x hx
    by_cases hj : j = k
    · subst hj
      rw [hk] at hx
      obtain rfl := Option.some.inj hx
      exact ⟨e, b, _, hmk, atk _, hk, fun _ => rfl, id, fun _ => rfl⟩
    · obtain ⟨b0, h1, h2⟩ := hS.blk j x hx
      exact ⟨x, b0, b0, h1, by rw [at_ _ j hj]; exact h1, hx, id, id, fun _ => rfl⟩
theorem row_bytes [Pins] (hS : Sim E m w) {k : Nat} {e : BE} (hk : E k = some e) {xs : List Int} (hc : (m.getD k default).cols = [.ints .u8 xs]) (n : Nat) (hn : n ≤ xs.length) :
    ∃ l : List UInt8, l.length = n ∧ (l.map fun c => (c.toNat : Int)) = xs.take n ∧ ∀ j x, l[j]? = some x → w.cell? ⟨e.blk, e.off + j, none⟩ = some (.int .u8 x.toNat) := by
  obtain ⟨hmk, hb⟩ := getD_blk hS hk
  have hnc : e.nc = 1 := by rw [hb.nc, hc]; rfl
  have key : ∀ j (h : j < xs.length), ∃ x : UInt8, (x.toNat : Int) = xs[j] ∧ w.cell? ⟨e.blk, e.off + j, none⟩ = some (.int .u8 x.toNat) := by
    intro j h
    obtain ⟨c, h1, _, h3⟩ := hb.cells j 0 (.ints .u8 xs) (.I .u8 xs[j]) (by rw [hc]; rfl) (by simp [Col.list, h])
    simp only [VRel] at h3
    obtain ⟨rfl, hr⟩ := h3
    have hr' : 0 ≤ xs[j] ∧ xs[j] ≤ 255 := by simpa [inR, IntKind.min, IntKind.max, IntKind.signed, IntKind.bits] using hr
    refine ⟨UInt8.ofNat (xs[j]).toNat, ?_, ?_⟩
    · have : (UInt8.ofNat (xs[j]).toNat).toNat = (xs[j]).toNat := by simp; omega
      rw [this]; omega
    · have : (UInt8.ofNat (xs[j]).toNat).toNat = (xs[j]).toNat := by simp; omega
      rw [this, Int.toNat_of_nonneg hr'.1]
      rw [hnc, Nat.mul_one, Nat.add_zero] at h1
      exact h1
  have : ∀ n, n ≤ xs.length → ∃ l : List UInt8, l.length = n ∧ (l.map fun c => (c.toNat : Int)) = xs.take n ∧ ∀ j x, l[j]? = some x → w.cell? ⟨e.blk, e.off + j, none⟩ = some (.int .u8 x.toNat) := by
    intro n
    induction n with
    | zero => exact fun _ => ⟨[], rfl, by simp, by simp⟩
    | succ n ih =>
      intro hn
      obtain ⟨l, h1, h2, h3⟩ := ih (by omega)
      obtain ⟨x, g1, g2⟩ := key n (by omega)
      refine ⟨l ++ [x], by simp [h1], ?_, ?_⟩
      · rw [List.map_append, h2, List.take_add_one, List.getElem?_eq_getElem (by omega)]
        simp [g1]
      · intro j y hy
        by_cases hj : j < l.length
        · rw [List.getElem?_append_left hj] at hy
          exact h3 j y hy
        · rw [List.getElem?_append_right (by omega)] at hy
          have hj' : j - l.length = 0 := by
            by_cases h0 : j - l.length = 0
            · exact h0
            · obtain ⟨q, hq⟩ : ∃ q, j - l.length = q + 1 := ⟨j - l.length - 1, by omega⟩
              rw [hq] at hy; simp at hy
          rw [hj'] at hy
          simp at hy
          subst hy
          obtain rfl : j = n := by omega
          exact g2
  exact this n hn
theorem xbi_sound [Pins] (hS : Sim E m w) (hρ : ERel E ρ a.tmps.toList) {b : Builtin} {xs : Array Operand} {ts : Array TypeId} (ho : o.op = .call ⟨.builtin b, xs, ts⟩) {v : V} {m' : Mem}
    (h : xbi P b ts.toList (xs.toList.map (opd ρ)) m = some (true, v, m')) : Goes P o a E m w v ρ m' := by
  unfold xbi at h
  split at h
  · rename_i x t hargs hats
    obtain ⟨ox, rfl, rfl⟩ := args_one hargs
    obtain rfl : ts = #[t] := by obtain ⟨l⟩ := ts; simpa using hats
    have hx := opd_rel (a := a) hρ ox
    generalize opd ρ ox = X at h hx
    generalize hcx : a.eval ox = cx at hx
    unfold xlen at h
    split at h
    · rename_i kt et hu
      simp only [Option.some.injEq, Prod.mk.injEq, true_and] at h
      obtain ⟨rfl, rfl⟩ := h
      simp only [VRel] at hx; subst hx
      refine goes_pure hS hρ (cv := .int .i64 0) (biRun (c := #[]) ho (by simp [builtin, hcx, Builtin.len_, run_underlying hu, goInt])) (by simp [VRel, inR, IntKind.min, IntKind.max, IntKind.signed, IntKind.bits])
    · rename_i kt et j hu
      split at h
      · rename_i es hmp
        simp only [Option.some.injEq, Prod.mk.injEq] at h
        obtain ⟨hle, rfl, rfl⟩ := h
        have hle' := Nat.le_of_ble_eq_true hle
        simp only [VRel] at hx
        obtain ⟨e, hj, rfl⟩ := hx
        obtain ⟨hcr, ds, clock, hh, hm, hcl⟩ := map_at hS hj hmp
        have hsz : ds.size = es.length := by rw [hm.1]; simp
        refine goes_pure hS hρ (cv := .int .i64 (es.length : Int)) (biRun (c := #[]) ho (by simp [builtin, hcx, Builtin.len_, run_underlying hu, goInt, run_getObj_at hh, hsz])) ?_
        simp only [VRel]
        exact ⟨trivial, by simp [inR, IntKind.min, IntKind.max, IntKind.signed, IntKind.bits]; omega⟩
      · cases h
    · cases h
  · rename_i x t hargs hats
    obtain ⟨ox, rfl, rfl⟩ := args_one hargs
    obtain rfl : ts = #[t] := by obtain ⟨l⟩ := ts; simpa using hats
    have hx := opd_rel (a := a) hρ ox
    generalize opd ρ ox = X at h hx
    generalize hcx : a.eval ox = cx at hx
    split at h
    · rename_i e hu
      simp only [Option.some.injEq, Prod.mk.injEq, true_and] at h
      obtain ⟨rfl, rfl⟩ := h
      simp only [VRel] at hx; subst hx
      exact goes_pure hS hρ (cv := .int .i64 0) (biRun (c := #[]) ho (by simp [builtin, hcx, Builtin.cap_, run_underlying hu, goInt])) (by simp [VRel, inR, IntKind.min, IntKind.max, IntKind.signed, IntKind.bits])
    · rename_i e k row len c hu
      simp only [Option.some.injEq, Prod.mk.injEq] at h
      obtain ⟨hc, rfl, rfl⟩ := h
      simp only [VRel] at hx
      obtain ⟨be, ad, q, hk, rfl, hfit, hnq, hcap, had⟩ := hx
      simp only [CapOk] at hcap
      obtain ⟨rfl, _⟩ := hcap
      have hc' : q ≤ 9223372036854775807 := Nat.le_of_ble_eq_true hc
      exact goes_pure hS hρ (cv := .int .i64 q) (biRun (c := #[]) ho (by simp [builtin, hcx, Builtin.cap_, run_underlying hu, goInt])) (by simp [VRel, inR, IntKind.min, IntKind.max, IntKind.signed, IntKind.bits]; omega)
    · rename_i e k row len hu
      simp only [Option.some.injEq, Prod.mk.injEq, true_and] at h
      obtain ⟨rfl, rfl⟩ := h
      simp only [VRel] at hx
      obtain ⟨be, ad, q, hk, rfl, hfit, hnq, hcap, had⟩ := hx
      exact goes_pure hS hρ (cv := .int .i64 q) (biRun (c := #[]) ho (by simp [builtin, hcx, Builtin.cap_, run_underlying hu, goInt])) (by simp [VRel])
    · cases h
  · rename_i x t hargs hats
    obtain ⟨ox, rfl, rfl⟩ := args_one hargs
    obtain rfl : ts = #[t] := by obtain ⟨l⟩ := ts; simpa using hats
    have hx := opd_rel (a := a) hρ ox
    generalize opd ρ ox = X at h hx
    generalize hcx : a.eval ox = cx at hx
    split at h
    · rename_i e hu
      simp only [Option.some.injEq, Prod.mk.injEq, true_and] at h
      obtain ⟨rfl, rfl⟩ := h
      simp only [VRel] at hx; subst hx
      exact goes_pure hS hρ (cv := .pointer none) (biRun (c := #[]) ho (by simp [builtin, hcx, Lib.run_unsafeSliceData_nil])) (by simp [VRel])
    · rename_i e k row len cap hu
      simp only [Option.some.injEq, Prod.mk.injEq, decide_eq_true_eq] at h
      obtain ⟨hc, rfl, rfl⟩ := h
      simp only [VRel] at hx
      obtain ⟨be, ad, q, hk, rfl, hfit, hnq, hcap, had⟩ := hx
      rw [slen_eq hS (row := row) (len := len) hk] at hc
      have hq : q ≠ 0 := by omega
      obtain rfl := had hq
      refine goes_pure hS hρ (cv := .pointer (some ⟨be.blk, be.off + row * be.nc, none⟩)) (biRun (c := #[]) ho (by simp [builtin, hcx, Lib.run_unsafeSliceData_row (P := P) w #[t] o.type _ _ q hq])) ?_
      simp only [VRel]
      exact ⟨be, hk, by omega, by simp⟩
    · cases h
  · rename_i x n t t' hargs hats
    obtain ⟨op, oi, rfl, rfl, hq2⟩ := args_two hargs
    obtain rfl : ts = #[t, t'] := by obtain ⟨l⟩ := ts; simpa using hats
    have hx := opd_rel (a := a) hρ op
    have hn := opd_rel (a := a) hρ oi
    rw [hq2] at hn
    simp only [VRel] at hn
    obtain ⟨hn, hnr⟩ := hn
    generalize opd ρ op = X at h hx
    generalize hcx : a.eval op = cx at hx
    unfold ustrV at h
    split at h
    · simp only [Option.some.injEq, Prod.mk.injEq, beq_iff_eq] at h
      obtain ⟨rfl, rfl, rfl⟩ := h
      simp only [VRel] at hx; subst hx
      refine goes_pure hS hρ (cv := .string .empty) (biRun (c := #[]) ho ?_) (by simp only [VRel]; exact ⟨.empty, rfl, rfl, by simp⟩)
      simp [builtin, hcx, hn, Lib.run_unsafeString_none (P := P) w t t' o.type none]
    · rename_i k
      split at h
      · rename_i e xs hu hcols
        split at h
        · rename_i hp
          simp only [Option.some.injEq, Prod.mk.injEq, Bool.and_eq_true, decide_eq_true_eq] at h
          obtain ⟨⟨h0, hle⟩, rfl, rfl⟩ := h
          simp only [VRel] at hx
          obtain ⟨be, hk, hr, rfl⟩ := hx
          obtain ⟨h1, h2, h3, h4, h5, h6, h7, cur, h8, h9⟩ := plainAt_use hS hp hk hr
          obtain ⟨l, hl1, hl2, hl3⟩ := row_bytes hS hk hcols n.toNat hle
          obtain ⟨hmk, hb⟩ := getD_blk hS hk
          have hc1 : P.cellsOf e = 1 := by rw [← h3, hcols]; rfl
          have hrows : be.rows = xs.length := by rw [hb.rows]; unfold Blk.rows; rw [hcols]; rfl
          have hn' : n = ((l.length : Nat) : Int) := by omega
          have hlne : l ≠ [] := by intro hh; rw [hh] at hl1; simp at hl1; omega
          have hsz : l.length ≤ cur.size := by rw [h9, h7, hc1]; have := hb.room; omega
          have hmx : l.length ≤ 9223372036854775807 := by have := hb.max; have := hb.room; simp only [maxLen] at *; omega
          have hsh : w.shape? be.blk = some (e, cur.size) := by unfold World.shape?; rw [h8]
          have hrun := Lib.run_unsafeString_row (P := P) w t t' o.type e hu hc1 be.blk cur.size hsh l hlne hsz hmx (fun j x hj => by
            have := hl3 j x hj
            rw [h5] at this
            rw [Addr.add_none]
            exact this)
          have hst := Step.freeze hS hk h2 h1 h6 (sp_rows (by have := (getD_blk hS hk).2.rows; omega)) l.length
          rw [hcols] at hst
          refine ⟨E, .string ⟨l.toArray⟩, _, .inl (biRun (c := #[]) ho (by
            simp only [builtin, hcx, hn, hn', h5, Nat.zero_mul, Nat.add_zero, List.map_toArray, List.map_cons, List.map_nil, Sem.run_bind, hrun, Result.andThen_ok, Sem.run_pure])), hst, ?_, hρ⟩
          simp only [VRel]
          exact ⟨⟨l.toArray⟩, rfl, by simpa [bytesI] using hl2, by simpa [ByteArray.size] using hmx⟩
        · cases h
      · cases h
    · cases h
  · rename_i d t t' hargs hats
    obtain ⟨od, ox, rfl, rfl, hq2⟩ := args_two hargs
    obtain rfl : ts = #[t, t'] := by obtain ⟨l⟩ := ts; simpa using hats
    have hd := opd_rel (a := a) hρ od
    have hx := opd_rel (a := a) hρ ox
    rw [hq2] at hx
    simp only [VRel] at hx
    generalize opd ρ od = D at h hd
    generalize hcd : a.eval od = cd at hd
    split at h
    · rename_i e he
      have hu : P.underlying t = some (.slice e) := by
        unfold elemT at he
        split at he
        · cases he; assumption
        · cases he
      split at h
      · rename_i k row len cap hz
        simp only [Option.some.injEq, Prod.mk.injEq, true_and] at h
        obtain ⟨rfl, rfl⟩ := h
        simp only [VRel] at hd
        obtain ⟨be, ad, q, hk, rfl, hfit, hnq, hcap, had⟩ := hd
        refine goes_pure hS hρ (cv := .int .i64 0) (biRun (c := #[]) ho ?_) (by simp [VRel, inR, IntKind.min, IntKind.max, IntKind.signed, IntKind.bits])
        cases ad <;> simp [builtin, hcd, hx, Builtin.copy_, run_underlying hu, Builtin.lenOf, Builtin.firstCells, run_sizeOf' hz, loadCells, loadCellsFrom, storeCells, goInt]
      · rename_i hz
        simp only [Option.some.injEq, Prod.mk.injEq, true_and] at h
        obtain ⟨rfl, rfl⟩ := h
        simp only [VRel] at hd; subst hd
        refine goes_pure hS hρ (cv := .int .i64 0) (biRun (c := #[]) ho ?_) (by simp [VRel, inR, IntKind.min, IntKind.max, IntKind.signed, IntKind.bits])
        simp [builtin, hcd, hx, Builtin.copy_, run_underlying hu, Builtin.lenOf, Builtin.firstCells, run_sizeOf' hz, loadCells, loadCellsFrom, storeCells, goInt]
      · cases h
    · cases h
  · cases h
theorem xop_sound [Pins] (hS : Sim E m w) (hρ : ERel E ρ a.tmps.toList) {v : V} {m' : Mem} (h : xop P o (o.op.operands.toList.map (opd ρ)) m = some (true, v, m')) : Goes P o a E m w v ρ m' := by
  unfold xop at h
  split at h
  · rename_i c ho
    obtain ⟨cl, args, ats⟩ := c
    simp only at h
    split at h
    · rename_i b
      exact xbi_sound hS hρ ho (by simpa [ho, Op.operands, Call.operands] using h)
    · cases h
  · rename_i s d x ho
    simp only [ho, Op.operands, List.map_cons, List.map_nil] at h
    split at h
    · rename_i v' hv
      simp only [Option.some.injEq, Prod.mk.injEq, true_and] at h
      obtain ⟨rfl, rfl⟩ := h
      obtain ⟨cv, h1, h2⟩ := xcv_rel hS (opd_rel (a := a) hρ x) hv
      exact goes_pure hS hρ (by simp only [execOp, ho, Sem.run_bind, h1, Result.andThen_ok, Sem.run_pure]) h2
    · cases h
  · rename_i op t x y u ho
    simp only [ho, Op.operands, List.map_cons, List.map_nil] at h
    split at h
    · rename_i c v' hv
      simp only [Option.some.injEq, Prod.mk.injEq] at h
      obtain ⟨rfl, rfl, rfl⟩ := h
      obtain ⟨cv, h1, h2⟩ := xbin_rel (w := w) hS (ox := x) (oy := y) (opd_rel (a := a) hρ x) (opd_rel (a := a) hρ y) hv
      refine goes_pure hS hρ ?_ h2
      simp only [Sem.run_bind] at h1
      simp only [execOp, ho, Sem.run_bind, h1, Result.andThen_ok, Sem.run_pure]
    · cases h
  · exact xmap_sound hS hρ h
theorem sop_sound [Pins] (hS : Sim E m w) (hρ : ERel E ρ a.tmps.toList) {v : V} {ρ' : Env} {m' : Mem} (h : sop P o ρ m = some (true, v, ρ', m')) : Goes P o a E m w v ρ' m' := by
  unfold sop at h
  split at h
  · rename_i r hr
    obtain rfl := Option.some.inj h
    exact sop0_sound hS hρ hr
  · split at h
    · rename_i hx
      simp only [Option.some.injEq, Prod.mk.injEq] at h
      obtain ⟨rfl, rfl, rfl, rfl⟩ := h
      exact xop_sound hS hρ hx
    · cases h
/-- An operation that lays a new block and looks at no memory. -/
theorem free_sound [Pins] (hS : Sim E m w) (hρ : ERel E ρ a.tmps.toList) (hf : freeOp o = true) {v : V} {ρ' : Env} {m' : Mem} (h : sop P o ρ m = some (true, v, ρ', m')) : ρ' = ρ ∧ ∃ b, m' = m ++ [b] ∧ GoesN P o a E m w v b := by
  have hx : (∀ t r, o.op ≠ .makeMap t r) ∧ (∀ t x, o.op ≠ .makeChan t x) → xop P o (o.op.operands.toList.map (opd ρ)) m = none := by
    rintro ⟨hne, hnc⟩
    unfold freeOp at hf
    cases ho : o.op <;> simp only [ho] at hf <;> first | (cases hf; done) | simp [xop, xmap, ho] | skip
    · exact absurd ho (hne _ _)
    · exact absurd ho (hnc _ _)
  cases ho : o.op with
  | alloc t =>
    have hx := hx (by simp [ho])
    unfold sop at h
    rw [hx] at h
    cases h0 : sop0 P o ρ m with
    | none => rw [h0] at h; cases h
    | some r =>
      rw [h0] at h
      obtain rfl := Option.some.inj h
      simp only [sop0, ho] at h0
      split at h0
      · rename_i z hz
        unfold newB at h0
        split at h0
        · rename_i b hb
          simp only [Option.some.injEq, Prod.mk.injEq, true_and] at h0
          obtain ⟨rfl, rfl, rfl⟩ := h0
          exact ⟨rfl, b, rfl, goes_alloc hS hρ ho hz hb⟩
        · cases h0
      · cases h0
  | box t x =>
    have hx := hx (by simp [ho])
    unfold sop at h
    rw [hx] at h
    cases h0 : sop0 P o ρ m with
    | none => rw [h0] at h; cases h
    | some r =>
      rw [h0] at h
      obtain rfl := Option.some.inj h
      simp only [sop0, ho] at h0
      split at h0
      · rename_i z hz
        split at h0
        · rename_i hc
          simp only [Bool.and_eq_true, beq_iff_eq] at hc
          unfold newB at h0
          split at h0
          · rename_i b hb
            simp only [Option.some.injEq, Prod.mk.injEq, true_and] at h0
            obtain ⟨rfl, rfl, rfl⟩ := h0
            exact ⟨rfl, b, rfl, goes_box hS hρ ho hc.1 hc.2 hb⟩
          · cases h0
        · cases h0
      · cases h0
  | buildSlice t n parts =>
    have hx := hx (by simp [ho])
    unfold sop at h
    rw [hx] at h
    cases h0 : sop0 P o ρ m with
    | none => rw [h0] at h; cases h
    | some r =>
      rw [h0] at h
      obtain rfl := Option.some.inj h
      simp only [sop0, ho] at h0
      split at h0
      · rename_i e he
        split at h0
        · rename_i z hz
          split at h0
          · rename_i hc
            simp only [Bool.and_eq_true, decide_eq_true_eq, List.all_eq_true, beq_iff_eq] at hc
            split at h0
            · rename_i b hb
              simp only [Option.some.injEq, Prod.mk.injEq, true_and] at h0
              obtain ⟨rfl, rfl, rfl⟩ := h0
              exact ⟨rfl, b, rfl, goes_buildSlice hS hρ ho he hz hc.1 hc.2 hb⟩
            · cases h0
          · cases h0
        · cases h0
      · cases h0
  | makeSlice t l c =>
    have hx := hx (by simp [ho])
    unfold sop at h
    rw [hx] at h
    cases h0 : sop0 P o ρ m with
    | none => rw [h0] at h; cases h
    | some r =>
      rw [h0] at h
      obtain rfl := Option.some.inj h
      simp only [sop0, ho] at h0
      exact goes_makeSlice hS hρ ho h0
  | makeMap t r =>
    have h0 : sop0 P o ρ m = none := by simp only [sop0, ho]
    unfold sop at h
    rw [h0] at h
    simp only [xop, xmap, ho] at h
    cases r with
    | some r => simp only [Op.operands] at h; cases h
    | none =>
      simp only [Op.operands, Option.toArray, Array.toList, List.map_nil] at h
      simp only [Option.some.injEq, Prod.mk.injEq, true_and] at h
      obtain ⟨rfl, rfl, rfl⟩ := h
      exact ⟨rfl, _, rfl, goes_makeMap hS ho⟩
  | makeChan t x =>
    have h0 : sop0 P o ρ m = none := by simp only [sop0, ho]
    unfold sop at h
    rw [h0] at h
    simp only [ho, Op.operands, Array.toList, List.map_cons, List.map_nil] at h
    cases hx1 : xop P o [opd ρ x] m with
    | none => rw [hx1] at h; cases h
    | some r =>
      obtain ⟨c1, v1, m1⟩ := r
      rw [hx1] at h
      simp only [Option.some.injEq, Prod.mk.injEq] at h
      obtain ⟨rfl, rfl, rfl, rfl⟩ := h
      simp only [xop, ho] at hx1
      unfold xmap at hx1
      split at hx1
      · rename_i t' n' heq hvs
        cases heq
        simp only [List.cons.injEq, and_true] at hvs
        obtain ⟨b, h1, h2⟩ := goes_makeChanN hS hρ ho hvs hx1
        exact ⟨rfl, b, h1, h2⟩
      all_goals first | (rename_i heq _; cases heq; done) | cases hx1
  | _ => unfold freeOp at hf; simp [ho] at hf
end
end Go.Ab
