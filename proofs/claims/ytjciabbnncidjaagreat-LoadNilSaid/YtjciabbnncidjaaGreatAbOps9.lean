/- Operations, part 9: copy, make, len, min, max; and all of them together. -/
import Derived.Test.YtjciabbnncidjaaGreatAbOps8
set_option linter.unusedSimpArgs false
set_option linter.unusedVariables false
namespace Go.Ab
open Go
section
variable {P : Program} {o : Oper} {a : Act} {E : Wh} {m : Mem} {w : World} {ρ : Env}

theorem zeros_plain [Pins] (z : List Value) (n : Nat) : (z.map fun x => Col.zeros x n).all Col.plain = true := by
  rw [List.all_eq_true]
  intro c hc
  simp only [List.mem_map] at hc
  obtain ⟨x, _, rfl⟩ := hc
  unfold Col.zeros
  split <;> rfl
theorem biRun [Pins] {b : Builtin} {ts : Array TypeId} {xs : Array Operand} (ho : o.op = .call ⟨.builtin b, xs, ts⟩) {cv : Value} {w' : World} {c : Array Bool}
    (h : (builtin b ts o.type (xs.map fun | .const _ => true | _ => false) (xs.map a.eval)).run P w = .ok (.value cv) w') : (execOp a.eval o).run P w = .ok (.value cv) w' := by
  simp only [execOp, ho, resolve, invoke, Sem.run_bind, Sem.run_pure, Result.andThen_ok]
  exact h
theorem args_two [Pins] {xs : Array Operand} {x y : V} (h : xs.toList.map (opd ρ) = [x, y]) : ∃ ox oy, xs = #[ox, oy] ∧ opd ρ ox = x ∧ opd ρ oy = y := by
  obtain ⟨l⟩ := xs
  match l with
  | [] => simp at h
  | [_] => simp at h
  | [ox, oy] => simp at h; exact ⟨ox, oy, rfl, h.1, h.2⟩
  | _ :: _ :: _ :: _ => simp at h
theorem args_one [Pins] {xs : Array Operand} {x : V} (h : xs.toList.map (opd ρ) = [x]) : ∃ ox, xs = #[ox] ∧ opd ρ ox = x := by
  obtain ⟨l⟩ := xs
  match l with
  | [] => simp at h
  | [ox] => simp at h; exact ⟨ox, rfl, h⟩
  | _ :: _ :: _ => simp at h

/-! ### make -/
def zeroV : Value → V
  | .int k _ => .I k 0
  | .bool _ => .B false
  | .string _ => .S []
  | z => V.of1 z
theorem zeros_list [Pins] (z : Value) (n : Nat) : (Col.zeros z n).list = List.replicate n (zeroV z) := by
  cases z <;> simp [Col.zeros, Col.list, zeroV]
theorem zeroOk_rel [Pins] {u : Value} (h : zeroOk u = true) : VRel E (zeroV u) u := by
  unfold zeroV
  cases u with
  | int k n =>
    simp only [zeroOk, Bool.and_eq_true, beq_iff_eq] at h
    obtain ⟨rfl, h⟩ := h
    simp only [VRel]; exact ⟨trivial, h⟩
  | bool b => simp [zeroOk] at h; subst h; simp [VRel]
  | string s =>
    simp only [zeroOk, beq_iff_eq] at h
    simp only [VRel]
    exact ⟨s, rfl, List.eq_nil_of_length_eq_zero (by rw [bytesI_len]; exact h), by omega⟩
  | _ => exact of1_rel _ _
theorem goes_makeSlice [Pins] (hS : Sim E m w) (hρ : ERel E ρ a.tmps.toList) {t : TypeId} {x y : Operand} (ho : o.op = .makeSlice t x y) {v : V} {ρ' : Env} {m' : Mem} (h : makeSl P t ρ m (opd ρ x) (opd ρ y) = some (true, v, ρ', m')) : ρ' = ρ ∧ ∃ b, m' = m ++ [b] ∧ GoesN P o a E m w v b := by
  have hx := opd_rel (a := a) hρ x
  have hy := opd_rel (a := a) hρ y
  generalize opd ρ x = X at h hx
  generalize opd ρ y = Y at h hy
  unfold makeSl at h
  split at h
  · rename_i e n cp he
    have hu : P.underlying t = some (.slice e) := by
      unfold elemT at he
      split at he
      · cases he; assumption
      · cases he
    simp only [VRel] at hx hy
    obtain ⟨hx, _⟩ := hx
    obtain ⟨hy, _⟩ := hy
    split at h
    · rename_i z hz
      obtain ⟨i, zv, h1, h2, h3, h4, h5⟩ := zeroCells_some hz
      split at h
      · cases h
      · rename_i hz0
        split at h
        · rename_i hzok
          simp only [Option.some.injEq, Prod.mk.injEq, Bool.and_eq_true, decide_eq_true_eq, bytesT_of h1] at h
          obtain ⟨⟨g1, g2, g3, g4⟩, rfl, rfl, rfl⟩ := h
          simp only [limit] at g3 g4
          have hrun := run_make (P := P) w t e i zv hu h1 h2 .i64 .i64 n cp g1 g2 (by omega) (by omega)
          have hzs : zv.cells.size = z.length := by rw [← h3]; simp
          have hst : NewB E m w (w.alloc (.cells (madeCells zv.cells (cp.toNat * i.size)) e)) ⟨z.map fun x => Col.zeros x n.toNat, e, false, true⟩ ⟨w.heap.size, 0, cp.toNat, z.length, n.toNat⟩ := NewB.mk rfl rfl rfl (by simp) (fun j hj => heap_alloc_old w _ j hj) (by
            have := BlkRel.mk' (E' := upd E m.length ⟨w.heap.size, 0, cp.toNat, z.length, n.toNat⟩) (w' := w.alloc (.cells (madeCells zv.cells (cp.toNat * i.size)) e)) (b := ⟨z.map fun x => Col.zeros x n.toNat, e, false, true⟩) (g := w.heap.size) (n := n.toNat) (cr := cp.toNat) (cur := madeCells zv.cells (cp.toNat * i.size))
              (by intro h0; apply hz0; simpa using h0) (zeros_plain z n.toNat) (by
                intro c hc
                simp only [List.mem_map] at hc
                obtain ⟨x, _, rfl⟩ := hc
                rw [← Col.list_len, zeros_list, List.length_replicate]) (by
                intro row fld col v hc hv
                simp only [List.getElem?_map, Option.map_eq_some_iff] at hc
                obtain ⟨u, hu1, rfl⟩ := hc
                rw [zeros_list, List.getElem?_replicate] at hv
                split at hv
                · rename_i hrow
                  cases hv
                  have hfld : fld < z.length := (List.getElem?_eq_some_iff.1 hu1).1
                  refine ⟨u, ?_, h5 u (List.mem_of_getElem? hu1), ?_⟩
                  · have hlt : row * z.length + fld < cp.toNat * i.size := by
                      rw [← h4]
                      have : (row + 1) * z.length ≤ cp.toNat * z.length := Nat.mul_le_mul_right _ (by omega)
                      rw [Nat.succ_mul] at this
                      omega
                    simp only [List.length_map]
                    rw [Array.getElem?_eq_getElem (by rw [size_madeCells]; exact hlt)]
                    simp only [madeCells, Array.getElem_map, Array.getElem_range, hzs]
                    rw [Nat.mul_comm, Nat.mul_add_mod, Nat.mod_eq_of_lt hfld, getElem!_pos zv.cells fld (by omega)]
                    congr 1
                    rw [← h3] at hu1
                    have := (List.getElem?_eq_some_iff.1 hu1).2
                    simpa using this
                  · have hok := List.all_eq_true.1 hzok u (List.mem_of_getElem? hu1)
                    exact zeroOk_rel hok
                · cases hv) (fun _ => heap_alloc_new w _) (by rw [size_madeCells, ← h4]; simp) (by omega) (by simp only [maxLen]; omega)
            simpa using this) (fun _ => Nat.le_refl _)
          refine ⟨rfl, _, rfl, _, .slice (some ⟨w.heap.size, 0, none⟩) n.toNat cp.toNat, _, (by simp only [execOp, ho, hx, hy, Sem.run_bind, hrun, Result.andThen_ok, Sem.run_pure]), hst, ?_⟩
          exact sl_new (e := ⟨w.heap.size, 0, cp.toNat, z.length, n.toNat⟩) (upd_same _ _ _) rfl (by simp; omega)
        · cases h
    · cases h
  · cases h

/-! ### append of zeros, and of a text -/
theorem zeros_mat [Pins] {z : List Value} {zv : Value} (h3 : zv.cells.toList = z) (h5 : ∀ u ∈ z, u.oneCell' = true) (hok : z.all zeroOk = true) (hz0 : z ≠ []) (n : Nat) :
    Mat E (z.map fun x => Col.zeros x n) n (Builtin.zeroCells zv.cells n).toList := by
  have hzs : zv.cells.size = z.length := by rw [← h3]; simp
  have hget : ∀ (j : Nat), j < n * z.length → ∃ u, z[j % z.length]? = some u ∧ (Builtin.zeroCells zv.cells n).toList[j]? = some u := by
    intro j hj
    have hp : 0 < z.length := by cases z with | nil => exact absurd rfl hz0 | cons a b => simp
    have hm := Nat.mod_lt j hp
    refine ⟨z[j % z.length], List.getElem?_eq_getElem hm, ?_⟩
    rw [List.getElem?_eq_getElem (by simp [Builtin.zeroCells, hzs]; exact hj)]
    simp only [Builtin.zeroCells, Array.getElem_toList, Array.getElem_map, Array.getElem_range, hzs]
    rw [getElem!_pos zv.cells (j % z.length) (by omega)]
    congr 1
    subst h3
    simp
  refine ⟨?_, by simp [Builtin.zeroCells, hzs], ?_, ?_⟩
  · intro c hc
    simp only [List.mem_map] at hc
    obtain ⟨x, _, rfl⟩ := hc
    rw [← Col.list_len, zeros_list, List.length_replicate]
  · intro u hu
    obtain ⟨j, hj⟩ := List.getElem?_of_mem hu
    have hlt : j < n * z.length := by
      have := (List.getElem?_eq_some_iff.1 hj).1
      simpa [Builtin.zeroCells, hzs] using this
    obtain ⟨u', h1, h2⟩ := hget j hlt
    rw [hj] at h2
    cases h2
    exact h5 _ (List.mem_of_getElem? h1)
  · intro row fld col v hc hv
    simp only [List.getElem?_map, Option.map_eq_some_iff] at hc
    obtain ⟨u, hu1, rfl⟩ := hc
    rw [zeros_list, List.getElem?_replicate] at hv
    split at hv
    · rename_i hrow
      cases hv
      have hfld : fld < z.length := (List.getElem?_eq_some_iff.1 hu1).1
      have hlt : row * z.length + fld < n * z.length := by
        have : (row + 1) * z.length ≤ n * z.length := Nat.mul_le_mul_right _ (by omega)
        rw [Nat.succ_mul] at this
        omega
      obtain ⟨u', g1, g2⟩ := hget _ hlt
      rw [Nat.mul_comm, Nat.mul_add_mod, Nat.mod_eq_of_lt hfld, hu1] at g1
      cases g1
      refine ⟨u, ?_, zeroOk_rel (List.all_eq_true.1 hok u (List.mem_of_getElem? hu1))⟩
      rw [← g2]
      simp [Nat.mul_comm]
    · cases hv
theorem wrap_same [Pins] {n : Int} (h0 : 0 ≤ n) (h1 : n ≤ 9223372036854775807) : IntKind.wrap .i64 n = n := by
  simp [IntKind.wrap, IntKind.bits, IntKind.signed]; omega
theorem src_zeros [Pins] {st xt e : TypeId} {kk : IntKind} (hu : P.underlying st = some (.slice e)) (hxt : P.underlying xt = some (.int kk)) {i : TypeInfo} {zv : Value} (hi : P.info? e = some i) (hzz : i.zero = some zv) (ty : TypeId) {n : Int} (h0 : 0 ≤ n) (h1 : n ≤ 9223372036854775807)
    (hsz : zv.cells.size = i.size) (hpos : 0 < i.size) (hby : n * (i.bytes : Int) ≤ 140737488355328) (hone : ∀ u ∈ (Builtin.zeroCells zv.cells n.toNat).toList, u.oneCell' = true) : Src P w st xt ty e i zv (.int .i64 n) n.toNat (Builtin.zeroCells zv.cells n.toNat).toList := by
  have hw := wrap_same h0 h1
  have hlt : ¬ n < 0 := by omega
  refine ⟨fun hz ad m q hq => ?_, fun hz ad m q l hl hq hnone hrd hg hb hlim => ?_, fun hz g m q cur hg hroom hfit => ?_⟩
  · obtain rfl : n = 0 := by omega
    cases ad <;> simp [Builtin.append_, run_underlying hu, run_underlying hxt, sizeOf, typeInfo, hi, asInt, asIntOf, hw, hq, storeCells]
  · have hn : ¬ (m + n.toNat ≤ q) := by omega
    simp only [limit] at hb hlim
    have h63' : ¬ (9223372036854775807 < ((m : Int) + (n.toNat : Int))) := by omega
    have hfit := growslice_fits hg hb
    have h48' : ¬ (281474976710656 < Builtin.nextslicecap (m + n.toNat) q * i.bytes) := by omega
    have hnb' : ¬ (281474976710656 < n * (i.bytes : Int)) := by omega
    have hprod : ¬ n.toNat * i.size = 0 := Nat.mul_ne_zero hz (by omega)
    have hbig : ¬ (9223372036854775807 < n) := by omega
    have hmx : max n 0 = n := by omega
    have hn' : (n.toNat : Int) = n := Int.toNat_of_nonneg h0
    rw [hn'] at h63'
    have hz0 : n ≠ 0 := by omega
    have hnz : ¬ n ≤ 0 := by omega
    have hs0 : i.size ≠ 0 := by omega
    cases ad with
    | none =>
      obtain rfl := hnone rfl
      obtain rfl : m = 0 := by omega
      have hl0 : l = [] := List.eq_nil_of_length_eq_zero (by simpa using hl)
      subst hl0
      simp only [Nat.zero_add] at *
      simp [Builtin.append_, run_underlying hu, run_underlying hxt, sizeOf, typeInfo, zeroValue, hi, hzz, asInt, asIntOf, hw, hlt, hnb', hn, h63', h48', hmx, hz0, hnz, hs0, hprod, hbig, Question.forced, run_firstCells_none, newRow, grownCap]
    | some b =>
      have hfo := run_firstCells_some (P := P) w.drew i.size m b m q l hl (by simpa using hrd b rfl)
      simp [Builtin.append_, run_underlying hu, run_underlying hxt, sizeOf, typeInfo, zeroValue, hi, hzz, asInt, asIntOf, hw, hlt, hnb', hn, h63', h48', hmx, hz0, hnz, hs0, hprod, hbig, Question.forced, hfo, newRow, grownCap]
      congr 2
      apply Array.ext'
      simp [List.append_assoc]
  · have hnz : ¬ n ≤ 0 := by omega
    have hs0 : i.size ≠ 0 := by omega
    have hprod : ¬ n.toNat * i.size = 0 := Nat.mul_ne_zero hz (by omega)
    have hst := run_storeCells_at P g (m * i.size) e (Builtin.zeroCells zv.cells n.toNat).toList 0 cur w hg (by simpa using hfit) hone
    simp only [Nat.add_zero] at hst
    have hnb' : ¬ (281474976710656 < n * (i.bytes : Int)) := by omega
    simp [Builtin.append_, run_underlying hu, run_underlying hxt, sizeOf, typeInfo, zeroValue, hi, hzz, asInt, asIntOf, hw, hlt, hnb', hroom, hnz, hs0, hprod, Addr.add_lit, hst]
theorem bytes_mat [Pins] (t : ByteArray) : Mat E [.ints .u8 (bytesI t)] t.size (t.data.toList.map fun b => Value.int .u8 b.toNat) := by
  have hl : t.data.toList.length = t.size := by rw [Array.length_toList]; rfl
  refine ⟨?_, by simp [hl], ?_, ?_⟩
  · intro c hc
    simp only [List.mem_singleton] at hc
    subst hc
    simp [Col.len, bytesI, hl]
  · intro u hu
    simp only [List.mem_map] at hu
    obtain ⟨b, _, rfl⟩ := hu
    rfl
  · intro row fld col v hc hv
    cases fld with
    | succ n => simp at hc
    | zero =>
      simp at hc
      subst hc
      simp only [Col.list, bytesI, List.getElem?_map, Option.map_map, Option.map_eq_some_iff] at hv
      obtain ⟨b, hb, rfl⟩ := hv
      refine ⟨.int .u8 b.toNat, by simp [hb], ?_⟩
      have := b.toNat_lt
      simp [VRel, inR, IntKind.min, IntKind.max, IntKind.signed, IntKind.bits]
      omega
theorem src_text [Pins] {st xt e : TypeId} (hu : P.underlying st = some (.slice e)) (hxt : P.underlying xt = some .string) {i : TypeInfo} {zv : Value} (hi : P.info? e = some i) (hzz : i.zero = some zv) (ty : TypeId) (t : ByteArray) (hsz : i.size = 1) :
    Src P w st xt ty e i zv (.string t) t.size (t.data.toList.map fun b => Value.int .u8 b.toNat) := by
  have hx : (Array.map (fun b : UInt8 => Value.int IntKind.u8 (b.toNat : Int)) t.data).extract 0 t.size = Array.map (fun b : UInt8 => Value.int IntKind.u8 (b.toNat : Int)) t.data := by
    have hs : t.size = (Array.map (fun b : UInt8 => Value.int IntKind.u8 (b.toNat : Int)) t.data).size := by rw [Array.size_map]; rfl
    rw [hs, Array.extract_size]
  have hl : t.data.toList.length = t.size := by rw [Array.length_toList]; rfl
  have hone : ∀ u ∈ t.data.toList.map (fun b => Value.int .u8 (b.toNat : Int)), u.oneCell' = true := by
    intro u hu
    simp only [List.mem_map] at hu
    obtain ⟨b, _, rfl⟩ := hu
    rfl
  refine ⟨fun hz ad m q hq => ?_, fun hz ad m q l hl0 hq hnone hrd hg hb hlim => ?_, fun hz g m q cur hg hroom hfit => ?_⟩
  · have hd : t.data.toList = [] := List.eq_nil_of_length_eq_zero (by omega)
    have hd2 : t.data = #[] := by apply Array.ext'; simpa using hd
    cases ad <;> simp [Builtin.append_, run_underlying hu, run_underlying hxt, sizeOf, typeInfo, hi, Builtin.lenOf, hz, hq, storeCells, Builtin.firstCells, hd2]
  · have hn : ¬ (m + t.size ≤ q) := by omega
    simp only [limit] at hb hlim
    have h63' : ¬ (9223372036854775807 < ((m : Int) + (t.size : Int))) := by omega
    have hfit := growslice_fits hg hb
    have h48' : ¬ (281474976710656 < Builtin.nextslicecap (m + t.size) q * i.bytes) := by omega
    have hbig : ¬ (9223372036854775807 < (t.size : Int)) := by omega
    cases ad with
    | none =>
      obtain rfl := hnone rfl
      obtain rfl : m = 0 := by omega
      have hl0 : l = [] := List.eq_nil_of_length_eq_zero (by simpa using hl0)
      subst hl0
      simp only [Nat.zero_add] at *
      simp [Builtin.append_, run_underlying hu, run_underlying hxt, sizeOf, typeInfo, zeroValue, hi, hzz, Builtin.lenOf, Builtin.firstCells, hn, hz, h63', h48', hbig, Question.forced, newRow, grownCap, hx]
      try (congr 2; apply Array.ext'; simp)
    | some b =>
      have hfo := run_firstCells_some (P := P) w.drew i.size m b m q l hl0 (by simpa using hrd b rfl)
      have hft : ∀ size, Builtin.firstCells size t.size (.string t) = pure (Array.map (fun b : UInt8 => Value.int IntKind.u8 (b.toNat : Int)) t.data) := fun size => by simp [Builtin.firstCells, hx]
      simp [Builtin.append_, run_underlying hu, run_underlying hxt, sizeOf, typeInfo, zeroValue, hi, hzz, Builtin.lenOf, hn, hz, h63', h48', hbig, Question.forced, hfo, newRow, grownCap, hft]
      try (congr 2; apply Array.ext'; simp [List.append_assoc])
  · have hst := run_storeCells_at P g (m * i.size) e (t.data.toList.map fun b => Value.int .u8 (b.toNat : Int)) 0 cur w hg (by simpa using hfit) hone
    simp only [Nat.add_zero] at hst
    simp [Builtin.append_, run_underlying hu, run_underlying hxt, sizeOf, typeInfo, zeroValue, hi, hzz, Builtin.lenOf, hroom, Builtin.firstCells, Addr.add_lit, hx, hst]
    try simp [hst]
theorem goes_appendN [Pins] (hS : Sim E m w) (hρ : ERel E ρ a.tmps.toList) {st xt : TypeId} {sx xx : Operand} (ho : o.op = .call ⟨.builtin .append, #[sx, xx], #[st, xt]⟩) {v : V} {ρ' : Env} {m' : Mem}
    (h : appendN P st xt ρ m (opd ρ sx) (opd ρ xx) = some (true, v, ρ', m')) : Goes P o a E m w v ρ' m' := by
  have hs := opd_rel (a := a) hρ sx
  have hx := opd_rel (a := a) hρ xx
  generalize opd ρ sx = S at h hs
  generalize opd ρ xx = X at h hx
  unfold appendN at h
  split at h
  · cases h
  rename_i e hel
  have hu : P.underlying st = some (.slice e) := by
    unfold elemT at hel
    split at hel
    · cases hel; assumption
    · cases hel
  split at h
  · rename_i kk n z hxt hz
    obtain ⟨i, zv, hi, hzz, h3, h4, h5⟩ := zeroCells_some hz
    split at h
    · rename_i hok
      split at h
      · rename_i c r hc
        simp only [Option.some.injEq, Prod.mk.injEq, Bool.and_eq_true, decide_eq_true_eq] at h
        obtain ⟨⟨h0, hby, rfl⟩, rfl⟩ := h
        simp only [VRel] at hx
        obtain ⟨hx, hr⟩ := hx
        have hr : -9223372036854775808 ≤ n ∧ n ≤ 9223372036854775807 := by simpa [inR, IntKind.max, IntKind.min, IntKind.signed, IntKind.bits] using hr
        have hc' := hc
        unfold appendC at hc'
        split at hc'
        · rename_i hlen
          simp only [Bool.and_eq_true, decide_eq_true_eq, List.length_map] at hlen
          have hz0 : z ≠ [] := by intro h0; rw [h0] at hlen; simp at hlen
          have hm2 := zeros_mat (E := E) h3 h5 hok hz0 n.toNat
          have hsz : zv.cells.size = i.size := by rw [← h4, ← h3]; simp
          rw [bytesT_of hi] at hby
          have hby' : n * (i.bytes : Int) ≤ 140737488355328 := by
            simp only [limit] at hby
            have h2 : ((n.toNat * i.bytes : Nat) : Int) ≤ 140737488355328 := by omega
            rw [Int.natCast_mul, Int.toNat_of_nonneg h0] at h2
            exact h2
          exact goes_appendC hS hρ ho hu rfl hs hx hi hzz h3 h4 (src_zeros hu hxt hi hzz o.type h0 (by omega) hsz (by omega) hby' hm2.one) hm2 hc
        · cases hc'
      · cases h
    · cases h
  · rename_i bs z hxt hz
    obtain ⟨i, zv, hi, hzz, h3, h4, h5⟩ := zeroCells_some hz
    simp only [VRel] at hx
    obtain ⟨t, hx, rfl, _⟩ := hx
    have hl : (bytesI t).length = t.size := bytesI_len t
    rw [hl] at h
    exact goes_appendC hS hρ ho hu rfl hs hx hi hzz h3 h4 (src_text hu hxt hi hzz o.type t (by rw [← h4]; rfl)) (bytes_mat t) h
  · cases h
/-! ### copy -/
theorem copyCols_one [Pins] {row n row2 : Nat} {cs ds : List Col} {c : Col} (h : copyCols row n row2 cs ds = some [c]) : ∃ c0 d0, cs = [c0] ∧ ds = [d0] ∧ (c.plain = true ∧ c0.plain = true) ∧ c.list = c0.list.take row ++ (d0.list.drop row2).take n ++ c0.list.drop (row + n) := by
  match cs, ds with
  | [], [] => simp [copyCols] at h
  | [], _ :: _ => simp [copyCols] at h
  | _ :: _, [] => simp [copyCols] at h
  | [c0], [d0] =>
    simp only [copyCols] at h
    split at h
    · rename_i y ys hy hys
      split at h
      · rename_i z hz
        cases hys
        simp only [Option.some.injEq, List.cons.injEq, and_true] at h
        subst h
        exact ⟨c0, d0, rfl, rfl, ⟨(Col.app_plain hz).1, (Col.over_plain hy).2⟩, by rw [Col.list_app hz, Col.list_over hy, to_list, Col.list_win, Col.list_from]⟩
      · cases h
    · cases h
  | [_], _ :: _ :: _ => simp [copyCols] at h
  | _ :: _ :: _, [_] => simp [copyCols] at h
  | _ :: _ :: _, _ :: _ :: _ =>
    simp only [copyCols] at h
    split at h
    · rename_i y ys hy hys
      split at hys
      · split at hys
        · split at h
          · cases hys; simp at h
          · cases h
        · cases hys
      · cases hys
    · cases h
theorem goes_copy [Pins] (hS : Sim E m w) (hρ : ERel E ρ a.tmps.toList) {t u e : TypeId} {ox oy : Operand} (ho : o.op = .call ⟨.builtin .copy, #[ox, oy], #[t, u]⟩) (he : elemT P t = some e) (hsz : sizeT P e = some 1) {v : V} {ρ' : Env} {m' : Mem}
    (h : copyV ρ m (opd ρ ox) (opd ρ oy) = some (true, v, ρ', m')) : Goes P o a E m w v ρ' m' := by
  have hx := opd_rel (a := a) hρ ox
  have hy := opd_rel (a := a) hρ oy
  generalize opd ρ ox = X at h hx
  generalize opd ρ oy = Y at h hy
  generalize hcx : a.eval ox = cx at hx
  generalize hcy : a.eval oy = cy at hy
  have hu : P.underlying t = some (.slice e) := by
    unfold elemT at he
    split at he
    · cases he; assumption
    · cases he
  unfold copyV at h
  split at h
  · rename_i k row len cap k2 row2 len2 cap2
    split at h
    · rename_i c hro hcs
      simp only [Option.some.injEq, Prod.mk.injEq, true_and] at h
      obtain ⟨rfl, rfl, rfl⟩ := h
      obtain ⟨c0, d0, hc0, hd0, ⟨hcp, hc0p⟩, hlist⟩ := copyCols_one hcs
      have hm0 : (m.getD k default).sp = none := plain_sp (by rw [hc0]; simp [hc0p])
      have hm1 : (⟨[c], (m.getD k default).et, false, (m.getD k default).mv⟩ : Blk).sp = none := plain_sp (by simp [hcp])
      have hx' := hx
      simp only [VRel] at hx'
      obtain ⟨be, ad, q, hk, rfl, hfit, hnq, hcap, had⟩ := hx'
      obtain ⟨hmk, hb⟩ := getD_blk hS hk
      have hn := slen_eq hS (row := row) (len := len) hk
      have hy' := hy
      simp only [VRel] at hy'
      obtain ⟨be2, ad2, q2, hk2, rfl, hfit2, hnq2, hcap2, had2⟩ := hy'
      obtain ⟨hmk2, hb2⟩ := getD_blk hS hk2
      have hn2 := slen_eq hS (row := row2) (len := len2) hk2
      rw [hn, hn2] at hlist ⊢
      generalize hN : min (slN be2 row2 len2) (slN be row len) = N at hlist ⊢
      have hnc : be.nc = 1 := by rw [hb.nc, hc0]; rfl
      have hnc2 : be2.nc = 1 := by rw [hb2.nc, hd0]; rfl
      have hlenc : c0.list.length = be.rows := by rw [Col.list_len]; exact hb.len c0 (by rw [hc0]; simp)
      have hlend : d0.list.length = be2.rows := by rw [Col.list_len]; exact hb2.len d0 (by rw [hd0]; simp)
      have hmin : Nat.min (slN be2 row2 len2) (slN be row len) = N := hN
      have hsize : ((P.info? e).map (·.size)) = some 1 := by
        obtain ⟨i, hi, h1⟩ := sizeT_some hsz
        simp [hi, h1]
      by_cases hN0 : N = 0
      · -- nothing is copied
        rw [hN0] at hlist hmin ⊢
        have hceq : c.list = c0.list := by rw [hlist]; simp
        have hrun : (Builtin.copy_ #[t, u] o.type #[.slice ad (slN be row len) q, .slice ad2 (slN be2 row2 len2) q2]).run P w = .ok (goInt 0) w := by
          cases ad <;> cases ad2 <;> simp [Builtin.copy_, run_underlying hu, Builtin.lenOf, hmin, Builtin.firstCells, run_sizeOf' hsz, loadCells, loadCellsFrom, storeCells]
        have hb' : BlkRel E w ⟨[c], (m.getD k default).et, false, (m.getD k default).mv⟩ be := by
          refine ⟨by rw [hnc]; rfl, ?_, ?_, ?_, ?_, hb.lt, hb.room, hb.max, fun es hes => by rw [hm1] at hes; cases hes⟩
          · simp only [Blk.rows]; rw [← Col.list_len, hceq, hlenc]
          · intro x hx; simp at hx; subst hx; rw [← Col.list_len, hceq, hlenc]
          · intro r f col v hcol hv
            cases f with
            | zero =>
              simp at hcol; subst hcol
              rw [hceq] at hv
              exact hb.cells r 0 c0 v (by rw [hc0]; rfl) hv
            | succ f => simp at hcol
          · intro _ hcr _
            exact hb.own hro hcr hm0
        have hst := Step.same hS hk hmk hb' hro.symm rfl
        exact ⟨E, .int .i64 0, w, .inl (biRun (c := #[]) ho (by simp [builtin, hcx, hcy, hrun, goInt])), hst, by simp [VRel, inR, IntKind.min, IntKind.max, IntKind.signed, IntKind.bits], hρ⟩
      · have hq0 : q ≠ 0 := by omega
        have hq20 : q2 ≠ 0 := by omega
        have hadv := had hq0
        have hadv2 := had2 hq20
        subst hadv; subst hadv2
        have hroom := hb.room
        have hcr : be.cr ≠ 0 := by omega
        obtain ⟨hoff, cur, hheap, hcur⟩ := hb.own hro hcr hm0
        rw [hnc, Nat.mul_one] at hcur
        -- the cells that are copied
        obtain ⟨cs, hcl, hcat⟩ := list_of (fun j => w.cell? ⟨be2.blk, be2.off + row2 * be2.nc + j, none⟩) N (by
          intro j hj
          obtain ⟨x, hx1, _⟩ := hb2.cellAt (row2 + j) (by rw [hnc2]; omega)
          exact ⟨x, by rw [← hx1, hnc2]; congr 2; omega⟩)
        have hone : ∀ x ∈ cs, x.oneCell' = true := by
          intro x hx
          obtain ⟨j, hj, rfl⟩ := List.getElem_of_mem hx
          obtain ⟨y, hy1, hy2⟩ := hb2.cellAt (row2 + j) (by rw [hnc2]; omega)
          have := hcat j (by omega)
          rw [List.getElem?_eq_getElem hj, hnc2, show be2.off + row2 * 1 + j = be2.off + (row2 + j) by omega, hy1] at this
          rw [Option.some.inj this]; exact hy2
        have hrel : ∀ (j : Nat) (v : V), j < N → d0.list[row2 + j]? = some v → ∃ x, cs[j]? = some x ∧ VRel E v x := by
          intro j v hj hv
          obtain ⟨x, g1, _, g3⟩ := hb2.cells (row2 + j) 0 d0 v (by rw [hd0]; rfl) hv
          refine ⟨x, ?_, g3⟩
          rw [hcat j hj, ← g1, hnc2]
          congr 2
          omega
        have hrowfit : row + N ≤ be.rows := by omega
        have hrun := run_copy_row (P := P) w t u o.type e be.blk (be.off + row * be.nc) (slN be row len) q ⟨be2.blk, be2.off + row2 * be2.nc, none⟩ (slN be2 row2 len2) q2 cur _ cs hu hsize hheap (by rw [hcl]; exact hmin.symm)
          (fun j v hv => by
            have hj := (List.getElem?_eq_some_iff.1 hv).1
            rw [Addr.add_none, ← hv]; exact (hcat j (by omega)).symm) (by rw [hoff, hnc, hcl]; omega) hone
        have hst := Step.set hS hk hmk hro hcr (b' := ⟨[c], (m.getD k default).et, false, (m.getD k default).mv⟩) (w' := w.setRow be.blk (cur.toList.take (be.off + row * be.nc) ++ cs ++ cur.toList.drop (be.off + row * be.nc + cs.length)).toArray) rfl rfl rfl (by simp) (fun j hj => setRow_other w be.blk j _ hj) (by
          have hlc : c.list.length = be.rows := by
            have hdl : (d0.list.drop row2).length = be2.rows - row2 := by simp [hlend]
            rw [hlist]; simp only [List.length_append, List.length_take, List.length_drop, hlenc, hdl]
            omega
          refine ⟨by rw [hnc]; rfl, ?_, ?_, ?_, ?_, ?_, hb.room, hb.max, fun es hes => by rw [hm1] at hes; cases hes⟩
          · simp only [Blk.rows]; rw [← Col.list_len, hlc]
          · intro x hx; simp at hx; subst hx; rw [← Col.list_len, hlc]
          · intro r f col v hcol hv
            cases f with
            | succ f => simp at hcol
            | zero =>
              simp at hcol; subst hcol
              rw [hoff, hnc, Nat.zero_add, Nat.mul_one, Nat.add_zero]
              have hr : r < be.rows := by rw [← hlc]; exact (List.getElem?_eq_some_iff.1 hv).1
              rw [Nat.mul_one, Nat.zero_add, cell_setRow_same w be.blk r cur _ _ (0, 0) hheap]
              have hat := laid_at (l := cur.toList) (vs := cs) (o := row) (by rw [hcl]; simp; omega) r
              have hat' : (cur.toList.take row ++ cs ++ cur.toList.drop (row + cs.length)).toArray[r]? = if row ≤ r ∧ r < row + cs.length then cs[r - row]? else cur.toList[r]? := by
                rw [← hat]; simp
              rw [hat', hcl]
              have hlr : c.list[r]? = if row ≤ r ∧ r < row + N then d0.list[row2 + (r - row)]? else c0.list[r]? := by
                rw [hlist]
                have htk : (c0.list.take row).length = row := by rw [List.length_take, hlenc]; omega
                have hmid : ((d0.list.drop row2).take N).length = N := by rw [List.length_take, List.length_drop, hlend]; omega
                by_cases h1 : r < row
                · rw [if_neg (by omega), List.append_assoc, List.getElem?_append_left (by omega), List.getElem?_take_of_lt h1]
                · by_cases h2 : r < row + N
                  · rw [if_pos (by omega), List.append_assoc, List.getElem?_append_right (by omega), List.getElem?_append_left (by omega), htk, List.getElem?_take_of_lt (by omega), List.getElem?_drop]
                  · rw [if_neg (by omega), List.getElem?_append_right (by simp only [List.length_append]; omega), List.getElem?_drop]
                    congr 1
                    simp only [List.length_append]; omega
              rw [hlr] at hv
              split
              · rename_i hin
                rw [if_pos hin] at hv
                obtain ⟨x, g1, g2⟩ := hrel (r - row) v (by omega) hv
                exact ⟨x, g1, hone x (List.mem_of_getElem? g1), g2⟩
              · rename_i hin
                rw [if_neg hin] at hv
                obtain ⟨x, g1, g2, g3⟩ := hb.cells r 0 c0 v (by rw [hc0]; rfl) hv
                rw [hoff, hnc, cell_of_row w be.blk _ cur _ (0, 0) hheap] at g1
                refine ⟨x, ?_, g2, g3⟩
                simpa using g1
          · intro _ _ _
            refine ⟨hoff, _, setRow_heap w be.blk cur _ _ (0, 0) hheap, ?_⟩
            rw [hoff, hnc]
            simp only [List.size_toArray, List.length_append, List.length_take, List.length_drop, Array.length_toList, hcl]
            omega
          · intro _; simpa using hb.lt hcr) rfl rfl
        refine ⟨E, .int .i64 N, _, .inl (biRun (c := #[]) ho (by simp [builtin, hcx, hcy, hrun, goInt, hcl])), hst, ?_, hρ⟩
        simp only [VRel]
        refine ⟨trivial, ?_⟩
        have := hb.max
        simp only [maxLen] at this
        simp [inR, IntKind.min, IntKind.max, IntKind.signed, IntKind.bits]
        omega
    · cases h
  · cases h

/-! ### All together -/
theorem goes_len [Pins] (hS : Sim E m w) (hρ : ERel E ρ a.tmps.toList) {t : TypeId} {ox : Operand} (ho : o.op = .call ⟨.builtin .len, #[ox], #[t]⟩) {v : V} {ρ' : Env} {m' : Mem}
    (h : biop P .len [t] ρ m [opd ρ ox] = some (true, v, ρ', m')) : Goes P o a E m w v ρ' m' := by
  have hx := opd_rel (a := a) hρ ox
  generalize opd ρ ox = X at h hx
  generalize hcx : a.eval ox = cx at hx
  simp only [biop] at h
  have hinr : ∀ n : Nat, n ≤ maxLen → inR .i64 (n : Int) = true := by
    intro n hn
    simp only [maxLen] at hn
    simp [inR, IntKind.min, IntKind.max, IntKind.signed, IntKind.bits]
    omega
  split at h
  · rename_i xs hu
    simp only [VRel] at hx
    obtain ⟨s, rfl, rfl, hsz⟩ := hx
    simp only [okV, Option.some.injEq, Prod.mk.injEq, true_and] at h
    obtain ⟨rfl, rfl, rfl⟩ := h
    refine goes_pure hS hρ (cv := .int .i64 s.size) (biRun (c := #[]) ho (by simp [builtin, hcx, Builtin.len_, run_underlying hu, goInt])) ?_
    simp only [VRel, bytesI_len]
    exact ⟨trivial, hinr _ hsz⟩
  · rename_i n e hu
    split at h
    · rename_i hle
      simp only [okV, Option.some.injEq, Prod.mk.injEq, true_and] at h
      obtain ⟨rfl, rfl, rfl⟩ := h
      refine goes_pure hS hρ (cv := .int .i64 n) (biRun (c := #[]) ho (by simp [builtin, hcx, Builtin.len_, run_underlying hu, goInt])) ?_
      simp only [VRel]
      exact ⟨trivial, hinr _ hle⟩
    · cases h
  · rename_i e k row len cap hu
    simp only [okV, Option.some.injEq, Prod.mk.injEq, true_and] at h
    obtain ⟨rfl, rfl, rfl⟩ := h
    simp only [VRel] at hx
    obtain ⟨be, ad, q, hk, rfl, hfit, hnq, hcap, had⟩ := hx
    obtain ⟨_, hb⟩ := getD_blk hS hk
    refine goes_pure hS hρ (cv := .int .i64 (slN be row len)) (biRun (c := #[]) ho (by simp [builtin, hcx, Builtin.len_, run_underlying hu, goInt])) ?_
    simp only [VRel, slen_eq hS hk]
    refine ⟨trivial, hinr _ ?_⟩
    have := hb.room
    have := hb.max
    omega
  · rename_i e hu
    simp only [okV, Option.some.injEq, Prod.mk.injEq, true_and] at h
    obtain ⟨rfl, rfl, rfl⟩ := h
    simp only [VRel] at hx
    subst hx
    refine goes_pure hS hρ (cv := .int .i64 0) (biRun (c := #[]) ho (by simp [builtin, hcx, Builtin.len_, run_underlying hu, goInt])) ?_
    simp only [VRel]
    exact ⟨trivial, by decide⟩
  · cases h
theorem sop0_sound [Pins] (hS : Sim E m w) (hρ : ERel E ρ a.tmps.toList) {v : V} {ρ' : Env} {m' : Mem} (h : sop0 P o ρ m = some (true, v, ρ', m')) : Goes P o a E m w v ρ' m' := by
  unfold sop0 at h
  split at h
  case h_1 x ho =>
    simp only [okV, Option.some.injEq, Prod.mk.injEq, true_and] at h
    obtain ⟨rfl, rfl, rfl⟩ := h
    exact goes_move hS hρ (.inl ho)
  case h_2 x ho =>
    simp only [okV, Option.some.injEq, Prod.mk.injEq, true_and] at h
    obtain ⟨rfl, rfl, rfl⟩ := h
    exact goes_move hS hρ (.inr ho)
  case h_3 t ho =>
    split at h
    · rename_i z hz
      unfold newB at h
      split at h
      · rename_i b hb
        simp only [Option.some.injEq, Prod.mk.injEq, true_and] at h
        obtain ⟨rfl, rfl, rfl⟩ := h
        exact (goes_alloc hS hρ ho hz hb).goes hS hρ
      · cases h
    · cases h
  case h_4 t x ho =>
    split at h
    · rename_i z hz
      split at h
      · rename_i hc
        simp only [Bool.and_eq_true, beq_iff_eq] at hc
        unfold newB at h
        split at h
        · rename_i b hb
          simp only [Option.some.injEq, Prod.mk.injEq, true_and] at h
          obtain ⟨rfl, rfl, rfl⟩ := h
          exact (goes_box hS hρ ho hc.1 hc.2 hb).goes hS hρ
        · cases h
      · cases h
    · cases h
  case h_5 t parts ho =>
    unfold okO at h
    split at h
    · rename_i v' hv
      simp only [Option.some.injEq, Prod.mk.injEq, true_and] at h
      obtain ⟨rfl, rfl, rfl⟩ := h
      exact goes_build hS hρ ho hv
    · cases h
  case h_6 t n parts ho =>
    split at h
    · rename_i e he
      split at h
      · rename_i z hz
        simp only at h
        split at h
        · rename_i hc
          simp only [Bool.and_eq_true, decide_eq_true_eq, List.all_eq_true, beq_iff_eq] at hc
          split at h
          · rename_i b hb
            simp only [Option.some.injEq, Prod.mk.injEq, true_and] at h
            obtain ⟨rfl, rfl, rfl⟩ := h
            exact (goes_buildSlice hS hρ ho he hz hc.1 hc.2 hb).goes hS hρ
          · cases h
        · cases h
      · cases h
    · cases h
  case h_7 t x ho =>
    unfold okO at h
    split at h
    · rename_i v' hv
      simp only [Option.some.injEq, Prod.mk.injEq, true_and] at h
      obtain ⟨rfl, rfl, rfl⟩ := h
      exact goes_load hS hρ ho hv
    · cases h
  case h_8 t x y ho =>
    split at h
    · rename_i m1 hm
      simp only [Option.some.injEq, Prod.mk.injEq, true_and] at h
      obtain ⟨rfl, rfl, rfl⟩ := h
      exact goes_store hS hρ ho hm
    · cases h
  case h_9 x ho =>
    have hx := opd_rel (a := a) hρ x
    split at h
    · rename_i k r f hq
      simp only [okV, Option.some.injEq, Prod.mk.injEq, true_and] at h
      obtain ⟨rfl, rfl, rfl⟩ := h
      rw [hq] at hx
      have hx' := hx
      simp only [VRel] at hx'
      obtain ⟨e, _, _, hc⟩ := hx'
      exact goes_pure hS hρ (cv := a.eval x) (by simp [execOp, ho, hc]) hx
    · rename_i f c d hq
      simp only [okV, Option.some.injEq, Prod.mk.injEq, true_and] at h
      obtain ⟨rfl, rfl, rfl⟩ := h
      rw [hq] at hx
      have hx' := hx
      simp only [VRel] at hx'
      obtain ⟨a', d', hc, _⟩ := hx'
      exact goes_pure hS hρ (cv := a.eval x) (by simp [execOp, ho, hc]) hx
    · cases h
  case h_10 op t x y u ho =>
    unfold okC at h
    split at h
    · rename_i c v' hv
      simp only [Option.some.injEq, Prod.mk.injEq] at h
      obtain ⟨rfl, rfl, rfl, rfl⟩ := h
      exact goes_binOp hS hρ ho hv
    · cases h
  case h_11 op t x ho =>
    unfold okO at h
    split at h
    · rename_i v' hv
      simp only [Option.some.injEq, Prod.mk.injEq, true_and] at h
      obtain ⟨rfl, rfl, rfl⟩ := h
      exact goes_unOp hS hρ ho hv
    · cases h
  case h_12 s d x ho =>
    unfold okO at h
    split at h
    · rename_i v' hv
      simp only [Option.some.injEq, Prod.mk.injEq, true_and] at h
      obtain ⟨rfl, rfl, rfl⟩ := h
      exact goes_convert hS hρ ho hv
    · cases h
  case h_13 t x ho =>
    split at h
    · cases h
    · rename_i d hn hd
      simp only [okV, Option.some.injEq, Prod.mk.injEq, true_and] at h
      obtain ⟨rfl, rfl, rfl⟩ := h
      exact goes_makeInterface hS hρ ho hd (fun ms hms => hn ms hms)
    · cases h
  case h_14 f x y ho =>
    simp only [okV, Option.some.injEq, Prod.mk.injEq, true_and] at h
    obtain ⟨rfl, rfl, rfl⟩ := h
    exact goes_makeFunc hS hρ ho
  case h_15 t x y ho =>
    obtain ⟨rfl, b, rfl, hg⟩ := goes_makeSlice hS hρ ho h
    exact hg.goes hS hρ
  case h_16 t x lo hi mx ho =>
    have hx := opd_rel (a := a) hρ x
    split at h
    · rename_i l hh x' hl hhh hxx
      have rl := optI_rel' (a := a) hρ hl
      have rh := optI_rel' (a := a) hρ hhh
      have rx := optI_rel' (a := a) hρ hxx
      split at h
      · rename_i e k row len cap hu hq
        rw [hq] at hx
        split at h
        · rename_i sz hsz
          split at h
          · rename_i hc
            simp only [Option.some.injEq, Prod.mk.injEq] at h
            obtain ⟨h1, rfl, rfl, rfl⟩ := h
            obtain ⟨cv, g1, g2⟩ := slop_rel hS hu (by rw [hsz, hc]) hx rl rh rx (Prod.ext h1 rfl)
            exact goes_pure hS hρ (cv := cv) (by simp [execOp, ho, g1]) g2
          · cases h
        · cases h
      · rename_i xs hu hq
        rw [hq] at hx
        simp only [VRel] at hx
        obtain ⟨s, hc, rfl, hsz⟩ := hx
        split at h
        · simp only [Option.some.injEq, Prod.mk.injEq] at h
          obtain ⟨h1, rfl, rfl, rfl⟩ := h
          obtain ⟨cv, g1, g2⟩ := strsl_rel (w := w) hu hsz rl rh (Prod.ext h1 rfl)
          have rx' : mx.map a.eval = none := rx
          exact goes_pure hS hρ (cv := cv) (by simp [execOp, ho, hc, rx', g1]) g2
        · cases h
      · rename_i e hu hq
        rw [hq] at hx
        simp only [VRel] at hx
        split at h
        · rename_i sz hsz
          simp only [Option.some.injEq, Prod.mk.injEq] at h
          obtain ⟨h1, rfl, rfl, rfl⟩ := h
          have g1 := nilsl_rel (w := w) hu hsz rl rh rx h1
          exact goes_pure hS hρ (cv := .slice none 0 0) (by simp [execOp, ho, hx, g1]) (by simp [VRel])
        · cases h
      · rename_i n e k row fld hu hq
        rw [hq] at hx
        simp only [VRel] at hx
        obtain ⟨be, hk, hr, hc⟩ := hx
        split at h
        · rename_i c hsz hcols
          split at h
          · rename_i hfit
            simp only [Option.some.injEq, Prod.mk.injEq] at h
            obtain ⟨h1, rfl, rfl, rfl⟩ := h
            obtain ⟨cv, g1, g2⟩ := arrsl_rel (w := w) hS hu hsz hk hcols hfit rl rh (Prod.ext h1 rfl)
            have rx' : mx.map a.eval = none := rx
            exact goes_pure hS hρ (cv := cv) (by simp [execOp, ho, hc, rx', g1]) g2
          · cases h
        · cases h
      · cases h
    · cases h
  case h_17 s x f ho =>
    split at h
    · rename_i n ft k row fld hf hq
      split at h
      · rename_i sz hsz
        simp only [okV, Option.some.injEq, Prod.mk.injEq, true_and] at h
        obtain ⟨rfl, rfl, rfl⟩ := h
        exact goes_fieldAddr hS hρ ho hf hsz (by omega) hq
      · cases h
    · cases h
  case h_18 t x f ho =>
    split at h
    · rename_i n ft vs hf hq
      unfold okO at h
      split at h
      · rename_i v' hv
        simp only [Option.some.injEq, Prod.mk.injEq, true_and] at h
        obtain ⟨rfl, rfl, rfl⟩ := h
        exact goes_field hS hρ ho hf hq hv
      · cases h
    · cases h
  case h_19 t x y ho =>
    split at h
    · rename_i k i hq
      unfold okC at h
      split at h
      · rename_i c v' hv
        simp only [Option.some.injEq, Prod.mk.injEq] at h
        obtain ⟨rfl, rfl, rfl, rfl⟩ := h
        exact goes_indexAddr hS hρ ho hq hv
      · cases h
    · cases h
  case h_20 t x y ho =>
    split at h
    · rename_i k i hq
      unfold okC at h
      split at h
      · rename_i c v' hv
        simp only [Option.some.injEq, Prod.mk.injEq] at h
        obtain ⟨rfl, rfl, rfl, rfl⟩ := h
        exact goes_index hS hρ ho hq hv
      · cases h
    · cases h
  case h_21 x ix ho =>
    split at h
    · rename_i vs hq
      unfold okO at h
      split at h
      · rename_i v' hv
        simp only [Option.some.injEq, Prod.mk.injEq, true_and] at h
        obtain ⟨rfl, rfl, rfl⟩ := h
        exact goes_extract hS hρ ho hq hv
      · cases h
    · cases h
  case h_22 c ho =>
    obtain ⟨cl, args, ats⟩ := c
    simp only at h
    split at h
    · rename_i b
      have h0 := h
      unfold biop at h
      split at h
      · rename_i x t hargs hats
        obtain ⟨ox, rfl, rfl⟩ := args_one hargs
        obtain rfl : ats = #[t] := by
          obtain ⟨l⟩ := ats; simpa using hats
        exact goes_len hS hρ ho (by simpa using h0)
      · rename_i s x t u hargs hats
        obtain ⟨os, ox, rfl, rfl, rfl⟩ := args_two hargs
        obtain rfl : ats = #[t, u] := by
          obtain ⟨l⟩ := ats; simpa using hats
        split at h
        · rename_i htu
          subst htu
          exact goes_append hS hρ ho h
        · exact goes_appendN hS hρ ho h
      · rename_i d x t u hargs hats
        obtain ⟨od, ox, rfl, rfl, rfl⟩ := args_two hargs
        obtain rfl : ats = #[t, u] := by
          obtain ⟨l⟩ := ats; simpa using hats
        split at h
        · rename_i e he
          split at h
          · rename_i hsz
            exact goes_copy hS hρ ho he hsz h
          · cases h
        · cases h
      · rename_i ts k x k' y hargs
        obtain ⟨ox, oy, rfl, hq1, hq2⟩ := args_two hargs
        split at h
        · rename_i hk
          subst hk
          simp only [okV, Option.some.injEq, Prod.mk.injEq, true_and] at h
          obtain ⟨rfl, rfl, rfl⟩ := h
          have h1 := opd_rel (a := a) hρ ox
          have h2 := opd_rel (a := a) hρ oy
          rw [hq1] at h1
          rw [hq2] at h2
          simp only [VRel] at h1 h2
          refine goes_pure hS hρ (cv := .int k (if y < x then y else x)) (biRun (c := #[]) ho (by simp [builtin, h1.1, h2.1, run_min_int2])) ?_
          simp only [VRel]
          exact ⟨trivial, by split <;> simp [h1.2, h2.2]⟩
        · cases h
      · rename_i ts k x k' y hargs
        obtain ⟨ox, oy, rfl, hq1, hq2⟩ := args_two hargs
        split at h
        · rename_i hk
          subst hk
          simp only [okV, Option.some.injEq, Prod.mk.injEq, true_and] at h
          obtain ⟨rfl, rfl, rfl⟩ := h
          have h1 := opd_rel (a := a) hρ ox
          have h2 := opd_rel (a := a) hρ oy
          rw [hq1] at h1
          rw [hq2] at h2
          simp only [VRel] at h1 h2
          refine goes_pure hS hρ (cv := .int k (if y > x then y else x)) (biRun (c := #[]) ho (by simp [builtin, h1.1, h2.1, run_max_int2])) ?_
          simp only [VRel]
          exact ⟨trivial, by split <;> simp [h1.2, h2.2]⟩
        · cases h
      · cases h
    · cases h
  case h_23 => cases h
end
end Go.Ab
