/- Functions without a body, as the model stands in for them: internal/bytealg's IndexByteString and MakeNoZero, internal/abi's NoEscape. -/
import Derived.Test.YtjciabbnncidjaaGreatAbBody
import Derived.Lib.Bytealg
import Derived.Lib.MakeNoZero
import Derived.Laws.Externs
set_option linter.unusedSimpArgs false
set_option linter.unusedVariables false
namespace Go.Ab
open Go
/-- Where a byte first stands, counted from 'n' on; -1: nowhere. -/
def idxF : List Int → Int → Int → Int
  | [], _, _ => -1
  | x :: xs, c, n => match x == c with | true => n | false => idxF xs c (n + 1)
def idxB (s : List Int) (c : Int) : Int := idxF s c 0
theorem indexByte_none_or [Pins] (l : List UInt8) (c : UInt8) : Lib.indexByte l c = -1 ∨ 0 ≤ Lib.indexByte l c := by
  have := Lib.indexByte_ge l c; omega
theorem idxF_eq [Pins] (c : UInt8) : ∀ (l : List UInt8) (n : Int), idxF (l.map fun x => (x.toNat : Int)) (c.toNat : Int) n = if Lib.indexByte l c = -1 then -1 else n + Lib.indexByte l c
  | [], n => by simp [idxF, Lib.indexByte]
  | x :: l, n => by
    have ih := idxF_eq c l (n + 1)
    simp only [List.map_cons, idxF]
    by_cases hx : x = c
    · subst hx
      simp [Lib.indexByte]
    · have h1 : ((x.toNat : Int) == (c.toNat : Int)) = false := by
        simp only [beq_eq_false_iff_ne, ne_eq]
        intro h
        exact hx (UInt8.toNat_inj.1 (by omega))
      rw [h1]
      simp only [ih]
      rcases indexByte_none_or l c with h | h
      · simp [Lib.indexByte, hx, h]
      · have h2 : ¬ Lib.indexByte l c = -1 := by omega
        have h3 : ¬ Lib.indexByte l c < 0 := by omega
        have h4 : ¬ Lib.indexByte l c + 1 = -1 := by omega
        simp [Lib.indexByte, hx, h2, h3, h4]
        omega
theorem indexByte_le [Pins] : ∀ (l : List UInt8) (c : UInt8), Lib.indexByte l c ≤ (l.length : Int)
  | [], c => by simp [Lib.indexByte]
  | x :: l, c => by
    have ih := indexByte_le l c
    have h0 := Lib.indexByte_ge l c
    unfold Lib.indexByte
    split
    · simp; omega
    · split <;> simp <;> omega
theorem digits_one [Pins] : ∀ (n t : Nat) (acc : Array Value), (∀ u ∈ acc.toList, u.oneCell' = true) → ∀ u ∈ (Extern.BytealgMakeNoZero.digits n t acc).toList, u.oneCell' = true
  | 0, t, acc, h => h
  | n + 1, t, acc, h => by
    rw [Extern.BytealgMakeNoZero.digits]
    refine digits_one n _ _ fun u hu => ?_
    simp only [Array.toList_push, List.mem_append, List.mem_singleton] at hu
    rcases hu with hu | rfl
    · exact h u hu
    · rfl
theorem run_makeNoZero1 [Pins] {P : Program} (w : World) (ps : Array TypeId) (t e : TypeId) (ht : P.underlying t = some (.slice e)) (n : Nat) (hn : n ≤ 281474976710656) :
    ∃ cs : Array Value, (Extern.BytealgMakeNoZero.makeNoZero ps #[t] #[.int .i64 n]).run P w = .ok (.slice (some ⟨w.heap.size, 0, none⟩) n cs.size) (w.drew.drew.alloc (.cells cs e)) ∧ n ≤ cs.size ∧ (n ≤ maxLen → cs.size ≤ maxLen) ∧ ∀ u ∈ cs.toList, u.oneCell' = true := by
  have hdef : Extern.BytealgMakeNoZero.makeNoZero ps #[t] #[.int .i64 n] =
      (do
        let .slice elem ← underlying t | stuck "bytealg.MakeNoZero: slice type expected"
        if (n : Int) < 0 || (n : Int) > 2 ^ 48 then runtimePanic (.error "makeslice: len out of range")
        let cap ← choose (.appendCap (n : Int).toNat 0 elem)
        askRoom cap
        let bytes ← choose (.extern "internal/bytealg.MakeNoZero.bytes" 0)
        let a ← newRow elem (Extern.BytealgMakeNoZero.digits cap bytes #[])
        pure (.slice (some a) (n : Int).toNat cap)) := rfl
  refine ⟨Extern.BytealgMakeNoZero.digits (grownCap w n 0 e) ((Question.extern "internal/bytealg.MakeNoZero.bytes" 0).cut (w.tape (w.drawn + 1) (.extern "internal/bytealg.MakeNoZero.bytes" 0))) #[], ?_, ?_, ?_, digits_one _ _ _ (by simp)⟩
  · rw [hdef]
    have h1 : ¬ (n : Int) < 0 := by omega
    have h2 : ¬ (281474976710656 : Int) < (n : Int) := by omega
    simp [run_underlying ht, h1, h2, Question.forced, newRow, Lib.size_digits, grownCap]
  · rw [Lib.size_digits]
    simpa using grownCap_ge w n 0 e
  · intro hm
    rw [Lib.size_digits]
    simpa using grownCap_le_maxLen w n 0 e hm
abbrev Prim := List V → Mem → (V → Mem → Prop) → Prop
def pIdx : Prim := fun args m K => match args with | [.S s, .I .u8 c] => K (.I .i64 (idxB s c)) m | _ => False
def pSame : Prim := fun args m K => match args with | [.ptr k r f] => K (.ptr k r f) m | [.nilp] => K .nilp m | _ => False
def pMake (e : TypeId) : Prim := fun args m K =>
  match args with
  | [.I .i64 n] => (match decide (0 ≤ n) && decide (n ≤ 140737488355328) with | true => K (.sl m.length 0 none none) (m ++ [⟨[.vals (List.replicate n.toNat .undef)], e, false, true⟩]) | false => False)
  | _ => False
/-- A function is without a body, and the model stands in for it by 'e'. -/
structure Stands (P : Program) (f : FuncId) (e : Array Value → Sem Value) : Prop where
  fn : ∃ fn, P.funcs[f]? = some fn ∧ (fn.name == "runtime.NumGoroutine") = false ∧ fn.body.isNone = true ∧ Extern.findNext fn = none ∧ Extern.find fn = some e
def PrimOk [Pins] (P : Program) (f : FuncId) (g : Prim) : Prop := ∀ args m K E w (cargs : Array Value), Sim E m w → VsRel E args cargs.toList → g args m K →
  ((∃ fn, P.funcs[f]? = some fn ∧ fn.body.isSome = true) ∧ Calls P f cargs w (Ret K E m w)) ∨ ∃ cv w', (callFunc f cargs).run P w = .ok (.value cv) w' ∧ Ret K E m w (.returned cv) w'
section
variable {P : Program} {f : FuncId}
theorem Stands.run [Pins] {e : Array Value → Sem Value} (h : Stands P f e) {args : Array Value} {w w' : World} {v : Value} (hr : (e args).run P w = .ok v w') : (callFunc f args).run P w = .ok (.value v) w' := by
  obtain ⟨fn, h1, h2, h3, h4, h5⟩ := h.fn
  rw [run_callFunc_extern h1 h2 h3 h4 h5, hr]
  rfl
theorem pIdx_ok [Pins] (h : Stands P f Extern.BytealgIndexByte.indexByte) : PrimOk P f pIdx := by
  intro args m K E w cargs hS ha hg
  unfold pIdx at hg
  split at hg
  · rename_i s c
    simp only [VsRel, VRel] at ha
    obtain ⟨c0, r0, e0, ⟨t, rfl, ht, hts⟩, c1, r1, rfl, ⟨rfl, hc⟩, rfl⟩ := ha
    obtain rfl : cargs = #[.string t, .int .u8 c] := by apply Array.ext'; simpa using e0
    have hc' : 0 ≤ c ∧ c ≤ 255 := by simpa [inR, IntKind.min, IntKind.max, IntKind.signed, IntKind.bits] using hc
    refine .inr ⟨_, _, h.run (Lib.run_indexByteString t c w), .I .i64 (idxB s c), m, E, hg, Step.refl hS, ?_⟩
    have hcc : ((c.toNat.toUInt8).toNat : Int) = c := by
      have : (c.toNat.toUInt8).toNat = c.toNat := by simp; omega
      rw [this]; omega
    have hix : idxB s c = Lib.indexByte t.data.toList c.toNat.toUInt8 := by
      unfold idxB
      rw [← ht]
      unfold bytesI
      rw [← hcc, idxF_eq]
      rw [hcc]
      rcases indexByte_none_or t.data.toList c.toNat.toUInt8 with h | h
      · simp [h]
      · rw [if_neg (by omega)]; omega
    simp only [VRel]
    refine ⟨by rw [hix], ?_⟩
    rw [hix]
    generalize hq : Lib.indexByte t.data.toList c.toNat.toUInt8 = q
    have hlo := Lib.indexByte_ge t.data.toList c.toNat.toUInt8
    have hhi := indexByte_le t.data.toList c.toNat.toUInt8
    rw [hq] at hlo hhi
    have hsz : t.data.toList.length = t.size := by rw [Array.length_toList]; rfl
    simp only [inR, IntKind.min, IntKind.max, IntKind.signed, IntKind.bits, Bool.and_eq_true, decide_eq_true_eq]
    simp
    omega
  · cases hg
theorem pSame_ok [Pins] (h : Stands P f Extern.AbiNoEscape.same) : PrimOk P f pSame := by
  intro args m K E w cargs hS ha hg
  unfold pSame at hg
  split at hg
  · simp only [VsRel] at ha
    obtain ⟨c0, r0, e0, hv, rfl⟩ := ha
    obtain rfl : cargs = #[c0] := by apply Array.ext'; simpa using e0
    exact .inr ⟨c0, w, h.run rfl, _, m, E, hg, Step.refl hS, hv⟩
  · simp only [VsRel] at ha
    obtain ⟨c0, r0, e0, hv, rfl⟩ := ha
    obtain rfl : cargs = #[c0] := by apply Array.ext'; simpa using e0
    exact .inr ⟨c0, w, h.run rfl, _, m, E, hg, Step.refl hS, hv⟩
  · cases hg
theorem pMake_ok [Pins] {ps : Array TypeId} {t e : TypeId} (h : Stands P f (Extern.BytealgMakeNoZero.makeNoZero ps #[t])) (ht : P.underlying t = some (.slice e)) : PrimOk P f (pMake e) := by
  intro args m K E w cargs hS ha hg
  unfold pMake at hg
  split at hg
  · rename_i n
    split at hg
    · rename_i hb
      simp only [Bool.and_eq_true, decide_eq_true_eq] at hb
      simp only [VsRel, VRel] at ha
      obtain ⟨c0, r0, e0, ⟨rfl, hr⟩, rfl⟩ := ha
      obtain rfl : cargs = #[.int .i64 n] := by apply Array.ext'; simpa using e0
      obtain ⟨k, rfl⟩ : ∃ k : Nat, n = (k : Int) := ⟨n.toNat, by omega⟩
      obtain ⟨cs, hrun, hle, hmx, hone⟩ := run_makeNoZero1 (P := P) w ps t e ht k (by omega)
      have hst : Step E m w (upd E m.length ⟨w.heap.size, 0, cs.size, 1, k⟩) (m ++ [⟨[.vals (List.replicate (Int.toNat k) .undef)], e, false, true⟩]) (w.drew.drew.alloc (.cells cs e)) := by
        refine Step.new hS _ _ rfl rfl rfl (by simp) (fun j hj => heap_alloc_old w.drew.drew _ hj) ?_ (fun _ => Nat.le_refl _)
        refine ⟨rfl, by simp [Blk.rows, Col.len], ?_, ?_, ?_, ?_, hle, hmx (by simp only [maxLen]; omega), fun es hes => by simp [Blk.sp, Col.plain] at hes⟩
        · intro c hc; simp at hc; subst hc; simp [Col.len]
        · intro row fld col v hcol hv
          cases fld with
          | succ n => simp at hcol
          | zero =>
            simp at hcol; subst hcol
            simp only [Col.list, List.getElem?_replicate] at hv
            split at hv
            · cases hv
              have hlt : row < cs.size := by simp at *; omega
              refine ⟨cs[row], ?_, hone _ (by simp), by simp [VRel]⟩
              have := heap_alloc_new w.drew.drew (.cells cs e)
              unfold World.cell?
              simp only [World.alloc, World.drew] at this ⊢
              simp [hlt]
            · cases hv
        · intro _ _ _
          exact ⟨rfl, cs, heap_alloc_new w.drew.drew _, by simp⟩
        · intro _
          simp [World.alloc]
      refine .inr ⟨_, _, h.run hrun, _, _, _, hg, hst, ?_⟩
      exact sl_new (e := ⟨w.heap.size, 0, cs.size, 1, k⟩) (upd_same _ _ _) rfl hle
    · cases hg
  · cases hg
/-! ### Sums with a carry -/
def subBits : Array Value → Sem Value := fun args => do
  let (x, y, b) ← Extern.MathBitsCarry.three "Sub64" args
  pure (Extern.MathBitsCarry.pair ((x + Extern.MathBitsCarry.m64 - y - b) % Extern.MathBitsCarry.m64) (if x < y + b then 1 else 0))
def pAdd64 : Prim := fun args m K =>
  match args with
  | [.I .u64 x, .I .u64 y, .I .u64 c] => (match decide (c ≤ 1) with | true => K (.tup [.I .u64 ((x + y + c) % 18446744073709551616), .I .u64 ((x + y + c) / 18446744073709551616)]) m | false => False)
  | _ => False
def pSub64 : Prim := fun args m K =>
  match args with
  | [.I .u64 x, .I .u64 y, .I .u64 c] => (match decide (c ≤ 1) with | true => K (.tup [.I .u64 ((x + 18446744073709551616 - y - c) % 18446744073709551616), .I .u64 (match decide (x < y + c) with | true => 1 | false => 0)]) m | false => False)
  | _ => False
theorem run_sub64 {P : Program} (x y c : Int) (hx : 0 ≤ x) (hx1 : x < 18446744073709551616) (hy : 0 ≤ y) (hy1 : y < 18446744073709551616) (hc0 : 0 ≤ c) (hc : c ≤ 1) (w : World) :
    (subBits #[.int .u64 x, .int .u64 y, .int .u64 c]).run P w =
      .ok (.tuple #[.int .u64 ((x + 18446744073709551616 - y - c) % 18446744073709551616), .int .u64 (match decide (x < y + c) with | true => 1 | false => 0)]) w := by
  have key : ∀ k : Nat, k ≤ 1 → (subBits #[.int .u64 x, .int .u64 y, .int .u64 (k : Int)]).run P w =
      .ok (Extern.MathBitsCarry.pair ((x.toNat + Extern.MathBitsCarry.m64 - y.toNat - k) % Extern.MathBitsCarry.m64) (if x.toNat < y.toNat + k then 1 else 0)) w := by
    intro k hk
    have : k = 0 ∨ k = 1 := by omega
    rcases this with rfl | rfl <;> rfl
  obtain ⟨k, rfl⟩ := Int.eq_ofNat_of_zero_le hc0
  rw [key k (by omega)]
  obtain ⟨X, rfl⟩ := Int.eq_ofNat_of_zero_le hx
  obtain ⟨Y, rfl⟩ := Int.eq_ofNat_of_zero_le hy
  simp only [Extern.MathBitsCarry.pair, Extern.MathBitsCarry.m64, Int.toNat_natCast]
  have e1 : Int.ofNat ((X + 2 ^ 64 - Y - k) % 2 ^ 64) = ((X : Int) + 18446744073709551616 - (Y : Int) - (k : Int)) % 18446744073709551616 := by
    simp only [Int.ofNat_eq_natCast]; omega
  have e2 : Int.ofNat (if X < Y + k then 1 else 0) = (match decide ((X : Int) < (Y : Int) + (k : Int)) with | true => 1 | false => 0) := by
    by_cases h : X < Y + k
    · rw [if_pos h, decide_eq_true (by omega)]; rfl
    · rw [if_neg h, decide_eq_false (by omega)]; rfl
  rw [e1, e2]
theorem three_args [Pins] {E : Wh} {x y c : Int} {cargs : Array Value} (ha : VsRel E [.I .u64 x, .I .u64 y, .I .u64 c] cargs.toList) : cargs = #[.int .u64 x, .int .u64 y, .int .u64 c] ∧ (0 ≤ x ∧ x < 18446744073709551616) ∧ (0 ≤ y ∧ y < 18446744073709551616) ∧ (0 ≤ c ∧ c < 18446744073709551616) := by
  simp only [VsRel, VRel] at ha
  obtain ⟨c0, r0, e0, ⟨rfl, h0⟩, c1, r1, rfl, ⟨rfl, h1⟩, c2, r2, rfl, ⟨rfl, h2⟩, rfl⟩ := ha
  have q : ∀ n : Int, inR .u64 n = true → 0 ≤ n ∧ n < 18446744073709551616 := fun n hn => by
    have : 0 ≤ n ∧ n ≤ 18446744073709551615 := by simpa [inR, IntKind.min, IntKind.max, IntKind.signed, IntKind.bits] using hn
    omega
  exact ⟨by apply Array.ext'; simpa using e0, q _ h0, q _ h1, q _ h2⟩
theorem inU64 {n : Int} (h0 : 0 ≤ n) (h1 : n < 18446744073709551616) : inR .u64 n = true := by
  have : 0 ≤ n ∧ n ≤ 18446744073709551615 := by omega
  simpa [inR, IntKind.min, IntKind.max, IntKind.signed, IntKind.bits] using this
theorem pAdd64_ok [Pins] (h : Stands P f add64Entry) : PrimOk P f pAdd64 := by
  intro args m K E w cargs hS ha hg
  unfold pAdd64 at hg
  split at hg
  · rename_i x y c
    obtain ⟨rfl, hx, hy, hc⟩ := three_args ha
    split at hg
    · rename_i h1
      rw [decide_eq_true_eq] at h1
      refine .inr ⟨_, _, h.run (run_add64 x y c hx.1 hy.1 hc.1 h1 w), _, m, E, hg, Step.refl hS, ?_⟩
      simp only [VRel, VsRel]
      exact ⟨_, rfl, _, _, rfl, ⟨rfl, inU64 (by omega) (by omega)⟩, _, _, rfl, ⟨rfl, inU64 (by omega) (by omega)⟩, rfl⟩
    · cases hg
  · cases hg
theorem pSub64_ok [Pins] (h : Stands P f subBits) : PrimOk P f pSub64 := by
  intro args m K E w cargs hS ha hg
  unfold pSub64 at hg
  split at hg
  · rename_i x y c
    obtain ⟨rfl, hx, hy, hc⟩ := three_args ha
    split at hg
    · rename_i h1
      rw [decide_eq_true_eq] at h1
      refine .inr ⟨_, _, h.run (run_sub64 x y c hx.1 hx.2 hy.1 hy.2 hc.1 h1 w), _, m, E, hg, Step.refl hS, ?_⟩
      simp only [VRel, VsRel]
      exact ⟨_, rfl, _, _, rfl, ⟨rfl, inU64 (by omega) (by omega)⟩, _, _, rfl, ⟨rfl, by cases decide (x < y + c) <;> rfl⟩, rfl⟩
    · cases hg
  · cases hg
end
end Go.Ab
