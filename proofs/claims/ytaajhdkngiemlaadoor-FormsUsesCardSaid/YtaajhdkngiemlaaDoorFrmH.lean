/- Law 03: registers as bits. -/
import Derived.Test.YtaajhdkngiemlaaDoorFrmC
set_option linter.unusedVariables false
set_option linter.unusedSimpArgs false
namespace Go.Proofs.YtaajhdkngiemlaaDoor.frm
open Go Go.Ab
def bitI (r : Int) : Int := IntKind.wrap .i64 ((1 : Int) * 2 ^ (min (Int.toNat r) (IntKind.bits .i64)))
def bitR (r : Int) : Int := IntKind.wrap .i64 ((1 : Int) * 2 ^ (min (Int.toNat (IntKind.wrap .u64 r)) (IntKind.bits .i64)))
def insI (k b x : Int) : Int :=
  bif k == 3 then
    (bif decide (b ≥ 0) then (bif decide (x ≥ 0) then ibits .or .i64 (ibits .or .i64 0 (bitI b)) (bitI x) else ibits .or .i64 0 (bitI b))
     else (bif decide (x ≥ 0) then ibits .or .i64 0 (bitI x) else 0))
  else 0
def insR (k r b x : Int) (rd : Bool) : Int :=
  bif k == 1 then (bif rd then bitR r else 0)
  else bif k == 3 then
    (bif decide (b ≥ 0) then (bif decide (x ≥ 0) then ibits .or .i64 (bitR b) (bitR x) else bitR b)
     else (bif decide (x ≥ 0) then ibits .or .i64 0 (bitR x) else 0))
  else 0
def bV (r : Int) : BitVec 16 := 1#16 <<< r.toNat
def insV (k b x : Int) : BitVec 16 := bif k == 3 then (bif decide (b ≥ 0) then bV b else 0#16) ||| (bif decide (x ≥ 0) then bV x else 0#16) else 0#16
theorem wrapU (r : Int) : 0 ≤ IntKind.wrap .u64 r := by
  simp [IntKind.wrap, IntKind.bits, IntKind.signed]; omega
theorem bitI_V {r : Int} (h0 : 0 ≤ r) (h1 : r ≤ 15) : bitI r = ((bV r).toNat : Int) := by
  have : r = 0 ∨ r = 1 ∨ r = 2 ∨ r = 3 ∨ r = 4 ∨ r = 5 ∨ r = 6 ∨ r = 7 ∨ r = 8 ∨ r = 9 ∨ r = 10 ∨ r = 11 ∨ r = 12 ∨ r = 13 ∨ r = 14 ∨ r = 15 := by omega
  rcases this with rfl | rfl | rfl | rfl | rfl | rfl | rfl | rfl | rfl | rfl | rfl | rfl | rfl | rfl | rfl | rfl <;> decide
theorem bitR_V {r : Int} (h0 : 0 ≤ r) (h1 : r ≤ 15) : bitR r = ((bV r).toNat : Int) := by
  have : IntKind.wrap .u64 r = r := by simp [IntKind.wrap, IntKind.bits, IntKind.signed]; omega
  unfold bitR
  rw [this]
  exact bitI_V h0 h1
theorem orI (x y : BitVec 16) : ibits .or .i64 (x.toNat : Int) (y.toNat : Int) = ((x ||| y).toNat : Int) := by
  have hx : (BitVec.ofInt 64 (x.toNat : Int)).toNat = x.toNat := by
    rw [BitVec.ofInt_natCast, BitVec.toNat_ofNat]; have := x.isLt; omega
  have hy : (BitVec.ofInt 64 (y.toNat : Int)).toNat = y.toNat := by
    rw [BitVec.ofInt_natCast, BitVec.toNat_ofNat]; have := y.isLt; omega
  have hl := (x ||| y).isLt
  rw [BitVec.toNat_or] at hl
  show IntKind.wrap .i64 (((BitVec.ofInt 64 (x.toNat : Int) ||| BitVec.ofInt 64 (y.toNat : Int)).toNat : Nat) : Int) = _
  rw [BitVec.toNat_or, hx, hy, BitVec.toNat_or, wid (by omega) (by omega)]
theorem orI0 (y : BitVec 16) : ibits .or .i64 (0 : Int) (y.toNat : Int) = (y.toNat : Int) := by
  have := orI 0#16 y
  simpa using this
theorem orI0' (y : BitVec 16) : ibits .or .i64 (y.toNat : Int) (0 : Int) = (y.toNat : Int) := by
  have := orI y 0#16
  simpa using this
theorem insI_V {k b x : Int} (h : k = 3 → b ≤ 15 ∧ x ≤ 15) : insI k b x = ((insV k b x).toNat : Int) := by
  unfold insI insV
  by_cases hk : k = 3
  · obtain ⟨hb, hx⟩ := h hk
    subst hk
    by_cases b0 : b ≥ 0 <;> by_cases x0 : x ≥ 0 <;> simp [b0, x0, orI, orI0, bitI_V, hb, hx]
  · have : (k == 3) = false := by simpa using hk
    simp [this]
theorem insR_V {k r b x : Int} {rd : Bool} (h : k = 3 → b ≤ 15 ∧ x ≤ 15) (h1 : k = 1 → 0 ≤ r ∧ r ≤ 15) : insR k r b x rd = ((bif k == 1 && rd then bV r else insV k b x).toNat : Int) := by
  unfold insR insV
  by_cases hk1 : k = 1
  · obtain ⟨r0, r1⟩ := h1 hk1
    subst hk1
    cases rd <;> simp [bitR_V r0 r1]
  have e1 : (k == 1) = false := by simpa using hk1
  by_cases hk : k = 3
  · obtain ⟨hb, hx⟩ := h hk
    subst hk
    by_cases b0 : b ≥ 0 <;> by_cases x0 : x ≥ 0 <;> simp [b0, x0]
    · rw [bitR_V b0 hb, bitR_V x0 hx, orI]; simp
    · rw [bitR_V b0 hb]
    · rw [bitR_V x0 hx, orI0]
  · have : (k == 3) = false := by simpa using hk
    simp [this, e1]
end Go.Proofs.YtaajhdkngiemlaaDoor.frm
