import Derived.Test.YtnndiicpiolddaaAbDef
set_option linter.unusedVariables false
set_option linter.unusedSimpArgs false
namespace Go.Ab.bits
open Go Go.Ab
theorem wu64 {x : Nat} (h : x < 2 ^ 64) : IntKind.wrap .u64 (x : Int) = (x : Int) := by
  simp [IntKind.wrap, IntKind.bits, IntKind.signed]; omega
theorem or_nat (x y : Nat) (hx : x < 2 ^ 64) (hy : y < 2 ^ 64) : ibits .or .u64 (x : Int) (y : Int) = ((x ||| y : Nat) : Int) := by
  show IntKind.wrap .u64 ((BitVec.ofInt 64 (x : Int) ||| BitVec.ofInt 64 (y : Int)).toNat : Int) = _
  rw [BitVec.ofInt_natCast, BitVec.ofInt_natCast, BitVec.toNat_or, BitVec.toNat_ofNat, BitVec.toNat_ofNat, Nat.mod_eq_of_lt hx, Nat.mod_eq_of_lt hy]
  exact wu64 (Nat.or_lt_two_pow hx hy)
theorem or_add (a b k : Nat) (ha : a < 2 ^ k) : a ||| (b * 2 ^ k) = a + b * 2 ^ k := by
  rw [Nat.or_comm, Nat.mul_comm, ← Nat.two_pow_add_eq_or_of_lt ha b, Nat.add_comm]
/-- One byte more. -/
theorem or_byte {a b k : Nat} (hk : k ≤ 56) (ha : a < 2 ^ k) (hb : b < 256) : ibits .or .u64 (a : Int) (IntKind.wrap .u64 ((IntKind.wrap .u64 (b : Int)) * 2 ^ k)) = ((a + b * 2 ^ k : Nat) : Int) ∧ a + b * 2 ^ k < 2 ^ (k + 8) := by
  have hp : 0 < 2 ^ k := Nat.two_pow_pos k
  have h1 : b * 2 ^ k ≤ 255 * 2 ^ k := Nat.mul_le_mul_right _ (by omega)
  have h2 : a + b * 2 ^ k < 2 ^ (k + 8) := by rw [Nat.pow_add]; omega
  have h3 : 2 ^ (k + 8) ≤ 2 ^ 64 := Nat.pow_le_pow_right (by omega) (by omega)
  refine ⟨?_, h2⟩
  rw [wu64 (by omega)]
  have e : (b : Int) * 2 ^ k = ((b * 2 ^ k : Nat) : Int) := by simp
  rw [e, wu64 (by omega), or_nat _ _ (by omega) (by omega), or_add _ _ _ ha]
end Go.Ab.bits
