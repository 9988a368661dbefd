import Derived.Test.YtnndiicpiolddaaBlk1
set_option linter.unusedVariables false
set_option linter.unusedSimpArgs false
namespace Go.Proofs.Ytnndiicpiolddaa.blk
open Go Go.Ab
theorem wid {x : Int} (h1 : -9223372036854775808 ≤ x) (h2 : x ≤ 9223372036854775807) : IntKind.wrap .i64 x = x := by
  simp [IntKind.wrap, IntKind.bits, IntKind.signed]; omega
theorem dt {p : Prop} [inst : Decidable p] (h : p) : decide p = true := decide_eq_true h
theorem df {p : Prop} [inst : Decidable p] (h : ¬ p) : decide p = false := decide_eq_false h
theorem t_1 (q : Nat) : Int.toNat ((q : Int) + 1) = q + 1 := by omega
theorem t_2 (q : Nat) : Int.toNat ((q : Int) + 2) = q + 2 := by omega
theorem t_8 (q : Nat) : Int.toNat ((q : Int) + 8) = q + 8 := by omega
theorem g14 {k : Prop} (h : k) : G14 k := h
theorem g13 {a : Int} {k : Prop} (h : k) : G13 a k := h
theorem g16 {xs : List Int} {k1 : Nat → List Int → Prop} (hx : xs.length ≤ 2000000) : k1 xs.length (xs ++ [201, 202]) → G16 xs k1 := by
  intro a
  unfold G16 F16
  simp (disch := omega) only [dt, cond_true, Bool.and_self, List.length_append, List.length_cons, List.length_nil, Int.toNat_natCast, Nat.sub_zero]
  exact a
theorem g20 {xs : List Int} {k1 : Bool → Prop} {k2 : Prop} (hx : xs.length ≤ 2000000) : k1 true → G20 xs.length (xs ++ [201, 202]) xs k1 k2 := by
  intro a
  unfold G20 F20
  have e1 : (xs ++ [201, 202]).getD xs.length 0 = 201 := by rw [List.getD_eq_getElem?_getD, List.getElem?_append_right (Nat.le_refl _)]; simp
  have e2 : (xs ++ [201, 202]).getD (xs.length + 1) 0 = 202 := by rw [List.getD_eq_getElem?_getD, List.getElem?_append_right (by omega)]; simp
  simp (disch := omega) only [wid, dt, cond_true, Bool.and_self, List.length_append, List.length_cons, List.length_nil, Int.toNat_natCast, Nat.sub_zero, t_1, t_2, e1, e2, beq_self_eq_true, List.take_left']
  exact a
theorem fin {xs : List Int} {k1 k2 : Prop} (hx : xs.length ≤ 2000000) (h : k1) : G20 xs.length (xs ++ [201, 202]) xs (fun b => bif b then G14 k1 else k2) k2 := g20 hx (g14 h)
def pc (al : Int) : Bool := ((ibits .and .i64 (IntKind.wrap .i64 (IntKind.wrap .u64 ((IntKind.wrap .u64 ((IntKind.wrap .u64 ((ibits .and .u64 (IntKind.wrap .u64 ((Int.fdiv (IntKind.wrap .u64 ((ibits .and .u64 (Int.fdiv (IntKind.wrap .u64 ((ibits .and .u64 (Int.fdiv (IntKind.wrap .u64 al) (2 ^ 1)) (6148914691236517205 : Int)) + (ibits .and .u64 (IntKind.wrap .u64 al) (6148914691236517205 : Int)))) (2 ^ 2)) (3689348814741910323 : Int)) + (ibits .and .u64 (IntKind.wrap .u64 ((ibits .and .u64 (Int.fdiv (IntKind.wrap .u64 al) (2 ^ 1)) (6148914691236517205 : Int)) + (ibits .and .u64 (IntKind.wrap .u64 al) (6148914691236517205 : Int)))) (3689348814741910323 : Int)))) (2 ^ 4)) + (IntKind.wrap .u64 ((ibits .and .u64 (Int.fdiv (IntKind.wrap .u64 ((ibits .and .u64 (Int.fdiv (IntKind.wrap .u64 al) (2 ^ 1)) (6148914691236517205 : Int)) + (ibits .and .u64 (IntKind.wrap .u64 al) (6148914691236517205 : Int)))) (2 ^ 2)) (3689348814741910323 : Int)) + (ibits .and .u64 (IntKind.wrap .u64 ((ibits .and .u64 (Int.fdiv (IntKind.wrap .u64 al) (2 ^ 1)) (6148914691236517205 : Int)) + (ibits .and .u64 (IntKind.wrap .u64 al) (6148914691236517205 : Int)))) (3689348814741910323 : Int)))))) (1085102592571150095 : Int)) + (Int.fdiv (ibits .and .u64 (IntKind.wrap .u64 ((Int.fdiv (IntKind.wrap .u64 ((ibits .and .u64 (Int.fdiv (IntKind.wrap .u64 ((ibits .and .u64 (Int.fdiv (IntKind.wrap .u64 al) (2 ^ 1)) (6148914691236517205 : Int)) + (ibits .and .u64 (IntKind.wrap .u64 al) (6148914691236517205 : Int)))) (2 ^ 2)) (3689348814741910323 : Int)) + (ibits .and .u64 (IntKind.wrap .u64 ((ibits .and .u64 (Int.fdiv (IntKind.wrap .u64 al) (2 ^ 1)) (6148914691236517205 : Int)) + (ibits .and .u64 (IntKind.wrap .u64 al) (6148914691236517205 : Int)))) (3689348814741910323 : Int)))) (2 ^ 4)) + (IntKind.wrap .u64 ((ibits .and .u64 (Int.fdiv (IntKind.wrap .u64 ((ibits .and .u64 (Int.fdiv (IntKind.wrap .u64 al) (2 ^ 1)) (6148914691236517205 : Int)) + (ibits .and .u64 (IntKind.wrap .u64 al) (6148914691236517205 : Int)))) (2 ^ 2)) (3689348814741910323 : Int)) + (ibits .and .u64 (IntKind.wrap .u64 ((ibits .and .u64 (Int.fdiv (IntKind.wrap .u64 al) (2 ^ 1)) (6148914691236517205 : Int)) + (ibits .and .u64 (IntKind.wrap .u64 al) (6148914691236517205 : Int)))) (3689348814741910323 : Int)))))) (1085102592571150095 : Int)) (2 ^ 8)))) + (Int.fdiv (IntKind.wrap .u64 ((ibits .and .u64 (IntKind.wrap .u64 ((Int.fdiv (IntKind.wrap .u64 ((ibits .and .u64 (Int.fdiv (IntKind.wrap .u64 ((ibits .and .u64 (Int.fdiv (IntKind.wrap .u64 al) (2 ^ 1)) (6148914691236517205 : Int)) + (ibits .and .u64 (IntKind.wrap .u64 al) (6148914691236517205 : Int)))) (2 ^ 2)) (3689348814741910323 : Int)) + (ibits .and .u64 (IntKind.wrap .u64 ((ibits .and .u64 (Int.fdiv (IntKind.wrap .u64 al) (2 ^ 1)) (6148914691236517205 : Int)) + (ibits .and .u64 (IntKind.wrap .u64 al) (6148914691236517205 : Int)))) (3689348814741910323 : Int)))) (2 ^ 4)) + (IntKind.wrap .u64 ((ibits .and .u64 (Int.fdiv (IntKind.wrap .u64 ((ibits .and .u64 (Int.fdiv (IntKind.wrap .u64 al) (2 ^ 1)) (6148914691236517205 : Int)) + (ibits .and .u64 (IntKind.wrap .u64 al) (6148914691236517205 : Int)))) (2 ^ 2)) (3689348814741910323 : Int)) + (ibits .and .u64 (IntKind.wrap .u64 ((ibits .and .u64 (Int.fdiv (IntKind.wrap .u64 al) (2 ^ 1)) (6148914691236517205 : Int)) + (ibits .and .u64 (IntKind.wrap .u64 al) (6148914691236517205 : Int)))) (3689348814741910323 : Int)))))) (1085102592571150095 : Int)) + (Int.fdiv (ibits .and .u64 (IntKind.wrap .u64 ((Int.fdiv (IntKind.wrap .u64 ((ibits .and .u64 (Int.fdiv (IntKind.wrap .u64 ((ibits .and .u64 (Int.fdiv (IntKind.wrap .u64 al) (2 ^ 1)) (6148914691236517205 : Int)) + (ibits .and .u64 (IntKind.wrap .u64 al) (6148914691236517205 : Int)))) (2 ^ 2)) (3689348814741910323 : Int)) + (ibits .and .u64 (IntKind.wrap .u64 ((ibits .and .u64 (Int.fdiv (IntKind.wrap .u64 al) (2 ^ 1)) (6148914691236517205 : Int)) + (ibits .and .u64 (IntKind.wrap .u64 al) (6148914691236517205 : Int)))) (3689348814741910323 : Int)))) (2 ^ 4)) + (IntKind.wrap .u64 ((ibits .and .u64 (Int.fdiv (IntKind.wrap .u64 ((ibits .and .u64 (Int.fdiv (IntKind.wrap .u64 al) (2 ^ 1)) (6148914691236517205 : Int)) + (ibits .and .u64 (IntKind.wrap .u64 al) (6148914691236517205 : Int)))) (2 ^ 2)) (3689348814741910323 : Int)) + (ibits .and .u64 (IntKind.wrap .u64 ((ibits .and .u64 (Int.fdiv (IntKind.wrap .u64 al) (2 ^ 1)) (6148914691236517205 : Int)) + (ibits .and .u64 (IntKind.wrap .u64 al) (6148914691236517205 : Int)))) (3689348814741910323 : Int)))))) (1085102592571150095 : Int)) (2 ^ 8)))) (2 ^ 16)))) + (Int.fdiv (IntKind.wrap .u64 ((IntKind.wrap .u64 ((ibits .and .u64 (IntKind.wrap .u64 ((Int.fdiv (IntKind.wrap .u64 ((ibits .and .u64 (Int.fdiv (IntKind.wrap .u64 ((ibits .and .u64 (Int.fdiv (IntKind.wrap .u64 al) (2 ^ 1)) (6148914691236517205 : Int)) + (ibits .and .u64 (IntKind.wrap .u64 al) (6148914691236517205 : Int)))) (2 ^ 2)) (3689348814741910323 : Int)) + (ibits .and .u64 (IntKind.wrap .u64 ((ibits .and .u64 (Int.fdiv (IntKind.wrap .u64 al) (2 ^ 1)) (6148914691236517205 : Int)) + (ibits .and .u64 (IntKind.wrap .u64 al) (6148914691236517205 : Int)))) (3689348814741910323 : Int)))) (2 ^ 4)) + (IntKind.wrap .u64 ((ibits .and .u64 (Int.fdiv (IntKind.wrap .u64 ((ibits .and .u64 (Int.fdiv (IntKind.wrap .u64 al) (2 ^ 1)) (6148914691236517205 : Int)) + (ibits .and .u64 (IntKind.wrap .u64 al) (6148914691236517205 : Int)))) (2 ^ 2)) (3689348814741910323 : Int)) + (ibits .and .u64 (IntKind.wrap .u64 ((ibits .and .u64 (Int.fdiv (IntKind.wrap .u64 al) (2 ^ 1)) (6148914691236517205 : Int)) + (ibits .and .u64 (IntKind.wrap .u64 al) (6148914691236517205 : Int)))) (3689348814741910323 : Int)))))) (1085102592571150095 : Int)) + (Int.fdiv (ibits .and .u64 (IntKind.wrap .u64 ((Int.fdiv (IntKind.wrap .u64 ((ibits .and .u64 (Int.fdiv (IntKind.wrap .u64 ((ibits .and .u64 (Int.fdiv (IntKind.wrap .u64 al) (2 ^ 1)) (6148914691236517205 : Int)) + (ibits .and .u64 (IntKind.wrap .u64 al) (6148914691236517205 : Int)))) (2 ^ 2)) (3689348814741910323 : Int)) + (ibits .and .u64 (IntKind.wrap .u64 ((ibits .and .u64 (Int.fdiv (IntKind.wrap .u64 al) (2 ^ 1)) (6148914691236517205 : Int)) + (ibits .and .u64 (IntKind.wrap .u64 al) (6148914691236517205 : Int)))) (3689348814741910323 : Int)))) (2 ^ 4)) + (IntKind.wrap .u64 ((ibits .and .u64 (Int.fdiv (IntKind.wrap .u64 ((ibits .and .u64 (Int.fdiv (IntKind.wrap .u64 al) (2 ^ 1)) (6148914691236517205 : Int)) + (ibits .and .u64 (IntKind.wrap .u64 al) (6148914691236517205 : Int)))) (2 ^ 2)) (3689348814741910323 : Int)) + (ibits .and .u64 (IntKind.wrap .u64 ((ibits .and .u64 (Int.fdiv (IntKind.wrap .u64 al) (2 ^ 1)) (6148914691236517205 : Int)) + (ibits .and .u64 (IntKind.wrap .u64 al) (6148914691236517205 : Int)))) (3689348814741910323 : Int)))))) (1085102592571150095 : Int)) (2 ^ 8)))) + (Int.fdiv (IntKind.wrap .u64 ((ibits .and .u64 (IntKind.wrap .u64 ((Int.fdiv (IntKind.wrap .u64 ((ibits .and .u64 (Int.fdiv (IntKind.wrap .u64 ((ibits .and .u64 (Int.fdiv (IntKind.wrap .u64 al) (2 ^ 1)) (6148914691236517205 : Int)) + (ibits .and .u64 (IntKind.wrap .u64 al) (6148914691236517205 : Int)))) (2 ^ 2)) (3689348814741910323 : Int)) + (ibits .and .u64 (IntKind.wrap .u64 ((ibits .and .u64 (Int.fdiv (IntKind.wrap .u64 al) (2 ^ 1)) (6148914691236517205 : Int)) + (ibits .and .u64 (IntKind.wrap .u64 al) (6148914691236517205 : Int)))) (3689348814741910323 : Int)))) (2 ^ 4)) + (IntKind.wrap .u64 ((ibits .and .u64 (Int.fdiv (IntKind.wrap .u64 ((ibits .and .u64 (Int.fdiv (IntKind.wrap .u64 al) (2 ^ 1)) (6148914691236517205 : Int)) + (ibits .and .u64 (IntKind.wrap .u64 al) (6148914691236517205 : Int)))) (2 ^ 2)) (3689348814741910323 : Int)) + (ibits .and .u64 (IntKind.wrap .u64 ((ibits .and .u64 (Int.fdiv (IntKind.wrap .u64 al) (2 ^ 1)) (6148914691236517205 : Int)) + (ibits .and .u64 (IntKind.wrap .u64 al) (6148914691236517205 : Int)))) (3689348814741910323 : Int)))))) (1085102592571150095 : Int)) + (Int.fdiv (ibits .and .u64 (IntKind.wrap .u64 ((Int.fdiv (IntKind.wrap .u64 ((ibits .and .u64 (Int.fdiv (IntKind.wrap .u64 ((ibits .and .u64 (Int.fdiv (IntKind.wrap .u64 al) (2 ^ 1)) (6148914691236517205 : Int)) + (ibits .and .u64 (IntKind.wrap .u64 al) (6148914691236517205 : Int)))) (2 ^ 2)) (3689348814741910323 : Int)) + (ibits .and .u64 (IntKind.wrap .u64 ((ibits .and .u64 (Int.fdiv (IntKind.wrap .u64 al) (2 ^ 1)) (6148914691236517205 : Int)) + (ibits .and .u64 (IntKind.wrap .u64 al) (6148914691236517205 : Int)))) (3689348814741910323 : Int)))) (2 ^ 4)) + (IntKind.wrap .u64 ((ibits .and .u64 (Int.fdiv (IntKind.wrap .u64 ((ibits .and .u64 (Int.fdiv (IntKind.wrap .u64 al) (2 ^ 1)) (6148914691236517205 : Int)) + (ibits .and .u64 (IntKind.wrap .u64 al) (6148914691236517205 : Int)))) (2 ^ 2)) (3689348814741910323 : Int)) + (ibits .and .u64 (IntKind.wrap .u64 ((ibits .and .u64 (Int.fdiv (IntKind.wrap .u64 al) (2 ^ 1)) (6148914691236517205 : Int)) + (ibits .and .u64 (IntKind.wrap .u64 al) (6148914691236517205 : Int)))) (3689348814741910323 : Int)))))) (1085102592571150095 : Int)) (2 ^ 8)))) (2 ^ 16)))) (2 ^ 32))))) (127 : Int)) != (1 : Int))
theorem pc_pow : ∀ k : Nat, k < 13 → pc ((2 ^ k : Nat) : Int) = false := by
  intro k hk
  have : k = 0 ∨ k = 1 ∨ k = 2 ∨ k = 3 ∨ k = 4 ∨ k = 5 ∨ k = 6 ∨ k = 7 ∨ k = 8 ∨ k = 9 ∨ k = 10 ∨ k = 11 ∨ k = 12 := by omega
  rcases this with rfl | rfl | rfl | rfl | rfl | rfl | rfl | rfl | rfl | rfl | rfl | rfl | rfl <;> (change _ = _; kernel_rfl)
def pw (al : Int) : Bool := ibits .and .i64 al (IntKind.wrap .i64 (al - 1)) == 0
theorem pw_pow : ∀ k : Nat, k < 13 → pw ((2 ^ k : Nat) : Int) = true := by
  intro k hk
  have : k = 0 ∨ k = 1 ∨ k = 2 ∨ k = 3 ∨ k = 4 ∨ k = 5 ∨ k = 6 ∨ k = 7 ∨ k = 8 ∨ k = 9 ∨ k = 10 ∨ k = 11 ∨ k = 12 := by omega
  rcases this with rfl | rfl | rfl | rfl | rfl | rfl | rfl | rfl | rfl | rfl | rfl | rfl | rfl <;> (change _ = _; kernel_rfl)
theorem pw_all : ((List.range 4097).all fun a => !(pw (a : Int)) || (a == 0 || (List.range 13).any fun k => 2 ^ k == a)) = true := by kernel_rfl
theorem pw_cases {al : Int} (h1 : 1 ≤ al) (h2 : al ≤ 4096) (h : pw al = true) : ∃ k : Nat, k < 13 ∧ al = ((2 ^ k : Nat) : Int) := by
  obtain ⟨a, rfl⟩ := Int.eq_ofNat_of_zero_le (show 0 ≤ al by omega)
  have := List.all_eq_true.1 pw_all a (by simp; omega)
  rw [h] at this
  simp only [Bool.not_true, Bool.false_or, Bool.or_eq_true, beq_iff_eq, List.any_eq_true, List.mem_range] at this
  rcases this with h0 | ⟨k, hk, e⟩
  · omega
  · exact ⟨k, hk, by rw [e]⟩
theorem andNot_nat (x k : Nat) (hx : x < 2 ^ 64) (hk : k < 64) : (BitVec.ofNat 64 x &&& ~~~ BitVec.ofNat 64 (2 ^ k - 1)).toNat = x / 2 ^ k * 2 ^ k := by
  have hp : 2 ^ k - 1 < 2 ^ 64 := by
    have : 2 ^ k ≤ 2 ^ 64 := Nat.pow_le_pow_right (by omega) (by omega)
    have : 0 < 2 ^ k := Nat.two_pow_pos k
    omega
  rw [BitVec.toNat_and, BitVec.toNat_not, BitVec.toNat_ofNat, BitVec.toNat_ofNat, Nat.mod_eq_of_lt hx, Nat.mod_eq_of_lt hp]
  have e : 2 ^ 64 - 1 - (2 ^ k - 1) = 2 ^ 64 - ((2 ^ k - 1) + 1) := by omega
  rw [e]
  apply Nat.eq_of_testBit_eq
  intro i
  rw [Nat.testBit_and, Nat.testBit_two_pow_sub_succ hp, Nat.testBit_two_pow_sub_one, Nat.testBit_mul_two_pow, Nat.testBit_div_two_pow]
  by_cases h1 : k ≤ i
  · by_cases h2 : i < 64
    · simp [h1, h2, show ¬ i < k from by omega, show i - k + k = i from by omega]
    · have : x.testBit i = false := Nat.testBit_lt_two_pow (Nat.lt_of_lt_of_le hx (Nat.pow_le_pow_right (by omega) (by omega)))
      simp [h1, h2, this, show i - k + k = i from by omega]
  · simp [h1, show i < k from by omega]
theorem andNot_pow (x k : Nat) (hx : x < 2 ^ 62) (hk : k < 63) : ibits .andNot .i64 (x : Int) ((2 ^ k - 1 : Nat) : Int) = ((x / 2 ^ k * 2 ^ k : Nat) : Int) := by
  have h := andNot_nat x k (by omega) (by omega)
  have hle : x / 2 ^ k * 2 ^ k ≤ x := Nat.div_mul_le_self x (2 ^ k)
  show IntKind.wrap .i64 ((BitVec.ofInt 64 (x : Int) &&& ~~~ BitVec.ofInt 64 ((2 ^ k - 1 : Nat) : Int)).toNat : Int) = _
  rw [BitVec.ofInt_natCast, BitVec.ofInt_natCast, h, wid (by omega) (by omega)]
/-- What a size is rounded up to. -/
def up (s k : Nat) : Nat := (s + (2 ^ k - 1)) / 2 ^ k * 2 ^ k
theorem up_ge (s k : Nat) : s ≤ up s k := by
  unfold up
  have hp : 0 < 2 ^ k := Nat.two_pow_pos k
  have := Nat.mod_lt (s + (2 ^ k - 1)) hp
  have h3 := Nat.div_add_mod (s + (2 ^ k - 1)) (2 ^ k)
  rw [Nat.mul_comm] at h3
  omega
theorem up_le (s k : Nat) : up s k ≤ s + (2 ^ k - 1) := Nat.div_mul_le_self _ _
theorem up_mod (s k : Nat) : up s k = if s % 2 ^ k = 0 then s else s - s % 2 ^ k + 2 ^ k := by
  unfold up
  have hp : 0 < 2 ^ k := Nat.two_pow_pos k
  have h1 := Nat.div_add_mod s (2 ^ k)
  have h2 := Nat.mod_lt s hp
  generalize 2 ^ k = a at *
  generalize hr : s % a = r at *
  generalize hq : s / a = q at *
  by_cases h0 : r = 0
  · rw [if_pos h0]
    have : s + (a - 1) = (a - 1) + q * a := by rw [Nat.mul_comm] at h1; omega
    rw [this, Nat.add_mul_div_right _ _ hp, Nat.div_eq_of_lt (by omega), Nat.zero_add]
    rw [Nat.mul_comm]; omega
  · rw [if_neg h0]
    have : s + (a - 1) = (r - 1) + (q + 1) * a := by rw [Nat.add_mul, Nat.mul_comm q a]; omega
    rw [this, Nat.add_mul_div_right _ _ hp, Nat.div_eq_of_lt (by omega), Nat.zero_add, Nat.add_mul, Nat.mul_comm q a]
    omega
end Go.Proofs.Ytnndiicpiolddaa.blk
