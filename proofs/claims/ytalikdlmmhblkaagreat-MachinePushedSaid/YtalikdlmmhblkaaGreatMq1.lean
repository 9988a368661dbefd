/- MachinePushed: what comes ahead of the runs: the first five parts, the frames, the bytes of a number. -/
import Derived.Test.YtalikdlmmhblkaaGreatMq0
import Derived.Test.YtalikdlmmhblkaaGreatAbDefer
set_option linter.unusedVariables false
set_option linter.unusedSimpArgs false
set_option maxHeartbeats 4000000
set_option maxRecDepth 100000
namespace Go.Proofs.YtalikdlmmhblkaaGreat.mp
open Go Go.Ab
theorem at3 : Tryz.prog.funcs[3]? = some (fnOf Tryz.prog 3) := by kernel_rfl
def stS (x0 x1 x2 x3 x4 x5 x6 x7 x8 x9 x10 x11 x12 x13 x14 x15 x16 x17 : Int) (b0 b1 b2 b3 b4 : Bool) : V := (.agg [(.I .u64 x0), (.I .u64 x1), (.I .u64 x2), (.I .u64 x3), (.I .u64 x4), (.I .u64 x5), (.I .u64 x6), (.I .u64 x7), (.I .u64 x8), (.I .u64 x9), (.I .u64 x10), (.I .u64 x11), (.I .u64 x12), (.I .u64 x13), (.I .u64 x14), (.I .u64 x15), (.I .u64 x16), (.I .u64 x17), (.B b0), (.B b1), (.B b2), (.B b3), (.B b4)])
def memS (x0 x1 x2 x3 x4 x5 x6 x7 x8 x9 x10 x11 x12 x13 x14 x15 x16 x17 : Int) (b0 b1 b2 b3 b4 : Bool) : Mem := [⟨[.ints .u64 ([x0] : List Int), .ints .u64 ([x1] : List Int), .ints .u64 ([x2] : List Int), .ints .u64 ([x3] : List Int), .ints .u64 ([x4] : List Int), .ints .u64 ([x5] : List Int), .ints .u64 ([x6] : List Int), .ints .u64 ([x7] : List Int), .ints .u64 ([x8] : List Int), .ints .u64 ([x9] : List Int), .ints .u64 ([x10] : List Int), .ints .u64 ([x11] : List Int), .ints .u64 ([x12] : List Int), .ints .u64 ([x13] : List Int), .ints .u64 ([x14] : List Int), .ints .u64 ([x15] : List Int), .ints .u64 ([x16] : List Int), .ints .u64 ([x17] : List Int), .bools ([b0] : List Bool), .bools ([b1] : List Bool), .bools ([b2] : List Bool), .bools ([b3] : List Bool), .bools ([b4] : List Bool)], 27, false, true⟩]
def frS (at0 sp0 r0 x0 x1 x2 x3 x4 x5 x6 x7 x8 x9 x10 x11 x12 x13 x14 x15 x16 x17 : Int) (b0 b1 b2 b3 b4 : Bool) : Env := (Tr.set (Tr.set (Tr.set (Tr.set (Tr.set (Tr.set (Tr.set (Tr.set (Tr.set (Tr.set (Tr.set (Tr.set (Tr.set (Tr.set (Tr.set (Tr.set (Tr.set (Tr.set (Tr.set (Tr.set (Tr.set (Tr.set (Tr.set (Tr.set (Tr.set (Tr.full (.tup []) 133 133) 0 (.I .u64 (IntKind.wrap .u64 ((IntKind.wrap .u64 (Int.tdiv (Int.tmod at0 (70368744177664 : Int)) (4096 : Int))) * (4096 : Int))))) 1 (.I .u64 (IntKind.wrap .u64 ((IntKind.wrap .u64 (Int.tdiv (Int.tmod sp0 (70368744177664 : Int)) (4096 : Int))) * (4096 : Int))))) 2 (.agg [(.I .u64 x0), (.I .u64 x1), (.I .u64 x2), (.I .u64 x3), (.I .u64 x4), (.I .u64 x5), (.I .u64 x6), (.I .u64 x7), (.I .u64 x8), (.I .u64 x9), (.I .u64 x10), (.I .u64 x11), (.I .u64 x12), (.I .u64 x13), (.I .u64 x14), (.I .u64 x15), (.I .u64 x16), (.I .u64 x17), (.B b0), (.B b1), (.B b2), (.B b3), (.B b4)])) 3 (.I .i64 (Int.tmod (IntKind.wrap .i64 ((Int.tmod r0 (16 : Int)) + (16 : Int))) (16 : Int)))) 6 (.ptr 0 (0 : Nat) 0)) 8 (.B false)) 18 (.I .i64 r0)) 19 (.I .i64 (Int.tmod r0 (16 : Int)))) 20 (.I .i64 (IntKind.wrap .i64 ((Int.tmod r0 (16 : Int)) + (16 : Int))))) 21 (.I .i64 (Int.tmod (IntKind.wrap .i64 ((Int.tmod r0 (16 : Int)) + (16 : Int))) (16 : Int)))) 22 (.I .u64 at0)) 23 (.I .u64 (Int.tmod at0 (70368744177664 : Int)))) 24 (.I .u64 (IntKind.wrap .u64 (Int.tdiv (Int.tmod at0 (70368744177664 : Int)) (4096 : Int))))) 25 (.I .u64 (IntKind.wrap .u64 ((IntKind.wrap .u64 (Int.tdiv (Int.tmod at0 (70368744177664 : Int)) (4096 : Int))) * (4096 : Int))))) 26 (.I .u64 sp0)) 27 (.I .u64 (Int.tmod sp0 (70368744177664 : Int)))) 28 (.I .u64 (IntKind.wrap .u64 (Int.tdiv (Int.tmod sp0 (70368744177664 : Int)) (4096 : Int))))) 29 (.I .u64 (IntKind.wrap .u64 ((IntKind.wrap .u64 (Int.tdiv (Int.tmod sp0 (70368744177664 : Int)) (4096 : Int))) * (4096 : Int))))) 30 (.I .u64 (IntKind.wrap .u64 ((IntKind.wrap .u64 (Int.tdiv (Int.tmod at0 (70368744177664 : Int)) (4096 : Int))) * (4096 : Int))))) 31 (.I .u64 (IntKind.wrap .u64 ((IntKind.wrap .u64 (Int.tdiv (Int.tmod sp0 (70368744177664 : Int)) (4096 : Int))) * (4096 : Int))))) 32 (.B ((IntKind.wrap .u64 ((IntKind.wrap .u64 (Int.tdiv (Int.tmod at0 (70368744177664 : Int)) (4096 : Int))) * (4096 : Int))) == (IntKind.wrap .u64 ((IntKind.wrap .u64 (Int.tdiv (Int.tmod sp0 (70368744177664 : Int)) (4096 : Int))) * (4096 : Int)))))) 33 (.B false)) 34 (.I .i64 (Int.tmod (IntKind.wrap .i64 ((Int.tmod r0 (16 : Int)) + (16 : Int))) (16 : Int)))) 35 (.B ((Int.tmod (IntKind.wrap .i64 ((Int.tmod r0 (16 : Int)) + (16 : Int))) (16 : Int)) == (4 : Int)))) 36 (.B ((Int.tmod (IntKind.wrap .i64 ((Int.tmod r0 (16 : Int)) + (16 : Int))) (16 : Int)) == (4 : Int))))
def frP (i j : Nat) (p q r : Int) : Env := Tr.set (Tr.set (Tr.set (Tr.set (Tr.set (Tr.full .undef 133 133) 0 (.L .u64 i p 17179869184 4096 0)) 1 (.L .u64 j q 17179869184 4096 0)) 3 (.I .i64 r)) 6 (.ptr 0 0 0)) 8 (.B false)
theorem pre (at0 sp0 r0 x0 x1 x2 x3 x4 x5 x6 x7 x8 x9 x10 x11 x12 x13 x14 x15 x16 x17 : Int) (b0 b1 b2 b3 b4 : Bool) (K : V → Mem → Prop) (KX : Code → Env → Mem → (Ex → Env → Mem → Prop) → Prop) :
    cpre Tryz.prog C1 (fun _ => none) 0 1000 5 (bodyOf Tryz.prog 3) (Tr.puts 0 [.I .u64 at0, .I .u64 sp0, stS x0 x1 x2 x3 x4 x5 x6 x7 x8 x9 x10 x11 x12 x13 x14 x15 x16 x17 b0 b1 b2 b3 b4, .I .i64 r0] (Tr.full (.tup []) 133 133)) [] (kbody Tryz.prog 0 (fnOf Tryz.prog 3) K) KX =
    (bif ((IntKind.wrap .u64 ((IntKind.wrap .u64 (Int.tdiv (Int.tmod at0 (70368744177664 : Int)) (4096 : Int))) * (4096 : Int))) == (IntKind.wrap .u64 ((IntKind.wrap .u64 (Int.tdiv (Int.tmod sp0 (70368744177664 : Int)) (4096 : Int))) * (4096 : Int)))) then (K (.B true) []) else (bif ((Int.tmod (IntKind.wrap .i64 ((Int.tmod r0 (16 : Int)) + (16 : Int))) (16 : Int)) == (4 : Int)) then (K (.B true) []) else (KX (sub [true, true, true, true, true] (bodyOf Tryz.prog 3)) (frS at0 sp0 r0 x0 x1 x2 x3 x4 x5 x6 x7 x8 x9 x10 x11 x12 x13 x14 x15 x16 x17 b0 b1 b2 b3 b4) (memS x0 x1 x2 x3 x4 x5 x6 x7 x8 x9 x10 x11 x12 x13 x14 x15 x16 x17 b0 b1 b2 b3 b4) (kbody Tryz.prog 0 (fnOf Tryz.prog 3) K)))) := by kernel_rfl
theorem convPut [Pins] {ρ ρ' : Env} {v : V} {t : Nat} (h : Conv ρ ρ') (hv : ∀ (E : Wh) (cs : List Value), ERel E ρ cs → VRel E v (cs.getD t undef)) : Conv ρ (ρ'.set t v) := by
  intro E cs he
  have := ERel.set (hv E cs he) (h E cs he) t
  rwa [set_own] at this
theorem convSame [Pins] {ρ ρ' : Env} {v : V} {t : Nat} (h : Conv ρ ρ') (hv : ρ.get t = v) : Conv ρ (ρ'.set t v) :=
  convPut h fun E cs he => by have := he.get t undef; rwa [hv] at this
theorem convLin [Pins] {ρ ρ' : Env} {t : Nat} {k : IntKind} {i : Nat} {n q b c d : Int} (h : Conv ρ ρ') (hg : ρ.get t = .I k n) (hn : n = q * c + d) (hq : q = Pins.num i) (h0 : 0 ≤ q) (h1 : q < b) : Conv ρ (ρ'.set t (.L k i q b c d)) :=
  convPut h fun E cs he => by
    have hv := he.get t undef
    rw [hg] at hv
    simp only [VRel] at hv ⊢
    rw [← hn]
    exact ⟨hv.1, hv.2, hq, h0, h1⟩
theorem convUndef [Pins] {ρ : Env} {n : Nat} (h : ρ.has n = true) : Conv ρ (Tr.full .undef (n + 1) (n + 1)) := by
  intro E cs he
  refine ERel.full ?_
  rw [Tr.has_look] at h
  cases hl : ρ.look n with
  | none => rw [hl] at h; cases h
  | some v =>
    obtain ⟨c, hc, _⟩ := he n v hl
    have := (List.getElem?_eq_some_iff.1 hc).1
    omega
def tP (at0 : Int) : Int := IntKind.wrap .u64 ((IntKind.wrap .u64 (Int.tdiv (Int.tmod at0 70368744177664) 4096)) * 4096)
def tR (r0 : Int) : Int := Int.tmod (IntKind.wrap .i64 ((Int.tmod r0 16) + 16)) 16
theorem conv [Pins] {at0 sp0 r0 : Int} (x0 x1 x2 x3 x4 x5 x6 x7 x8 x9 x10 x11 x12 x13 x14 x15 x16 x17 : Int) (b0 b1 b2 b3 b4 : Bool) {i j : Nat} {p q r : Int} (hp : tP at0 = p * 4096) (hq : tP sp0 = q * 4096) (hr : tR r0 = r) (hi : p = Pins.num i) (hj : q = Pins.num j) (h0 : 0 ≤ p) (h1 : p < 17179869184) (h2 : 0 ≤ q) (h3 : q < 17179869184) :
    Conv (frS at0 sp0 r0 x0 x1 x2 x3 x4 x5 x6 x7 x8 x9 x10 x11 x12 x13 x14 x15 x16 x17 b0 b1 b2 b3 b4) (frP i j p q r) := by
  subst hr
  exact convSame (convSame (convSame (convLin (n := tP sp0) (convLin (n := tP at0) (convUndef (n := 132) (by kernel_rfl)) (by kernel_rfl) (by rw [hp]; omega) hi h0 h1) (by kernel_rfl) (by rw [hq]; omega) hj h2 h3) (by kernel_rfl)) (by kernel_rfl)) (by kernel_rfl)
theorem wu64 {x : Nat} (h : x < 2 ^ 64) : IntKind.wrap .u64 (x : Int) = (x : Int) := by
  simp [IntKind.wrap, IntKind.bits, IntKind.signed]; omega
theorem or_nat (x y : Nat) (hx : x < 2 ^ 64) (hy : y < 2 ^ 64) : ibits .or .u64 (x : Int) (y : Int) = ((x ||| y : Nat) : Int) := by
  show IntKind.wrap .u64 ((BitVec.ofInt 64 (x : Int) ||| BitVec.ofInt 64 (y : Int)).toNat : Int) = _
  rw [BitVec.ofInt_natCast, BitVec.ofInt_natCast, BitVec.toNat_or, BitVec.toNat_ofNat, BitVec.toNat_ofNat, Nat.mod_eq_of_lt hx, Nat.mod_eq_of_lt hy]
  exact wu64 (Nat.or_lt_two_pow hx hy)
theorem and_all (x : Nat) (hx : x < 2 ^ 64) : ibits .and .u64 (x : Int) 18446744073709551615 = (x : Int) := by
  show IntKind.wrap .u64 ((BitVec.ofInt 64 (x : Int) &&& BitVec.ofInt 64 ((18446744073709551615 : Nat) : Int)).toNat : Int) = _
  rw [BitVec.ofInt_natCast, BitVec.ofInt_natCast, BitVec.toNat_and, BitVec.toNat_ofNat, BitVec.toNat_ofNat, Nat.mod_eq_of_lt hx, Nat.mod_eq_of_lt (by decide), show 18446744073709551615 = 2 ^ 64 - 1 from rfl, Nat.and_two_pow_sub_one_eq_mod, Nat.mod_eq_of_lt hx]
  exact wu64 hx
theorem or_add (a b k : Nat) (ha : a < 2 ^ k) : a ||| (b * 2 ^ k) = a + b * 2 ^ k := by
  rw [Nat.or_comm, Nat.mul_comm, ← Nat.two_pow_add_eq_or_of_lt ha b, Nat.add_comm]
theorem or_byte {a b k : Nat} (hk : k ≤ 56) (ha : a < 2 ^ k) (hb : b < 256) : ibits .or .u64 (a : Int) (IntKind.wrap .u64 ((IntKind.wrap .u64 (b : Int)) * 2 ^ k)) = ((a + b * 2 ^ k : Nat) : Int) ∧ a + b * 2 ^ k < 2 ^ (k + 8) := by
  have hp : 0 < 2 ^ k := Nat.two_pow_pos k
  have h1 : b * 2 ^ k ≤ 255 * 2 ^ k := Nat.mul_le_mul_right _ (by omega)
  have h2 : a + b * 2 ^ k < 2 ^ (k + 8) := by rw [Nat.pow_add]; omega
  have h3 : 2 ^ (k + 8) ≤ 2 ^ 64 := Nat.pow_le_pow_right (by omega) (by omega)
  refine ⟨?_, h2⟩
  rw [wu64 (by omega)]
  have e : (b : Int) * 2 ^ k = ((b * 2 ^ k : Nat) : Int) := by simp
  rw [e, wu64 (by omega), or_nat _ _ (by omega) (by omega), or_add _ _ _ ha]
theorem byte_nat {U : Nat} (k : Nat) : IntKind.wrap .u8 (Int.fdiv (U : Int) (2 ^ k)) = ((U / 2 ^ k % 256 : Nat) : Int) := by
  have e : Int.fdiv (U : Int) (2 ^ k) = ((U / 2 ^ k : Nat) : Int) := by
    have : ((2 : Int) ^ k) = ((2 ^ k : Nat) : Int) := by simp
    rw [this, Int.fdiv_eq_ediv_of_nonneg _ (Int.natCast_nonneg _)]; simp
  rw [e]
  simp [IntKind.wrap, IntKind.bits, IntKind.signed]
theorem sum8 (U : Nat) (h : U < 18446744073709551616) : 0 + U / 2 ^ 0 % 256 * 2 ^ 0 + U / 2 ^ 8 % 256 * 2 ^ 8 + U / 2 ^ 16 % 256 * 2 ^ 16 + U / 2 ^ 24 % 256 * 2 ^ 24 + U / 2 ^ 32 % 256 * 2 ^ 32 + U / 2 ^ 40 % 256 * 2 ^ 40 + U / 2 ^ 48 % 256 * 2 ^ 48 + U / 2 ^ 56 % 256 * 2 ^ 56 = U := by
  omega
/-- The eight bytes of a number, put together again. -/
theorem bytes8 {x : Int} (hx : inR .u64 x = true) : (ibits .or .u64 (ibits .or .u64 (ibits .or .u64 (ibits .or .u64 (ibits .or .u64 (ibits .or .u64 (ibits .or .u64 (ibits .or .u64 (0 : Int) (IntKind.wrap .u64 ((IntKind.wrap .u64 (IntKind.wrap .u8 (Int.fdiv (ibits .and .u64 x (18446744073709551615 : Int)) (2 ^ 0)))) * 2 ^ 0))) (IntKind.wrap .u64 ((IntKind.wrap .u64 (IntKind.wrap .u8 (Int.fdiv (ibits .and .u64 x (18446744073709551615 : Int)) (2 ^ 8)))) * 2 ^ 8))) (IntKind.wrap .u64 ((IntKind.wrap .u64 (IntKind.wrap .u8 (Int.fdiv (ibits .and .u64 x (18446744073709551615 : Int)) (2 ^ 16)))) * 2 ^ 16))) (IntKind.wrap .u64 ((IntKind.wrap .u64 (IntKind.wrap .u8 (Int.fdiv (ibits .and .u64 x (18446744073709551615 : Int)) (2 ^ 24)))) * 2 ^ 24))) (IntKind.wrap .u64 ((IntKind.wrap .u64 (IntKind.wrap .u8 (Int.fdiv (ibits .and .u64 x (18446744073709551615 : Int)) (2 ^ 32)))) * 2 ^ 32))) (IntKind.wrap .u64 ((IntKind.wrap .u64 (IntKind.wrap .u8 (Int.fdiv (ibits .and .u64 x (18446744073709551615 : Int)) (2 ^ 40)))) * 2 ^ 40))) (IntKind.wrap .u64 ((IntKind.wrap .u64 (IntKind.wrap .u8 (Int.fdiv (ibits .and .u64 x (18446744073709551615 : Int)) (2 ^ 48)))) * 2 ^ 48))) (IntKind.wrap .u64 ((IntKind.wrap .u64 (IntKind.wrap .u8 (Int.fdiv (ibits .and .u64 x (18446744073709551615 : Int)) (2 ^ 56)))) * 2 ^ 56))) = x := by
  obtain ⟨h0, h1⟩ : 0 ≤ x ∧ x ≤ 18446744073709551615 := by simpa [inR, IntKind.min, IntKind.max, IntKind.bits, IntKind.signed] using hx
  obtain ⟨U, rfl⟩ : ∃ U : Nat, x = (U : Int) := ⟨x.toNat, by omega⟩
  have hU : U < 18446744073709551616 := by omega
  simp only [and_all U hU, byte_nat]
  have hb : ∀ k, U / 2 ^ k % 256 < 256 := fun k => Nat.mod_lt _ (by decide)
  obtain ⟨e0, l0⟩ := or_byte (a := 0) (k := 0) (by omega) (by omega) (hb 0)
  obtain ⟨e1, l1⟩ := or_byte (k := 8) (by omega) l0 (hb 8)
  obtain ⟨e2, l2⟩ := or_byte (k := 16) (by omega) l1 (hb 16)
  obtain ⟨e3, l3⟩ := or_byte (k := 24) (by omega) l2 (hb 24)
  obtain ⟨e4, l4⟩ := or_byte (k := 32) (by omega) l3 (hb 32)
  obtain ⟨e5, l5⟩ := or_byte (k := 40) (by omega) l4 (hb 40)
  obtain ⟨e6, l6⟩ := or_byte (k := 48) (by omega) l5 (hb 48)
  obtain ⟨e7, l7⟩ := or_byte (k := 56) (by omega) l6 (hb 56)
  have z : (0 : Int) = ((0 : Nat) : Int) := rfl
  rw [z, e0, e1, e2, e3, e4, e5, e6, e7, sum8 U hU]
theorem n1 {p q : Int} (h0 : 0 ≤ q) (h1 : q < p) (h2 : p < 17179869184) : decide ((IntKind.wrap .u64 ((p * (1 : Int) + (0 : Int)) - (q * (1 : Int) + (0 : Int)))) < (1 : Int)) = false := by
  rw [wrap_in (by simp [IntKind.min, IntKind.signed]; omega) (by simp [IntKind.max, IntKind.signed, IntKind.bits]; omega)]
  exact decide_eq_false (by omega)
theorem n2 {p q : Int} (h0 : 0 ≤ q) (h1 : q < p) (h2 : p < 17179869184) : decide ((IntKind.wrap .u64 ((p * (4096 : Int) + (0 : Int)) - (q * (4096 : Int) + (0 : Int)))) < (4096 : Int)) = false := by
  rw [wrap_in (by simp [IntKind.min, IntKind.signed]; omega) (by simp [IntKind.max, IntKind.signed, IntKind.bits]; omega)]
  exact decide_eq_false (by omega)
/-- Pages' numbers. -/
theorem tP_page {at0 : Int} (h : inR .u64 at0 = true) : ∃ p : Int, tP at0 = p * 4096 ∧ 0 ≤ p ∧ p < 17179869184 := by
  obtain ⟨h0, h1⟩ : 0 ≤ at0 ∧ at0 ≤ 18446744073709551615 := by simpa [inR, IntKind.min, IntKind.max, IntKind.bits, IntKind.signed] using h
  unfold tP
  rw [Int.tmod_eq_emod_of_nonneg h0, Int.tdiv_eq_ediv_of_nonneg (by omega)]
  rw [wrap_in (n := at0 % 70368744177664 / 4096) (by simp [IntKind.min, IntKind.signed]; omega) (by simp [IntKind.max, IntKind.signed, IntKind.bits]; omega)]
  rw [wrap_in (by simp [IntKind.min, IntKind.signed]; omega) (by simp [IntKind.max, IntKind.signed, IntKind.bits]; omega)]
  exact ⟨at0 % 70368744177664 / 4096, rfl, by omega, by omega⟩
theorem tR_cases (r0 : Int) : ∃ r : Nat, r < 16 ∧ tR r0 = (r : Int) := by
  unfold tR
  have a1 : Int.tmod r0 16 < 16 := Int.tmod_lt_of_pos _ (by omega)
  have a2 : -16 < Int.tmod r0 16 := Int.lt_tmod_of_pos _ (by omega)
  rw [wrap_in (k := .i64) (n := Int.tmod r0 16 + 16) (by simp [IntKind.min, IntKind.signed, IntKind.bits]; omega) (by simp [IntKind.max, IntKind.signed, IntKind.bits]; omega)]
  rw [Int.tmod_eq_emod_of_nonneg (by omega)]
  exact ⟨((Int.tmod r0 16 + 16) % 16).toNat, by omega, by omega⟩
end Go.Proofs.YtalikdlmmhblkaaGreat.mp
