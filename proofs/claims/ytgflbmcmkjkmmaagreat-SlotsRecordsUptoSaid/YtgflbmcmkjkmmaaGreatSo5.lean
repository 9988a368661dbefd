import Derived.Test.YtgflbmcmkjkmmaaGreatSo4
set_option linter.unusedVariables false
set_option linter.unusedSimpArgs false
set_option maxHeartbeats 4000000
set_option maxRecDepth 100000
namespace Go.Proofs.YtgflbmcmkjkmmaaGreat.so
open Go Go.Ab Go.So
theorem wu64 {x : Nat} (h : x < 2 ^ 64) : IntKind.wrap .u64 (x : Int) = (x : Int) := by
  simp [IntKind.wrap, IntKind.bits, IntKind.signed]; omega
theorem or_nat (x y : Nat) (hx : x < 2 ^ 64) (hy : y < 2 ^ 64) : ibits .or .u64 (x : Int) (y : Int) = ((x ||| y : Nat) : Int) := by
  show IntKind.wrap .u64 ((BitVec.ofInt 64 (x : Int) ||| BitVec.ofInt 64 (y : Int)).toNat : Int) = _
  rw [BitVec.ofInt_natCast, BitVec.ofInt_natCast, BitVec.toNat_or, BitVec.toNat_ofNat, BitVec.toNat_ofNat, Nat.mod_eq_of_lt hx, Nat.mod_eq_of_lt hy]
  exact wu64 (Nat.or_lt_two_pow hx hy)
theorem or_add (a b k : Nat) (ha : a < 2 ^ k) : a ||| (b * 2 ^ k) = a + b * 2 ^ k := by
  rw [Nat.or_comm, Nat.mul_comm, ← Nat.two_pow_add_eq_or_of_lt ha b, Nat.add_comm]
/-- One byte more. -/
theorem or_byte {a b k : Nat} (hk : k ≤ 56) (ha : a < 2 ^ k) (hb : b < 256) : ibits .or .u64 (a : Int) (IntKind.wrap .u64 ((IntKind.wrap .u64 (b : Int)) * 2 ^ k)) = ((a + b * 2 ^ k : Nat) : Int) ∧ a + b * 2 ^ k < 2 ^ (k + 8) := by
  have hp : 0 < 2 ^ k := Nat.two_pow_pos k
  have h1 : b * 2 ^ k ≤ 255 * 2 ^ k := Nat.mul_le_mul_right _ (by omega)
  have h2 : a + b * 2 ^ k < 2 ^ (k + 8) := by rw [Nat.pow_add]; omega
  have h3 : 2 ^ (k + 8) ≤ 2 ^ 64 := Nat.pow_le_pow_right (by omega) (by omega)
  refine ⟨?_, h2⟩
  rw [wu64 (by omega)]
  have e : (b : Int) * 2 ^ k = ((b * 2 ^ k : Nat) : Int) := by simp
  rw [e, wu64 (by omega), or_nat _ _ (by omega) (by omega), or_add _ _ _ ha]
theorem wi64 {x : Nat} (h : x < 2 ^ 63) : IntKind.wrap .i64 (x : Int) = (x : Int) := by
  simp [IntKind.wrap, IntKind.bits, IntKind.signed]; omega
theorem byte_nat {U : Nat} (k : Nat) : IntKind.wrap .u8 (Int.fdiv (U : Int) (2 ^ k)) = ((U / 2 ^ k % 256 : Nat) : Int) := by
  have e : Int.fdiv (U : Int) (2 ^ k) = ((U / 2 ^ k : Nat) : Int) := by
    have : ((2 : Int) ^ k) = ((2 ^ k : Nat) : Int) := by simp
    rw [this, Int.fdiv_eq_ediv_of_nonneg _ (Int.natCast_nonneg _)]; simp
  rw [e]
  simp [IntKind.wrap, IntKind.bits, IntKind.signed]
theorem wi64n {x : Nat} (h : 9223372036854775808 ≤ x) (h2 : x < 18446744073709551616) : IntKind.wrap .i64 (x : Int) = (x : Int) - 18446744073709551616 := by
  simp [IntKind.wrap, IntKind.bits, IntKind.signed]; omega
theorem sgn {X : Nat} {o : Int} (h : X < 4294967296) (ho : (X < 2147483648 ∧ o = X) ∨ (2147483648 ≤ X ∧ o = X - 4294967296)) : Int.fdiv (IntKind.wrap .i64 (IntKind.wrap .u64 ((X : Int) * 2 ^ 32))) (2 ^ 32) = o := by
  have e : (X : Int) * 2 ^ 32 = ((X * 4294967296 : Nat) : Int) := by simp
  have e2 : (2 : Int) ^ 32 = 4294967296 := rfl
  rw [e, wu64 (by omega), e2, Int.fdiv_eq_ediv_of_nonneg _ (by decide)]
  rcases ho with ⟨h1, rfl⟩ | ⟨h1, rfl⟩
  · rw [wi64 (by omega)]; omega
  · rw [wi64n (by omega) (by omega)]; omega
/-! ### Numbers of eight bytes -/
def b8 (o : Int) (i : Nat) : Int := IntKind.wrap .u8 (Int.fdiv (IntKind.wrap .u64 o) (2 ^ i))
def enc8 (n : Int) : List Int := [b8 n 0, b8 n 8, b8 n 16, b8 n 24, b8 n 32, b8 n 40, b8 n 48, b8 n 56]
theorem sum8 (U : Nat) (h : U < 18446744073709551616) : 0 + U / 2 ^ 0 % 256 * 2 ^ 0 + U / 2 ^ 8 % 256 * 2 ^ 8 + U / 2 ^ 16 % 256 * 2 ^ 16 + U / 2 ^ 24 % 256 * 2 ^ 24 + U / 2 ^ 32 % 256 * 2 ^ 32 + U / 2 ^ 40 % 256 * 2 ^ 40 + U / 2 ^ 48 % 256 * 2 ^ 48 + U / 2 ^ 56 % 256 * 2 ^ 56 = U := by
  omega
def num8 (p0 p1 p2 p3 p4 p5 p6 p7 : Int) : Int := (Int.fdiv (IntKind.wrap .i64 (IntKind.wrap .u64 ((ibits .or .u64 (ibits .or .u64 (ibits .or .u64 (ibits .or .u64 (ibits .or .u64 (ibits .or .u64 (ibits .or .u64 (ibits .or .u64 (0 : Int) (IntKind.wrap .u64 ((IntKind.wrap .u64 p0) * 2 ^ 0))) (IntKind.wrap .u64 ((IntKind.wrap .u64 p1) * 2 ^ 8))) (IntKind.wrap .u64 ((IntKind.wrap .u64 p2) * 2 ^ 16))) (IntKind.wrap .u64 ((IntKind.wrap .u64 p3) * 2 ^ 24))) (IntKind.wrap .u64 ((IntKind.wrap .u64 p4) * 2 ^ 32))) (IntKind.wrap .u64 ((IntKind.wrap .u64 p5) * 2 ^ 40))) (IntKind.wrap .u64 ((IntKind.wrap .u64 p6) * 2 ^ 48))) (IntKind.wrap .u64 ((IntKind.wrap .u64 p7) * 2 ^ 56))) * 2 ^ 0))) (2 ^ 0))
theorem num8_ok {n : Int} (h1 : -9223372036854775808 ≤ n) (h2 : n ≤ 9223372036854775807) : num8 (b8 n 0) (b8 n 8) (b8 n 16) (b8 n 24) (b8 n 32) (b8 n 40) (b8 n 48) (b8 n 56) = n := by
  obtain ⟨U, hU, hlt, hm⟩ : ∃ U : Nat, IntKind.wrap .u64 n = (U : Int) ∧ U < 2 ^ 64 ∧ ((0 ≤ n ∧ (U : Int) = n) ∨ (n < 0 ∧ (U : Int) = n + 2 ^ 64)) := by
    refine ⟨(IntKind.wrap .u64 n).toNat, ?_, ?_, ?_⟩ <;> simp [IntKind.wrap, IntKind.bits, IntKind.signed] <;> omega
  unfold num8 b8
  rw [hU, byte_nat, byte_nat, byte_nat, byte_nat, byte_nat, byte_nat, byte_nat, byte_nat]
  have hb : ∀ k, U / 2 ^ k % 256 < 256 := fun k => Nat.mod_lt _ (by omega)
  obtain ⟨e0, l0⟩ := or_byte (a := 0) (k := 0) (by omega) (by omega) (hb 0)
  obtain ⟨e1, l1⟩ := or_byte (k := 8) (by omega) (show _ < 2 ^ 8 from l0) (hb 8)
  obtain ⟨e2, l2⟩ := or_byte (k := 16) (by omega) (show _ < 2 ^ 16 from l1) (hb 16)
  obtain ⟨e3, l3⟩ := or_byte (k := 24) (by omega) (show _ < 2 ^ 24 from l2) (hb 24)
  obtain ⟨e4, l4⟩ := or_byte (k := 32) (by omega) (show _ < 2 ^ 32 from l3) (hb 32)
  obtain ⟨e5, l5⟩ := or_byte (k := 40) (by omega) (show _ < 2 ^ 40 from l4) (hb 40)
  obtain ⟨e6, l6⟩ := or_byte (k := 48) (by omega) (show _ < 2 ^ 48 from l5) (hb 48)
  obtain ⟨e7, l7⟩ := or_byte (k := 56) (by omega) (show _ < 2 ^ 56 from l6) (hb 56)
  have z : ((0 : Nat) : Int) = (0 : Int) := rfl
  rw [z] at e0
  rw [e0, e1, e2, e3, e4, e5, e6, e7, sum8 U hlt]
  have e : (U : Int) * 2 ^ 0 = (U : Int) := by simp
  rw [e, wu64 hlt]
  have f : ∀ z : Int, Int.fdiv z (2 ^ 0) = z := fun z => by rw [Int.fdiv_eq_ediv_of_nonneg _ (by decide)]; simp
  rw [f]
  rcases hm with ⟨q1, q2⟩ | ⟨q1, q2⟩
  · rw [q2]; exact w64 h1 h2
  · have hlt' : U < 18446744073709551616 := hlt
    have q2' : (U : Int) = n + 18446744073709551616 := q2
    rw [wi64n (by omega) hlt']; omega
theorem at28 : Tryz.prog.funcs[28]? = some (fnOf Tryz.prog 28) := by kernel_rfl
theorem put_run (n : Int) (K : V → Mem → Prop) : cbody Tryz.prog C0 (fun _ => none) 1000 (fnOf Tryz.prog 28) [.I .i64 n, .I .i64 8] [] K = K (.tup [.sl 0 0 none none, .I .i64 0]) [⟨[.ints .u8 (enc8 n)], 5, false, true⟩] := by kernel_rfl
def P28 : Prim := fun args m K =>
  match args, m with
  | [.I .i64 n, .I .i64 e], [] => (match e == 8 with | true => K (.tup [.sl 0 0 none none, .I .i64 0]) [⟨[.ints .u8 (enc8 n)], 5, false, true⟩] | false => False)
  | _, _ => False
theorem P28_ok : PrimOk Tryz.prog 28 P28 := by
  intro args m K E w cargs hS ha h
  unfold P28 at h
  split at h
  · rename_i n e
    split at h
    · rename_i he
      obtain rfl : e = 8 := by simpa using he
      exact cbody_use named C0_ok at28 (l := 0) rfl (LoopsOk.none _ _) (put_run n K) hS ha h
    · cases h
  · cases h
def getS (bs : List Int) (at' : Int) (k : Int → Prop) : Prop := ∃ (pre post : List Int) (n : Int), bs = pre ++ (enc8 n ++ post) ∧ at' = pre.length ∧ -9223372036854775808 ≤ n ∧ n ≤ 9223372036854775807 ∧ small bs.length ∧ k n
abbrev Y36 : Type := Int → List Int → (Prop) → (Int → Prop) → Prop
set_option maxHeartbeats 4000000 in
set_option maxRecDepth 100000 in
def F36  (pa : Int) (bs : List Int) (k1 : Prop) (k2 : Int → Prop) : Prop :=
  (bif (decide (pa < (0 : Int))) then (k1) else (bif (decide (pa > (IntKind.wrap .i64 (((((List.length bs) - (0 : Nat)) : Nat) : Int) - (8 : Int))))) then (k1) else (bif ((decide ((0 : Int) ≤ (IntKind.wrap .i64 (pa + (0 : Int))))) && (decide ((IntKind.wrap .i64 (pa + (0 : Int))) < ((((List.length bs) - (0 : Nat)) : Nat) : Int)))) then (bif ((decide ((0 : Int) ≤ (IntKind.wrap .i64 (pa + (1 : Int))))) && (decide ((IntKind.wrap .i64 (pa + (1 : Int))) < ((((List.length bs) - (0 : Nat)) : Nat) : Int)))) then (bif ((decide ((0 : Int) ≤ (IntKind.wrap .i64 (pa + (2 : Int))))) && (decide ((IntKind.wrap .i64 (pa + (2 : Int))) < ((((List.length bs) - (0 : Nat)) : Nat) : Int)))) then (bif ((decide ((0 : Int) ≤ (IntKind.wrap .i64 (pa + (3 : Int))))) && (decide ((IntKind.wrap .i64 (pa + (3 : Int))) < ((((List.length bs) - (0 : Nat)) : Nat) : Int)))) then (bif ((decide ((0 : Int) ≤ (IntKind.wrap .i64 (pa + (4 : Int))))) && (decide ((IntKind.wrap .i64 (pa + (4 : Int))) < ((((List.length bs) - (0 : Nat)) : Nat) : Int)))) then (bif ((decide ((0 : Int) ≤ (IntKind.wrap .i64 (pa + (5 : Int))))) && (decide ((IntKind.wrap .i64 (pa + (5 : Int))) < ((((List.length bs) - (0 : Nat)) : Nat) : Int)))) then (bif ((decide ((0 : Int) ≤ (IntKind.wrap .i64 (pa + (6 : Int))))) && (decide ((IntKind.wrap .i64 (pa + (6 : Int))) < ((((List.length bs) - (0 : Nat)) : Nat) : Int)))) then (bif ((decide ((0 : Int) ≤ (IntKind.wrap .i64 (pa + (7 : Int))))) && (decide ((IntKind.wrap .i64 (pa + (7 : Int))) < ((((List.length bs) - (0 : Nat)) : Nat) : Int)))) then (k2 (Int.fdiv (IntKind.wrap .i64 (IntKind.wrap .u64 ((ibits .or .u64 (ibits .or .u64 (ibits .or .u64 (ibits .or .u64 (ibits .or .u64 (ibits .or .u64 (ibits .or .u64 (ibits .or .u64 (0 : Int) (IntKind.wrap .u64 ((IntKind.wrap .u64 (List.getD bs (Int.toNat (IntKind.wrap .i64 (pa + (0 : Int)))) (0 : Int))) * 2 ^ 0))) (IntKind.wrap .u64 ((IntKind.wrap .u64 (List.getD bs (Int.toNat (IntKind.wrap .i64 (pa + (1 : Int)))) (0 : Int))) * 2 ^ 8))) (IntKind.wrap .u64 ((IntKind.wrap .u64 (List.getD bs (Int.toNat (IntKind.wrap .i64 (pa + (2 : Int)))) (0 : Int))) * 2 ^ 16))) (IntKind.wrap .u64 ((IntKind.wrap .u64 (List.getD bs (Int.toNat (IntKind.wrap .i64 (pa + (3 : Int)))) (0 : Int))) * 2 ^ 24))) (IntKind.wrap .u64 ((IntKind.wrap .u64 (List.getD bs (Int.toNat (IntKind.wrap .i64 (pa + (4 : Int)))) (0 : Int))) * 2 ^ 32))) (IntKind.wrap .u64 ((IntKind.wrap .u64 (List.getD bs (Int.toNat (IntKind.wrap .i64 (pa + (5 : Int)))) (0 : Int))) * 2 ^ 40))) (IntKind.wrap .u64 ((IntKind.wrap .u64 (List.getD bs (Int.toNat (IntKind.wrap .i64 (pa + (6 : Int)))) (0 : Int))) * 2 ^ 48))) (IntKind.wrap .u64 ((IntKind.wrap .u64 (List.getD bs (Int.toNat (IntKind.wrap .i64 (pa + (7 : Int)))) (0 : Int))) * 2 ^ 56))) * 2 ^ 0))) (2 ^ 0))) else False) else False) else False) else False) else False) else False) else False) else False)))
theorem F36_ok  (pa : Int) (bs : List Int) (K : V → Mem → Prop) : cbody Tryz.prog C0 (fun _ => none) 1000 (fnOf Tryz.prog 36) [(.sl 0 (0 : Nat) (none : Option Nat) (none : Option Nat)), (.I .i64 pa), (.I .i64 (8 : Int)), (.B true)] [⟨[.ints .u8 bs], 5, false, false⟩] K =
    F36  pa bs (K (.tup [(.I .i64 (0 : Int)), (.I .i64 (20 : Int))]) [⟨[.ints .u8 bs], 5, false, false⟩]) (fun (u0 : Int) => K (.tup [(.I .i64 u0), (.I .i64 (0 : Int))]) [⟨[.ints .u8 bs], 5, false, false⟩]) := by kernel_rfl
theorem at36 : Tryz.prog.funcs[36]? = some (fnOf Tryz.prog 36) := by kernel_rfl
abbrev Y36r : Type := Int → List Int → (Prop) → (Int → Prop) → Prop
set_option maxHeartbeats 4000000 in
set_option maxRecDepth 100000 in
def F36r  (pa : Int) (bs : List Int) (k1 : Prop) (k2 : Int → Prop) : Prop :=
  (bif (decide (pa < (0 : Int))) then (k1) else (bif (decide (pa > (IntKind.wrap .i64 (((((List.length bs) - (0 : Nat)) : Nat) : Int) - (8 : Int))))) then (k1) else (bif ((decide ((0 : Int) ≤ (IntKind.wrap .i64 (pa + (0 : Int))))) && (decide ((IntKind.wrap .i64 (pa + (0 : Int))) < ((((List.length bs) - (0 : Nat)) : Nat) : Int)))) then (bif ((decide ((0 : Int) ≤ (IntKind.wrap .i64 (pa + (1 : Int))))) && (decide ((IntKind.wrap .i64 (pa + (1 : Int))) < ((((List.length bs) - (0 : Nat)) : Nat) : Int)))) then (bif ((decide ((0 : Int) ≤ (IntKind.wrap .i64 (pa + (2 : Int))))) && (decide ((IntKind.wrap .i64 (pa + (2 : Int))) < ((((List.length bs) - (0 : Nat)) : Nat) : Int)))) then (bif ((decide ((0 : Int) ≤ (IntKind.wrap .i64 (pa + (3 : Int))))) && (decide ((IntKind.wrap .i64 (pa + (3 : Int))) < ((((List.length bs) - (0 : Nat)) : Nat) : Int)))) then (bif ((decide ((0 : Int) ≤ (IntKind.wrap .i64 (pa + (4 : Int))))) && (decide ((IntKind.wrap .i64 (pa + (4 : Int))) < ((((List.length bs) - (0 : Nat)) : Nat) : Int)))) then (bif ((decide ((0 : Int) ≤ (IntKind.wrap .i64 (pa + (5 : Int))))) && (decide ((IntKind.wrap .i64 (pa + (5 : Int))) < ((((List.length bs) - (0 : Nat)) : Nat) : Int)))) then (bif ((decide ((0 : Int) ≤ (IntKind.wrap .i64 (pa + (6 : Int))))) && (decide ((IntKind.wrap .i64 (pa + (6 : Int))) < ((((List.length bs) - (0 : Nat)) : Nat) : Int)))) then (bif ((decide ((0 : Int) ≤ (IntKind.wrap .i64 (pa + (7 : Int))))) && (decide ((IntKind.wrap .i64 (pa + (7 : Int))) < ((((List.length bs) - (0 : Nat)) : Nat) : Int)))) then (k2 (Int.fdiv (IntKind.wrap .i64 (IntKind.wrap .u64 ((ibits .or .u64 (ibits .or .u64 (ibits .or .u64 (ibits .or .u64 (ibits .or .u64 (ibits .or .u64 (ibits .or .u64 (ibits .or .u64 (0 : Int) (IntKind.wrap .u64 ((IntKind.wrap .u64 (List.getD bs (Int.toNat (IntKind.wrap .i64 (pa + (0 : Int)))) (0 : Int))) * 2 ^ 0))) (IntKind.wrap .u64 ((IntKind.wrap .u64 (List.getD bs (Int.toNat (IntKind.wrap .i64 (pa + (1 : Int)))) (0 : Int))) * 2 ^ 8))) (IntKind.wrap .u64 ((IntKind.wrap .u64 (List.getD bs (Int.toNat (IntKind.wrap .i64 (pa + (2 : Int)))) (0 : Int))) * 2 ^ 16))) (IntKind.wrap .u64 ((IntKind.wrap .u64 (List.getD bs (Int.toNat (IntKind.wrap .i64 (pa + (3 : Int)))) (0 : Int))) * 2 ^ 24))) (IntKind.wrap .u64 ((IntKind.wrap .u64 (List.getD bs (Int.toNat (IntKind.wrap .i64 (pa + (4 : Int)))) (0 : Int))) * 2 ^ 32))) (IntKind.wrap .u64 ((IntKind.wrap .u64 (List.getD bs (Int.toNat (IntKind.wrap .i64 (pa + (5 : Int)))) (0 : Int))) * 2 ^ 40))) (IntKind.wrap .u64 ((IntKind.wrap .u64 (List.getD bs (Int.toNat (IntKind.wrap .i64 (pa + (6 : Int)))) (0 : Int))) * 2 ^ 48))) (IntKind.wrap .u64 ((IntKind.wrap .u64 (List.getD bs (Int.toNat (IntKind.wrap .i64 (pa + (7 : Int)))) (0 : Int))) * 2 ^ 56))) * 2 ^ 0))) (2 ^ 0))) else False) else False) else False) else False) else False) else False) else False) else False)))
theorem F36r_ok  (pa : Int) (bs : List Int) (K : V → Mem → Prop) : cbody Tryz.prog C0 (fun _ => none) 1000 (fnOf Tryz.prog 36) [(.sl 0 (0 : Nat) (none : Option Nat) (none : Option Nat)), (.I .i64 pa), (.I .i64 (8 : Int)), (.B true)] [⟨[.ints .u8 bs], 5, true, false⟩] K =
    F36r  pa bs (K (.tup [(.I .i64 (0 : Int)), (.I .i64 (20 : Int))]) [⟨[.ints .u8 bs], 5, true, false⟩]) (fun (u0 : Int) => K (.tup [(.I .i64 u0), (.I .i64 (0 : Int))]) [⟨[.ints .u8 bs], 5, true, false⟩]) := by kernel_rfl
theorem inbI {L : List Int} {i : Nat} (h : i < L.length) : (decide ((0 : Int) ≤ (i : Int)) && decide ((i : Int) < (((List.length L - (0 : Nat) : Nat)) : Int))) = true := by
  simp; omega
theorem h36 {bs : List Int} {at' : Int} {k : Int → Prop} {e : Prop} (h : getS bs at' k) : F36 at' bs e k := by
  obtain ⟨pre, post, n, rfl, rfl, h1, h2, hs, hk⟩ := h
  have hl : (pre ++ (enc8 n ++ post)).length = pre.length + 8 + post.length := by simp [enc8]; omega
  have hs' : pre.length + 8 + post.length ≤ 1152921504606846976 := by rw [← hl]; exact hs
  have ei : ∀ i : Nat, i < 8 → IntKind.wrap .i64 (((pre.length : Nat) : Int) + (i : Int)) = ((pre.length + i : Nat) : Int) := fun i hi => by rw [w64 (by omega) (by omega)]; omega
  have e0 := ei 0 (by omega)
  have e1 := ei 1 (by omega)
  have e2 := ei 2 (by omega)
  have e3 := ei 3 (by omega)
  have e4 := ei 4 (by omega)
  have e5 := ei 5 (by omega)
  have e6 := ei 6 (by omega)
  have e7 := ei 7 (by omega)
  have g : ∀ i : Nat, i < 8 → List.getD (pre ++ (enc8 n ++ post)) (pre.length + i) 0 = (enc8 n).getD i 0 := fun i hi => by
    simp only [List.getD_eq_getElem?_getD]
    rw [List.getElem?_append_right (by omega), Nat.add_sub_cancel_left, List.getElem?_append_left (by simp [enc8]; omega)]
  unfold F36
  rw [w64 (z := (((List.length (pre ++ (enc8 n ++ post)) - (0 : Nat) : Nat)) : Int) - 8) (by omega) (by omega)]
  rw [decide_eq_false (by omega : ¬ ((pre.length : Nat) : Int) < 0), decide_eq_false (by omega : ¬ ((pre.length : Nat) : Int) > (((List.length (pre ++ (enc8 n ++ post)) - (0 : Nat) : Nat)) : Int) - 8)]
  simp only [Int.natCast_zero, Int.natCast_one, Int.cast_ofNat_Int] at e0 e1 e2 e3 e4 e5 e6 e7
  rw [e0, e1, e2, e3, e4, e5, e6, e7, inbI (by omega), inbI (by omega), inbI (by omega), inbI (by omega), inbI (by omega), inbI (by omega), inbI (by omega), inbI (by omega)]
  simp only [Int.toNat_natCast]
  rw [g 0 (by omega), g 1 (by omega), g 2 (by omega), g 3 (by omega), g 4 (by omega), g 5 (by omega), g 6 (by omega), g 7 (by omega)]
  simp only [cond_true, cond_false]
  have hn := num8_ok h1 h2
  unfold num8 at hn
  show k _
  refine Eq.mpr (congrArg k ?_) hk
  exact hn
theorem h36r {bs : List Int} {at' : Int} {k : Int → Prop} {e : Prop} (h : getS bs at' k) : F36r at' bs e k := h36 h
def P36 : Prim := fun args m K =>
  match args, m with
  | [.sl 0 0 none none, .I .i64 a, .I .i64 e, .B true], [⟨[.ints .u8 bs], et, ro, false⟩] =>
    (match e == 8 && Nat.beq et 5 with | true => getS bs a (fun n => K (.tup [.I .i64 n, .I .i64 0]) [⟨[.ints .u8 bs], 5, ro, false⟩]) | false => False)
  | _, _ => False
theorem P36_ok : PrimOk Tryz.prog 36 P36 := by
  intro args m K E w cargs hS ha h
  unfold P36 at h
  split at h
  · rename_i a e bs et ro
    split at h
    · rename_i hc
      simp only [Bool.and_eq_true, beq_iff_eq] at hc
      obtain ⟨rfl, h5⟩ := hc
      obtain rfl := Nat.eq_of_beq_eq_true h5
      cases ro with
      | false => exact cbody_use named C0_ok at36 (l := 1) rfl (LoopsOk.none _ _) (F36_ok a bs K) hS ha (h36 h)
      | true => exact cbody_use named C0_ok at36 (l := 1) rfl (LoopsOk.none _ _) (F36r_ok a bs K) hS ha (h36r h)
    · cases h
  · cases h
end Go.Proofs.YtgflbmcmkjkmmaaGreat.so
