import Derived.Test.YtnndiicpiolddaaTls2
set_option linter.unusedVariables false
set_option linter.unusedSimpArgs false
namespace Go.Proofs.Ytnndiicpiolddaa.tls
open Go Go.Ab
theorem wid {x : Int} (h1 : -9223372036854775808 ≤ x) (h2 : x ≤ 9223372036854775807) : IntKind.wrap .i64 x = x := by
  simp [IntKind.wrap, IntKind.bits, IntKind.signed]; omega
theorem wlow {x : Int} (h1 : -18446744073709551616 ≤ x) (h2 : x < -9223372036854775808) : IntKind.wrap .i64 x = x + 18446744073709551616 := by
  simp [IntKind.wrap, IntKind.bits, IntKind.signed]; omega
theorem dt {p : Prop} [inst : Decidable p] (h : p) : decide p = true := decide_eq_true h
theorem df {p : Prop} [inst : Decidable p] (h : ¬ p) : decide p = false := decide_eq_false h
theorem condNot {α : Type} (b : Bool) (x y : α) : cond (!b) x y = cond b y x := by cases b <;> rfl
theorem condAnd {α : Type} (a b : Bool) (x y : α) : cond (a && b) x y = cond a (cond b x y) y := by cases a <;> rfl
theorem t_0 (q : Nat) : Int.toNat ((q : Int) + 0) = q := by omega
theorem t_1 (q : Nat) : Int.toNat ((q : Int) + 1) = q + 1 := by omega
theorem t_2 (q : Nat) : Int.toNat ((q : Int) + 2) = q + 2 := by omega
theorem t_3 (q : Nat) : Int.toNat ((q : Int) + 3) = q + 3 := by omega
theorem t_4 (q : Nat) : Int.toNat ((q : Int) + 4) = q + 4 := by omega
theorem t_5 (q : Nat) : Int.toNat ((q : Int) + 5) = q + 5 := by omega
theorem t_6 (q : Nat) : Int.toNat ((q : Int) + 6) = q + 6 := by omega
theorem t_7 (q : Nat) : Int.toNat ((q : Int) + 7) = q + 7 := by omega
theorem t_8 (q : Nat) : Int.toNat ((q : Int) + 8) = q + 8 := by omega
theorem t_9 (q : Nat) : Int.toNat ((q : Int) + 9) = q + 9 := by omega
theorem t_10 (q : Nat) : Int.toNat ((q : Int) + 10) = q + 10 := by omega
theorem t_11 (q : Nat) : Int.toNat ((q : Int) + 11) = q + 11 := by omega
theorem t_12 (q : Nat) : Int.toNat ((q : Int) + 12) = q + 12 := by omega
theorem t_13 (q : Nat) : Int.toNat ((q : Int) + 13) = q + 13 := by omega
theorem t_14 (q : Nat) : Int.toNat ((q : Int) + 14) = q + 14 := by omega
theorem t_15 (q : Nat) : Int.toNat ((q : Int) + 15) = q + 15 := by omega
theorem t_16 (q : Nat) : Int.toNat ((q : Int) + 16) = q + 16 := by omega
def m16 (xs : List Int) (p : Nat) : Bool := xs.getD p 0 == 102 && (xs.getD (p + 1) 0 == 72 && (xs.getD (p + 2) 0 == 141 && (xs.getD (p + 3) 0 == 61 && (xs.getD (p + 8) 0 == 102 && (xs.getD (p + 9) 0 == 102 && (xs.getD (p + 10) 0 == 72 && (xs.getD (p + 11) 0 == 232)))))))
def m12 (xs : List Int) (p : Nat) : Bool := xs.getD p 0 == 72 && (xs.getD (p + 1) 0 == 141 && (xs.getD (p + 2) 0 == 61 && (xs.getD (p + 7) 0 == 232)))
def m7 (a b : Int) (xs : List Int) (p : Nat) : Bool := xs.getD p 0 == a && (xs.getD (p + 1) 0 == 139 && xs.getD (p + 2) 0 == b)
theorem g48_1 {xs : List Int} {p : Int} {k1 k2 : Prop} (hx : xs.length ≤ 2000000) (p1 : -9223372036854775808 ≤ p) (p2 : p ≤ 9223372036854775807) :
    ((0 ≤ p ∧ p + 16 ≤ xs.length) → m16 xs p.toNat = true → k2) → (¬ (0 ≤ p ∧ p + 16 ≤ xs.length) → k1) → (m16 xs p.toNat = false → k1) → G48_1 p xs k1 k2 := by
  intro hk2 hk1 hk1'
  unfold G48_1 F48_1
  by_cases h0 : p < 0
  · simp only [dt h0, cond_true]; exact hk1 (by omega)
  by_cases h1 : p > ((xs.length - 0 : Nat) : Int)
  · simp only [df h0, cond_false, dt h1, cond_true]; exact hk1 (by omega)
  by_cases h2 : p + 16 ≤ xs.length
  · obtain ⟨q, rfl⟩ := Int.eq_ofNat_of_zero_le (show 0 ≤ p by omega)
    simp (disch := omega) only [wid, dt, df, cond_true, cond_false, Bool.and_true, Bool.and_self, t_0, t_1, t_2, t_3, t_4, t_5, t_6, t_7, t_8, t_9, t_10, t_11, t_12, t_13, t_14, t_15, t_16, bne, condNot]
    cases hm : m16 xs q with
    | true =>
      have hm' := hm
      simp only [m16, Bool.and_eq_true] at hm
      obtain ⟨a0, a1, a2, a3, a4, a5, a6, a7⟩ := hm
      simp only [a0, a1, a2, a3, a4, a5, a6, a7, cond_true]
      exact hk2 ⟨by omega, by omega⟩ (by rw [Int.toNat_natCast]; exact hm')
    | false =>
      have := hk1' (by rw [Int.toNat_natCast]; exact hm)
      simp only [m16] at hm
      simp only [← condAnd, hm, cond_false]
      exact this
  · simp (disch := omega) only [wid, dt, df, cond_true, cond_false]
    exact hk1 (by omega)
theorem g48_2 {xs : List Int} {p : Int} {k1 k2 : Prop} (hx : xs.length ≤ 2000000) (p1 : -9223372036854775808 ≤ p) (p2 : p ≤ 9223372036854775807) :
    ((0 ≤ p ∧ p + 12 ≤ xs.length) → m12 xs p.toNat = true → k2) → (¬ (0 ≤ p ∧ p + 12 ≤ xs.length) → k1) → (m12 xs p.toNat = false → k1) → G48_2 p xs k1 k2 := by
  intro hk2 hk1 hk1'
  unfold G48_2 F48_2
  by_cases h0 : p < 0
  · simp only [dt h0, cond_true]; exact hk1 (by omega)
  by_cases h1 : p > ((xs.length - 0 : Nat) : Int)
  · simp only [df h0, cond_false, dt h1, cond_true]; exact hk1 (by omega)
  by_cases h2 : p + 12 ≤ xs.length
  · obtain ⟨q, rfl⟩ := Int.eq_ofNat_of_zero_le (show 0 ≤ p by omega)
    simp (disch := omega) only [wid, dt, df, cond_true, cond_false, Bool.and_true, Bool.and_self, t_0, t_1, t_2, t_3, t_4, t_5, t_6, t_7, t_8, t_9, t_10, t_11, t_12, t_13, t_14, t_15, t_16, bne, condNot]
    cases hm : m12 xs q with
    | true =>
      have hm' := hm
      simp only [m12, Bool.and_eq_true] at hm
      obtain ⟨a0, a1, a2, a3⟩ := hm
      simp only [a0, a1, a2, a3, cond_true]
      exact hk2 ⟨by omega, by omega⟩ (by rw [Int.toNat_natCast]; exact hm')
    | false =>
      have := hk1' (by rw [Int.toNat_natCast]; exact hm)
      simp only [m12] at hm
      simp only [← condAnd, hm, cond_false]
      exact this
  · simp (disch := omega) only [wid, dt, df, cond_true, cond_false]
    exact hk1 (by omega)
theorem g48_3_0 {xs : List Int} {p : Int} {k1 k2 : Prop} (hx : xs.length ≤ 2000000) (p1 : -9223372036854775808 ≤ p) (p2 : p ≤ 9223372036854775807) :
    ((0 ≤ p ∧ p + 7 ≤ xs.length) → m7 72 5 xs p.toNat = true → k2) → (¬ (0 ≤ p ∧ p + 7 ≤ xs.length) → k1) → (m7 72 5 xs p.toNat = false → k1) → G48_3_0 p xs k1 k2 := by
  intro hk2 hk1 hk1'
  unfold G48_3_0 F48_3_0
  by_cases h0 : p < 0
  · simp only [dt h0, cond_true]; exact hk1 (by omega)
  by_cases h1 : p > ((xs.length - 0 : Nat) : Int)
  · simp only [df h0, cond_false, dt h1, cond_true]; exact hk1 (by omega)
  by_cases h2 : p + 7 ≤ xs.length
  · obtain ⟨q, rfl⟩ := Int.eq_ofNat_of_zero_le (show 0 ≤ p by omega)
    simp (disch := omega) only [wid, dt, df, cond_true, cond_false, Bool.and_true, Bool.and_self, t_0, t_1, t_2, t_3, t_4, t_5, t_6, t_7, t_8, t_9, t_10, t_11, t_12, t_13, t_14, t_15, t_16, bne, condNot]
    cases hm : m7 72 5 xs q with
    | true =>
      have hm' := hm
      simp only [m7, Bool.and_eq_true] at hm
      obtain ⟨a0, a1, a2⟩ := hm
      simp only [a0, a1, a2, cond_true]
      exact hk2 ⟨by omega, by omega⟩ (by rw [Int.toNat_natCast]; exact hm')
    | false =>
      have := hk1' (by rw [Int.toNat_natCast]; exact hm)
      simp only [m7] at hm
      simp only [← condAnd, hm, cond_false]
      exact this
  · simp (disch := omega) only [wid, dt, df, cond_true, cond_false]
    exact hk1 (by omega)
theorem g48_3_1 {xs : List Int} {p : Int} {k1 k2 : Prop} (hx : xs.length ≤ 2000000) (p1 : -9223372036854775808 ≤ p) (p2 : p ≤ 9223372036854775807) :
    ((0 ≤ p ∧ p + 7 ≤ xs.length) → m7 72 13 xs p.toNat = true → k2) → (¬ (0 ≤ p ∧ p + 7 ≤ xs.length) → k1) → (m7 72 13 xs p.toNat = false → k1) → G48_3_1 p xs k1 k2 := by
  intro hk2 hk1 hk1'
  unfold G48_3_1 F48_3_1
  by_cases h0 : p < 0
  · simp only [dt h0, cond_true]; exact hk1 (by omega)
  by_cases h1 : p > ((xs.length - 0 : Nat) : Int)
  · simp only [df h0, cond_false, dt h1, cond_true]; exact hk1 (by omega)
  by_cases h2 : p + 7 ≤ xs.length
  · obtain ⟨q, rfl⟩ := Int.eq_ofNat_of_zero_le (show 0 ≤ p by omega)
    simp (disch := omega) only [wid, dt, df, cond_true, cond_false, Bool.and_true, Bool.and_self, t_0, t_1, t_2, t_3, t_4, t_5, t_6, t_7, t_8, t_9, t_10, t_11, t_12, t_13, t_14, t_15, t_16, bne, condNot]
    cases hm : m7 72 13 xs q with
    | true =>
      have hm' := hm
      simp only [m7, Bool.and_eq_true] at hm
      obtain ⟨a0, a1, a2⟩ := hm
      simp only [a0, a1, a2, cond_true]
      exact hk2 ⟨by omega, by omega⟩ (by rw [Int.toNat_natCast]; exact hm')
    | false =>
      have := hk1' (by rw [Int.toNat_natCast]; exact hm)
      simp only [m7] at hm
      simp only [← condAnd, hm, cond_false]
      exact this
  · simp (disch := omega) only [wid, dt, df, cond_true, cond_false]
    exact hk1 (by omega)
theorem g48_3_2 {xs : List Int} {p : Int} {k1 k2 : Prop} (hx : xs.length ≤ 2000000) (p1 : -9223372036854775808 ≤ p) (p2 : p ≤ 9223372036854775807) :
    ((0 ≤ p ∧ p + 7 ≤ xs.length) → m7 72 21 xs p.toNat = true → k2) → (¬ (0 ≤ p ∧ p + 7 ≤ xs.length) → k1) → (m7 72 21 xs p.toNat = false → k1) → G48_3_2 p xs k1 k2 := by
  intro hk2 hk1 hk1'
  unfold G48_3_2 F48_3_2
  by_cases h0 : p < 0
  · simp only [dt h0, cond_true]; exact hk1 (by omega)
  by_cases h1 : p > ((xs.length - 0 : Nat) : Int)
  · simp only [df h0, cond_false, dt h1, cond_true]; exact hk1 (by omega)
  by_cases h2 : p + 7 ≤ xs.length
  · obtain ⟨q, rfl⟩ := Int.eq_ofNat_of_zero_le (show 0 ≤ p by omega)
    simp (disch := omega) only [wid, dt, df, cond_true, cond_false, Bool.and_true, Bool.and_self, t_0, t_1, t_2, t_3, t_4, t_5, t_6, t_7, t_8, t_9, t_10, t_11, t_12, t_13, t_14, t_15, t_16, bne, condNot]
    cases hm : m7 72 21 xs q with
    | true =>
      have hm' := hm
      simp only [m7, Bool.and_eq_true] at hm
      obtain ⟨a0, a1, a2⟩ := hm
      simp only [a0, a1, a2, cond_true]
      exact hk2 ⟨by omega, by omega⟩ (by rw [Int.toNat_natCast]; exact hm')
    | false =>
      have := hk1' (by rw [Int.toNat_natCast]; exact hm)
      simp only [m7] at hm
      simp only [← condAnd, hm, cond_false]
      exact this
  · simp (disch := omega) only [wid, dt, df, cond_true, cond_false]
    exact hk1 (by omega)
theorem g48_3_3 {xs : List Int} {p : Int} {k1 k2 : Prop} (hx : xs.length ≤ 2000000) (p1 : -9223372036854775808 ≤ p) (p2 : p ≤ 9223372036854775807) :
    ((0 ≤ p ∧ p + 7 ≤ xs.length) → m7 72 29 xs p.toNat = true → k2) → (¬ (0 ≤ p ∧ p + 7 ≤ xs.length) → k1) → (m7 72 29 xs p.toNat = false → k1) → G48_3_3 p xs k1 k2 := by
  intro hk2 hk1 hk1'
  unfold G48_3_3 F48_3_3
  by_cases h0 : p < 0
  · simp only [dt h0, cond_true]; exact hk1 (by omega)
  by_cases h1 : p > ((xs.length - 0 : Nat) : Int)
  · simp only [df h0, cond_false, dt h1, cond_true]; exact hk1 (by omega)
  by_cases h2 : p + 7 ≤ xs.length
  · obtain ⟨q, rfl⟩ := Int.eq_ofNat_of_zero_le (show 0 ≤ p by omega)
    simp (disch := omega) only [wid, dt, df, cond_true, cond_false, Bool.and_true, Bool.and_self, t_0, t_1, t_2, t_3, t_4, t_5, t_6, t_7, t_8, t_9, t_10, t_11, t_12, t_13, t_14, t_15, t_16, bne, condNot]
    cases hm : m7 72 29 xs q with
    | true =>
      have hm' := hm
      simp only [m7, Bool.and_eq_true] at hm
      obtain ⟨a0, a1, a2⟩ := hm
      simp only [a0, a1, a2, cond_true]
      exact hk2 ⟨by omega, by omega⟩ (by rw [Int.toNat_natCast]; exact hm')
    | false =>
      have := hk1' (by rw [Int.toNat_natCast]; exact hm)
      simp only [m7] at hm
      simp only [← condAnd, hm, cond_false]
      exact this
  · simp (disch := omega) only [wid, dt, df, cond_true, cond_false]
    exact hk1 (by omega)
theorem g48_3_4 {xs : List Int} {p : Int} {k1 k2 : Prop} (hx : xs.length ≤ 2000000) (p1 : -9223372036854775808 ≤ p) (p2 : p ≤ 9223372036854775807) :
    ((0 ≤ p ∧ p + 7 ≤ xs.length) → m7 72 37 xs p.toNat = true → k2) → (¬ (0 ≤ p ∧ p + 7 ≤ xs.length) → k1) → (m7 72 37 xs p.toNat = false → k1) → G48_3_4 p xs k1 k2 := by
  intro hk2 hk1 hk1'
  unfold G48_3_4 F48_3_4
  by_cases h0 : p < 0
  · simp only [dt h0, cond_true]; exact hk1 (by omega)
  by_cases h1 : p > ((xs.length - 0 : Nat) : Int)
  · simp only [df h0, cond_false, dt h1, cond_true]; exact hk1 (by omega)
  by_cases h2 : p + 7 ≤ xs.length
  · obtain ⟨q, rfl⟩ := Int.eq_ofNat_of_zero_le (show 0 ≤ p by omega)
    simp (disch := omega) only [wid, dt, df, cond_true, cond_false, Bool.and_true, Bool.and_self, t_0, t_1, t_2, t_3, t_4, t_5, t_6, t_7, t_8, t_9, t_10, t_11, t_12, t_13, t_14, t_15, t_16, bne, condNot]
    cases hm : m7 72 37 xs q with
    | true =>
      have hm' := hm
      simp only [m7, Bool.and_eq_true] at hm
      obtain ⟨a0, a1, a2⟩ := hm
      simp only [a0, a1, a2, cond_true]
      exact hk2 ⟨by omega, by omega⟩ (by rw [Int.toNat_natCast]; exact hm')
    | false =>
      have := hk1' (by rw [Int.toNat_natCast]; exact hm)
      simp only [m7] at hm
      simp only [← condAnd, hm, cond_false]
      exact this
  · simp (disch := omega) only [wid, dt, df, cond_true, cond_false]
    exact hk1 (by omega)
theorem g48_3_5 {xs : List Int} {p : Int} {k1 k2 : Prop} (hx : xs.length ≤ 2000000) (p1 : -9223372036854775808 ≤ p) (p2 : p ≤ 9223372036854775807) :
    ((0 ≤ p ∧ p + 7 ≤ xs.length) → m7 72 45 xs p.toNat = true → k2) → (¬ (0 ≤ p ∧ p + 7 ≤ xs.length) → k1) → (m7 72 45 xs p.toNat = false → k1) → G48_3_5 p xs k1 k2 := by
  intro hk2 hk1 hk1'
  unfold G48_3_5 F48_3_5
  by_cases h0 : p < 0
  · simp only [dt h0, cond_true]; exact hk1 (by omega)
  by_cases h1 : p > ((xs.length - 0 : Nat) : Int)
  · simp only [df h0, cond_false, dt h1, cond_true]; exact hk1 (by omega)
  by_cases h2 : p + 7 ≤ xs.length
  · obtain ⟨q, rfl⟩ := Int.eq_ofNat_of_zero_le (show 0 ≤ p by omega)
    simp (disch := omega) only [wid, dt, df, cond_true, cond_false, Bool.and_true, Bool.and_self, t_0, t_1, t_2, t_3, t_4, t_5, t_6, t_7, t_8, t_9, t_10, t_11, t_12, t_13, t_14, t_15, t_16, bne, condNot]
    cases hm : m7 72 45 xs q with
    | true =>
      have hm' := hm
      simp only [m7, Bool.and_eq_true] at hm
      obtain ⟨a0, a1, a2⟩ := hm
      simp only [a0, a1, a2, cond_true]
      exact hk2 ⟨by omega, by omega⟩ (by rw [Int.toNat_natCast]; exact hm')
    | false =>
      have := hk1' (by rw [Int.toNat_natCast]; exact hm)
      simp only [m7] at hm
      simp only [← condAnd, hm, cond_false]
      exact this
  · simp (disch := omega) only [wid, dt, df, cond_true, cond_false]
    exact hk1 (by omega)
theorem g48_3_6 {xs : List Int} {p : Int} {k1 k2 : Prop} (hx : xs.length ≤ 2000000) (p1 : -9223372036854775808 ≤ p) (p2 : p ≤ 9223372036854775807) :
    ((0 ≤ p ∧ p + 7 ≤ xs.length) → m7 72 53 xs p.toNat = true → k2) → (¬ (0 ≤ p ∧ p + 7 ≤ xs.length) → k1) → (m7 72 53 xs p.toNat = false → k1) → G48_3_6 p xs k1 k2 := by
  intro hk2 hk1 hk1'
  unfold G48_3_6 F48_3_6
  by_cases h0 : p < 0
  · simp only [dt h0, cond_true]; exact hk1 (by omega)
  by_cases h1 : p > ((xs.length - 0 : Nat) : Int)
  · simp only [df h0, cond_false, dt h1, cond_true]; exact hk1 (by omega)
  by_cases h2 : p + 7 ≤ xs.length
  · obtain ⟨q, rfl⟩ := Int.eq_ofNat_of_zero_le (show 0 ≤ p by omega)
    simp (disch := omega) only [wid, dt, df, cond_true, cond_false, Bool.and_true, Bool.and_self, t_0, t_1, t_2, t_3, t_4, t_5, t_6, t_7, t_8, t_9, t_10, t_11, t_12, t_13, t_14, t_15, t_16, bne, condNot]
    cases hm : m7 72 53 xs q with
    | true =>
      have hm' := hm
      simp only [m7, Bool.and_eq_true] at hm
      obtain ⟨a0, a1, a2⟩ := hm
      simp only [a0, a1, a2, cond_true]
      exact hk2 ⟨by omega, by omega⟩ (by rw [Int.toNat_natCast]; exact hm')
    | false =>
      have := hk1' (by rw [Int.toNat_natCast]; exact hm)
      simp only [m7] at hm
      simp only [← condAnd, hm, cond_false]
      exact this
  · simp (disch := omega) only [wid, dt, df, cond_true, cond_false]
    exact hk1 (by omega)
theorem g48_3_7 {xs : List Int} {p : Int} {k1 k2 : Prop} (hx : xs.length ≤ 2000000) (p1 : -9223372036854775808 ≤ p) (p2 : p ≤ 9223372036854775807) :
    ((0 ≤ p ∧ p + 7 ≤ xs.length) → m7 72 61 xs p.toNat = true → k2) → (¬ (0 ≤ p ∧ p + 7 ≤ xs.length) → k1) → (m7 72 61 xs p.toNat = false → k1) → G48_3_7 p xs k1 k2 := by
  intro hk2 hk1 hk1'
  unfold G48_3_7 F48_3_7
  by_cases h0 : p < 0
  · simp only [dt h0, cond_true]; exact hk1 (by omega)
  by_cases h1 : p > ((xs.length - 0 : Nat) : Int)
  · simp only [df h0, cond_false, dt h1, cond_true]; exact hk1 (by omega)
  by_cases h2 : p + 7 ≤ xs.length
  · obtain ⟨q, rfl⟩ := Int.eq_ofNat_of_zero_le (show 0 ≤ p by omega)
    simp (disch := omega) only [wid, dt, df, cond_true, cond_false, Bool.and_true, Bool.and_self, t_0, t_1, t_2, t_3, t_4, t_5, t_6, t_7, t_8, t_9, t_10, t_11, t_12, t_13, t_14, t_15, t_16, bne, condNot]
    cases hm : m7 72 61 xs q with
    | true =>
      have hm' := hm
      simp only [m7, Bool.and_eq_true] at hm
      obtain ⟨a0, a1, a2⟩ := hm
      simp only [a0, a1, a2, cond_true]
      exact hk2 ⟨by omega, by omega⟩ (by rw [Int.toNat_natCast]; exact hm')
    | false =>
      have := hk1' (by rw [Int.toNat_natCast]; exact hm)
      simp only [m7] at hm
      simp only [← condAnd, hm, cond_false]
      exact this
  · simp (disch := omega) only [wid, dt, df, cond_true, cond_false]
    exact hk1 (by omega)
theorem g48_3_8 {xs : List Int} {p : Int} {k1 k2 : Prop} (hx : xs.length ≤ 2000000) (p1 : -9223372036854775808 ≤ p) (p2 : p ≤ 9223372036854775807) :
    ((0 ≤ p ∧ p + 7 ≤ xs.length) → m7 76 5 xs p.toNat = true → k2) → (¬ (0 ≤ p ∧ p + 7 ≤ xs.length) → k1) → (m7 76 5 xs p.toNat = false → k1) → G48_3_8 p xs k1 k2 := by
  intro hk2 hk1 hk1'
  unfold G48_3_8 F48_3_8
  by_cases h0 : p < 0
  · simp only [dt h0, cond_true]; exact hk1 (by omega)
  by_cases h1 : p > ((xs.length - 0 : Nat) : Int)
  · simp only [df h0, cond_false, dt h1, cond_true]; exact hk1 (by omega)
  by_cases h2 : p + 7 ≤ xs.length
  · obtain ⟨q, rfl⟩ := Int.eq_ofNat_of_zero_le (show 0 ≤ p by omega)
    simp (disch := omega) only [wid, dt, df, cond_true, cond_false, Bool.and_true, Bool.and_self, t_0, t_1, t_2, t_3, t_4, t_5, t_6, t_7, t_8, t_9, t_10, t_11, t_12, t_13, t_14, t_15, t_16, bne, condNot]
    cases hm : m7 76 5 xs q with
    | true =>
      have hm' := hm
      simp only [m7, Bool.and_eq_true] at hm
      obtain ⟨a0, a1, a2⟩ := hm
      simp only [a0, a1, a2, cond_true]
      exact hk2 ⟨by omega, by omega⟩ (by rw [Int.toNat_natCast]; exact hm')
    | false =>
      have := hk1' (by rw [Int.toNat_natCast]; exact hm)
      simp only [m7] at hm
      simp only [← condAnd, hm, cond_false]
      exact this
  · simp (disch := omega) only [wid, dt, df, cond_true, cond_false]
    exact hk1 (by omega)
theorem g48_3_9 {xs : List Int} {p : Int} {k1 k2 : Prop} (hx : xs.length ≤ 2000000) (p1 : -9223372036854775808 ≤ p) (p2 : p ≤ 9223372036854775807) :
    ((0 ≤ p ∧ p + 7 ≤ xs.length) → m7 76 13 xs p.toNat = true → k2) → (¬ (0 ≤ p ∧ p + 7 ≤ xs.length) → k1) → (m7 76 13 xs p.toNat = false → k1) → G48_3_9 p xs k1 k2 := by
  intro hk2 hk1 hk1'
  unfold G48_3_9 F48_3_9
  by_cases h0 : p < 0
  · simp only [dt h0, cond_true]; exact hk1 (by omega)
  by_cases h1 : p > ((xs.length - 0 : Nat) : Int)
  · simp only [df h0, cond_false, dt h1, cond_true]; exact hk1 (by omega)
  by_cases h2 : p + 7 ≤ xs.length
  · obtain ⟨q, rfl⟩ := Int.eq_ofNat_of_zero_le (show 0 ≤ p by omega)
    simp (disch := omega) only [wid, dt, df, cond_true, cond_false, Bool.and_true, Bool.and_self, t_0, t_1, t_2, t_3, t_4, t_5, t_6, t_7, t_8, t_9, t_10, t_11, t_12, t_13, t_14, t_15, t_16, bne, condNot]
    cases hm : m7 76 13 xs q with
    | true =>
      have hm' := hm
      simp only [m7, Bool.and_eq_true] at hm
      obtain ⟨a0, a1, a2⟩ := hm
      simp only [a0, a1, a2, cond_true]
      exact hk2 ⟨by omega, by omega⟩ (by rw [Int.toNat_natCast]; exact hm')
    | false =>
      have := hk1' (by rw [Int.toNat_natCast]; exact hm)
      simp only [m7] at hm
      simp only [← condAnd, hm, cond_false]
      exact this
  · simp (disch := omega) only [wid, dt, df, cond_true, cond_false]
    exact hk1 (by omega)
theorem g48_3_10 {xs : List Int} {p : Int} {k1 k2 : Prop} (hx : xs.length ≤ 2000000) (p1 : -9223372036854775808 ≤ p) (p2 : p ≤ 9223372036854775807) :
    ((0 ≤ p ∧ p + 7 ≤ xs.length) → m7 76 21 xs p.toNat = true → k2) → (¬ (0 ≤ p ∧ p + 7 ≤ xs.length) → k1) → (m7 76 21 xs p.toNat = false → k1) → G48_3_10 p xs k1 k2 := by
  intro hk2 hk1 hk1'
  unfold G48_3_10 F48_3_10
  by_cases h0 : p < 0
  · simp only [dt h0, cond_true]; exact hk1 (by omega)
  by_cases h1 : p > ((xs.length - 0 : Nat) : Int)
  · simp only [df h0, cond_false, dt h1, cond_true]; exact hk1 (by omega)
  by_cases h2 : p + 7 ≤ xs.length
  · obtain ⟨q, rfl⟩ := Int.eq_ofNat_of_zero_le (show 0 ≤ p by omega)
    simp (disch := omega) only [wid, dt, df, cond_true, cond_false, Bool.and_true, Bool.and_self, t_0, t_1, t_2, t_3, t_4, t_5, t_6, t_7, t_8, t_9, t_10, t_11, t_12, t_13, t_14, t_15, t_16, bne, condNot]
    cases hm : m7 76 21 xs q with
    | true =>
      have hm' := hm
      simp only [m7, Bool.and_eq_true] at hm
      obtain ⟨a0, a1, a2⟩ := hm
      simp only [a0, a1, a2, cond_true]
      exact hk2 ⟨by omega, by omega⟩ (by rw [Int.toNat_natCast]; exact hm')
    | false =>
      have := hk1' (by rw [Int.toNat_natCast]; exact hm)
      simp only [m7] at hm
      simp only [← condAnd, hm, cond_false]
      exact this
  · simp (disch := omega) only [wid, dt, df, cond_true, cond_false]
    exact hk1 (by omega)
theorem g48_3_11 {xs : List Int} {p : Int} {k1 k2 : Prop} (hx : xs.length ≤ 2000000) (p1 : -9223372036854775808 ≤ p) (p2 : p ≤ 9223372036854775807) :
    ((0 ≤ p ∧ p + 7 ≤ xs.length) → m7 76 29 xs p.toNat = true → k2) → (¬ (0 ≤ p ∧ p + 7 ≤ xs.length) → k1) → (m7 76 29 xs p.toNat = false → k1) → G48_3_11 p xs k1 k2 := by
  intro hk2 hk1 hk1'
  unfold G48_3_11 F48_3_11
  by_cases h0 : p < 0
  · simp only [dt h0, cond_true]; exact hk1 (by omega)
  by_cases h1 : p > ((xs.length - 0 : Nat) : Int)
  · simp only [df h0, cond_false, dt h1, cond_true]; exact hk1 (by omega)
  by_cases h2 : p + 7 ≤ xs.length
  · obtain ⟨q, rfl⟩ := Int.eq_ofNat_of_zero_le (show 0 ≤ p by omega)
    simp (disch := omega) only [wid, dt, df, cond_true, cond_false, Bool.and_true, Bool.and_self, t_0, t_1, t_2, t_3, t_4, t_5, t_6, t_7, t_8, t_9, t_10, t_11, t_12, t_13, t_14, t_15, t_16, bne, condNot]
    cases hm : m7 76 29 xs q with
    | true =>
      have hm' := hm
      simp only [m7, Bool.and_eq_true] at hm
      obtain ⟨a0, a1, a2⟩ := hm
      simp only [a0, a1, a2, cond_true]
      exact hk2 ⟨by omega, by omega⟩ (by rw [Int.toNat_natCast]; exact hm')
    | false =>
      have := hk1' (by rw [Int.toNat_natCast]; exact hm)
      simp only [m7] at hm
      simp only [← condAnd, hm, cond_false]
      exact this
  · simp (disch := omega) only [wid, dt, df, cond_true, cond_false]
    exact hk1 (by omega)
theorem g48_3_12 {xs : List Int} {p : Int} {k1 k2 : Prop} (hx : xs.length ≤ 2000000) (p1 : -9223372036854775808 ≤ p) (p2 : p ≤ 9223372036854775807) :
    ((0 ≤ p ∧ p + 7 ≤ xs.length) → m7 76 37 xs p.toNat = true → k2) → (¬ (0 ≤ p ∧ p + 7 ≤ xs.length) → k1) → (m7 76 37 xs p.toNat = false → k1) → G48_3_12 p xs k1 k2 := by
  intro hk2 hk1 hk1'
  unfold G48_3_12 F48_3_12
  by_cases h0 : p < 0
  · simp only [dt h0, cond_true]; exact hk1 (by omega)
  by_cases h1 : p > ((xs.length - 0 : Nat) : Int)
  · simp only [df h0, cond_false, dt h1, cond_true]; exact hk1 (by omega)
  by_cases h2 : p + 7 ≤ xs.length
  · obtain ⟨q, rfl⟩ := Int.eq_ofNat_of_zero_le (show 0 ≤ p by omega)
    simp (disch := omega) only [wid, dt, df, cond_true, cond_false, Bool.and_true, Bool.and_self, t_0, t_1, t_2, t_3, t_4, t_5, t_6, t_7, t_8, t_9, t_10, t_11, t_12, t_13, t_14, t_15, t_16, bne, condNot]
    cases hm : m7 76 37 xs q with
    | true =>
      have hm' := hm
      simp only [m7, Bool.and_eq_true] at hm
      obtain ⟨a0, a1, a2⟩ := hm
      simp only [a0, a1, a2, cond_true]
      exact hk2 ⟨by omega, by omega⟩ (by rw [Int.toNat_natCast]; exact hm')
    | false =>
      have := hk1' (by rw [Int.toNat_natCast]; exact hm)
      simp only [m7] at hm
      simp only [← condAnd, hm, cond_false]
      exact this
  · simp (disch := omega) only [wid, dt, df, cond_true, cond_false]
    exact hk1 (by omega)
theorem g48_3_13 {xs : List Int} {p : Int} {k1 k2 : Prop} (hx : xs.length ≤ 2000000) (p1 : -9223372036854775808 ≤ p) (p2 : p ≤ 9223372036854775807) :
    ((0 ≤ p ∧ p + 7 ≤ xs.length) → m7 76 45 xs p.toNat = true → k2) → (¬ (0 ≤ p ∧ p + 7 ≤ xs.length) → k1) → (m7 76 45 xs p.toNat = false → k1) → G48_3_13 p xs k1 k2 := by
  intro hk2 hk1 hk1'
  unfold G48_3_13 F48_3_13
  by_cases h0 : p < 0
  · simp only [dt h0, cond_true]; exact hk1 (by omega)
  by_cases h1 : p > ((xs.length - 0 : Nat) : Int)
  · simp only [df h0, cond_false, dt h1, cond_true]; exact hk1 (by omega)
  by_cases h2 : p + 7 ≤ xs.length
  · obtain ⟨q, rfl⟩ := Int.eq_ofNat_of_zero_le (show 0 ≤ p by omega)
    simp (disch := omega) only [wid, dt, df, cond_true, cond_false, Bool.and_true, Bool.and_self, t_0, t_1, t_2, t_3, t_4, t_5, t_6, t_7, t_8, t_9, t_10, t_11, t_12, t_13, t_14, t_15, t_16, bne, condNot]
    cases hm : m7 76 45 xs q with
    | true =>
      have hm' := hm
      simp only [m7, Bool.and_eq_true] at hm
      obtain ⟨a0, a1, a2⟩ := hm
      simp only [a0, a1, a2, cond_true]
      exact hk2 ⟨by omega, by omega⟩ (by rw [Int.toNat_natCast]; exact hm')
    | false =>
      have := hk1' (by rw [Int.toNat_natCast]; exact hm)
      simp only [m7] at hm
      simp only [← condAnd, hm, cond_false]
      exact this
  · simp (disch := omega) only [wid, dt, df, cond_true, cond_false]
    exact hk1 (by omega)
theorem g48_3_14 {xs : List Int} {p : Int} {k1 k2 : Prop} (hx : xs.length ≤ 2000000) (p1 : -9223372036854775808 ≤ p) (p2 : p ≤ 9223372036854775807) :
    ((0 ≤ p ∧ p + 7 ≤ xs.length) → m7 76 53 xs p.toNat = true → k2) → (¬ (0 ≤ p ∧ p + 7 ≤ xs.length) → k1) → (m7 76 53 xs p.toNat = false → k1) → G48_3_14 p xs k1 k2 := by
  intro hk2 hk1 hk1'
  unfold G48_3_14 F48_3_14
  by_cases h0 : p < 0
  · simp only [dt h0, cond_true]; exact hk1 (by omega)
  by_cases h1 : p > ((xs.length - 0 : Nat) : Int)
  · simp only [df h0, cond_false, dt h1, cond_true]; exact hk1 (by omega)
  by_cases h2 : p + 7 ≤ xs.length
  · obtain ⟨q, rfl⟩ := Int.eq_ofNat_of_zero_le (show 0 ≤ p by omega)
    simp (disch := omega) only [wid, dt, df, cond_true, cond_false, Bool.and_true, Bool.and_self, t_0, t_1, t_2, t_3, t_4, t_5, t_6, t_7, t_8, t_9, t_10, t_11, t_12, t_13, t_14, t_15, t_16, bne, condNot]
    cases hm : m7 76 53 xs q with
    | true =>
      have hm' := hm
      simp only [m7, Bool.and_eq_true] at hm
      obtain ⟨a0, a1, a2⟩ := hm
      simp only [a0, a1, a2, cond_true]
      exact hk2 ⟨by omega, by omega⟩ (by rw [Int.toNat_natCast]; exact hm')
    | false =>
      have := hk1' (by rw [Int.toNat_natCast]; exact hm)
      simp only [m7] at hm
      simp only [← condAnd, hm, cond_false]
      exact this
  · simp (disch := omega) only [wid, dt, df, cond_true, cond_false]
    exact hk1 (by omega)
theorem g48_3_15 {xs : List Int} {p : Int} {k1 k2 : Prop} (hx : xs.length ≤ 2000000) (p1 : -9223372036854775808 ≤ p) (p2 : p ≤ 9223372036854775807) :
    ((0 ≤ p ∧ p + 7 ≤ xs.length) → m7 76 61 xs p.toNat = true → k2) → (¬ (0 ≤ p ∧ p + 7 ≤ xs.length) → k1) → (m7 76 61 xs p.toNat = false → k1) → G48_3_15 p xs k1 k2 := by
  intro hk2 hk1 hk1'
  unfold G48_3_15 F48_3_15
  by_cases h0 : p < 0
  · simp only [dt h0, cond_true]; exact hk1 (by omega)
  by_cases h1 : p > ((xs.length - 0 : Nat) : Int)
  · simp only [df h0, cond_false, dt h1, cond_true]; exact hk1 (by omega)
  by_cases h2 : p + 7 ≤ xs.length
  · obtain ⟨q, rfl⟩ := Int.eq_ofNat_of_zero_le (show 0 ≤ p by omega)
    simp (disch := omega) only [wid, dt, df, cond_true, cond_false, Bool.and_true, Bool.and_self, t_0, t_1, t_2, t_3, t_4, t_5, t_6, t_7, t_8, t_9, t_10, t_11, t_12, t_13, t_14, t_15, t_16, bne, condNot]
    cases hm : m7 76 61 xs q with
    | true =>
      have hm' := hm
      simp only [m7, Bool.and_eq_true] at hm
      obtain ⟨a0, a1, a2⟩ := hm
      simp only [a0, a1, a2, cond_true]
      exact hk2 ⟨by omega, by omega⟩ (by rw [Int.toNat_natCast]; exact hm')
    | false =>
      have := hk1' (by rw [Int.toNat_natCast]; exact hm)
      simp only [m7] at hm
      simp only [← condAnd, hm, cond_false]
      exact this
  · simp (disch := omega) only [wid, dt, df, cond_true, cond_false]
    exact hk1 (by omega)
def f16 (n : Nat) (xs : List Int) (pa : Int) : Bool := decide (4 ≤ pa ∧ pa + 12 ≤ (n : Int)) && m16 xs (pa - 4).toNat
def f12 (n : Nat) (xs : List Int) (pa : Int) : Bool := decide (3 ≤ pa ∧ pa + 9 ≤ (n : Int)) && m12 xs (pa - 3).toNat
def f7 (a b : Int) (n : Nat) (xs : List Int) (pa : Int) : Bool := decide (3 ≤ pa ∧ pa + 4 ≤ (n : Int)) && m7 a b xs (pa - 3).toNat
def ra (r : Nat) : Int := if r < 8 then 72 else 76
def rb (r : Nat) : Int := 5 + 8 * (r % 8 : Nat)
def fr (r : Nat) (n : Nat) (xs : List Int) (pa : Int) : Bool := f7 (ra r) (rb r) n xs pa
theorem wsub (c : Int) (hc : 0 ≤ c) (hc' : c ≤ 100) {pa : Int} (h1 : -9223372036854775808 ≤ pa) (h2 : pa ≤ 9223372036854775807) :
    (IntKind.wrap .i64 (pa - c) = pa - c ∧ -9223372036854775808 + c ≤ pa) ∨ (9223372036854775000 ≤ IntKind.wrap .i64 (pa - c) ∧ IntKind.wrap .i64 (pa - c) ≤ 9223372036854775807 ∧ pa < 0) := by
  by_cases h : -9223372036854775808 ≤ pa - c
  · exact .inl ⟨wid h (by omega), by omega⟩
  · right; rw [wlow (by omega) (by omega)]; omega
theorem s48_1 {xs : List Int} {pa : Int} {k1 k2 : Prop} (hx : xs.length ≤ 2000000) (h1 : -9223372036854775808 ≤ pa) (h2 : pa ≤ 9223372036854775807) :
    (f16 xs.length xs pa = true → IntKind.wrap .i64 (pa - 4) = pa - 4 → k2) → (f16 xs.length xs pa = false → k1) → G48_1 (IntKind.wrap .i64 (pa - 4)) xs k1 k2 := by
  intro hk2 hk1
  rcases wsub 4 (by omega) (by omega) h1 h2 with ⟨hw, hb⟩ | ⟨hw, hb, hc⟩
  · rw [hw]
    refine g48_1 hx (by omega) (by omega) (fun hc hm => hk2 ?_ hw) (fun hc => hk1 ?_) (fun hm => hk1 ?_)
    · simp only [f16, f12, f7, fr, ra, rb]; exact Bool.and_eq_true_iff.2 ⟨dt ⟨by omega, by omega⟩, hm⟩
    · simp only [f16, f12, f7, fr, ra, rb]; rw [df (by omega), Bool.false_and]
    · simp only [f16, f12, f7, fr, ra, rb]; exact Bool.and_eq_false_iff.2 (.inr hm)
  · refine g48_1 hx (by omega) (by omega) (fun hc hm => ?_) (fun hc => hk1 ?_) (fun hm => hk1 ?_)
    · omega
    · simp only [f16, f12, f7, fr, ra, rb]; rw [df (by omega), Bool.false_and]
    · simp only [f16, f12, f7, fr, ra, rb]; rw [df (by omega), Bool.false_and]
theorem s48_2 {xs : List Int} {pa : Int} {k1 k2 : Prop} (hx : xs.length ≤ 2000000) (h1 : -9223372036854775808 ≤ pa) (h2 : pa ≤ 9223372036854775807) :
    (f12 xs.length xs pa = true → IntKind.wrap .i64 (pa - 3) = pa - 3 → k2) → (f12 xs.length xs pa = false → k1) → G48_2 (IntKind.wrap .i64 (pa - 3)) xs k1 k2 := by
  intro hk2 hk1
  rcases wsub 3 (by omega) (by omega) h1 h2 with ⟨hw, hb⟩ | ⟨hw, hb, hc⟩
  · rw [hw]
    refine g48_2 hx (by omega) (by omega) (fun hc hm => hk2 ?_ hw) (fun hc => hk1 ?_) (fun hm => hk1 ?_)
    · simp only [f16, f12, f7, fr, ra, rb]; exact Bool.and_eq_true_iff.2 ⟨dt ⟨by omega, by omega⟩, hm⟩
    · simp only [f16, f12, f7, fr, ra, rb]; rw [df (by omega), Bool.false_and]
    · simp only [f16, f12, f7, fr, ra, rb]; exact Bool.and_eq_false_iff.2 (.inr hm)
  · refine g48_2 hx (by omega) (by omega) (fun hc hm => ?_) (fun hc => hk1 ?_) (fun hm => hk1 ?_)
    · omega
    · simp only [f16, f12, f7, fr, ra, rb]; rw [df (by omega), Bool.false_and]
    · simp only [f16, f12, f7, fr, ra, rb]; rw [df (by omega), Bool.false_and]
theorem s48_3_0 {xs : List Int} {pa : Int} {k1 k2 : Prop} (hx : xs.length ≤ 2000000) (h1 : -9223372036854775808 ≤ pa) (h2 : pa ≤ 9223372036854775807) :
    (fr 0 xs.length xs pa = true → IntKind.wrap .i64 (pa - 3) = pa - 3 → k2) → (fr 0 xs.length xs pa = false → k1) → G48_3_0 (IntKind.wrap .i64 (pa - 3)) xs k1 k2 := by
  intro hk2 hk1
  rcases wsub 3 (by omega) (by omega) h1 h2 with ⟨hw, hb⟩ | ⟨hw, hb, hc⟩
  · rw [hw]
    refine g48_3_0 hx (by omega) (by omega) (fun hc hm => hk2 ?_ hw) (fun hc => hk1 ?_) (fun hm => hk1 ?_)
    · simp only [f16, f12, f7, fr, ra, rb]; exact Bool.and_eq_true_iff.2 ⟨dt ⟨by omega, by omega⟩, hm⟩
    · simp only [f16, f12, f7, fr, ra, rb]; rw [df (by omega), Bool.false_and]
    · simp only [f16, f12, f7, fr, ra, rb]; exact Bool.and_eq_false_iff.2 (.inr hm)
  · refine g48_3_0 hx (by omega) (by omega) (fun hc hm => ?_) (fun hc => hk1 ?_) (fun hm => hk1 ?_)
    · omega
    · simp only [f16, f12, f7, fr, ra, rb]; rw [df (by omega), Bool.false_and]
    · simp only [f16, f12, f7, fr, ra, rb]; rw [df (by omega), Bool.false_and]
theorem s48_3_1 {xs : List Int} {pa : Int} {k1 k2 : Prop} (hx : xs.length ≤ 2000000) (h1 : -9223372036854775808 ≤ pa) (h2 : pa ≤ 9223372036854775807) :
    (fr 1 xs.length xs pa = true → IntKind.wrap .i64 (pa - 3) = pa - 3 → k2) → (fr 1 xs.length xs pa = false → k1) → G48_3_1 (IntKind.wrap .i64 (pa - 3)) xs k1 k2 := by
  intro hk2 hk1
  rcases wsub 3 (by omega) (by omega) h1 h2 with ⟨hw, hb⟩ | ⟨hw, hb, hc⟩
  · rw [hw]
    refine g48_3_1 hx (by omega) (by omega) (fun hc hm => hk2 ?_ hw) (fun hc => hk1 ?_) (fun hm => hk1 ?_)
    · simp only [f16, f12, f7, fr, ra, rb]; exact Bool.and_eq_true_iff.2 ⟨dt ⟨by omega, by omega⟩, hm⟩
    · simp only [f16, f12, f7, fr, ra, rb]; rw [df (by omega), Bool.false_and]
    · simp only [f16, f12, f7, fr, ra, rb]; exact Bool.and_eq_false_iff.2 (.inr hm)
  · refine g48_3_1 hx (by omega) (by omega) (fun hc hm => ?_) (fun hc => hk1 ?_) (fun hm => hk1 ?_)
    · omega
    · simp only [f16, f12, f7, fr, ra, rb]; rw [df (by omega), Bool.false_and]
    · simp only [f16, f12, f7, fr, ra, rb]; rw [df (by omega), Bool.false_and]
theorem s48_3_2 {xs : List Int} {pa : Int} {k1 k2 : Prop} (hx : xs.length ≤ 2000000) (h1 : -9223372036854775808 ≤ pa) (h2 : pa ≤ 9223372036854775807) :
    (fr 2 xs.length xs pa = true → IntKind.wrap .i64 (pa - 3) = pa - 3 → k2) → (fr 2 xs.length xs pa = false → k1) → G48_3_2 (IntKind.wrap .i64 (pa - 3)) xs k1 k2 := by
  intro hk2 hk1
  rcases wsub 3 (by omega) (by omega) h1 h2 with ⟨hw, hb⟩ | ⟨hw, hb, hc⟩
  · rw [hw]
    refine g48_3_2 hx (by omega) (by omega) (fun hc hm => hk2 ?_ hw) (fun hc => hk1 ?_) (fun hm => hk1 ?_)
    · simp only [f16, f12, f7, fr, ra, rb]; exact Bool.and_eq_true_iff.2 ⟨dt ⟨by omega, by omega⟩, hm⟩
    · simp only [f16, f12, f7, fr, ra, rb]; rw [df (by omega), Bool.false_and]
    · simp only [f16, f12, f7, fr, ra, rb]; exact Bool.and_eq_false_iff.2 (.inr hm)
  · refine g48_3_2 hx (by omega) (by omega) (fun hc hm => ?_) (fun hc => hk1 ?_) (fun hm => hk1 ?_)
    · omega
    · simp only [f16, f12, f7, fr, ra, rb]; rw [df (by omega), Bool.false_and]
    · simp only [f16, f12, f7, fr, ra, rb]; rw [df (by omega), Bool.false_and]
theorem s48_3_3 {xs : List Int} {pa : Int} {k1 k2 : Prop} (hx : xs.length ≤ 2000000) (h1 : -9223372036854775808 ≤ pa) (h2 : pa ≤ 9223372036854775807) :
    (fr 3 xs.length xs pa = true → IntKind.wrap .i64 (pa - 3) = pa - 3 → k2) → (fr 3 xs.length xs pa = false → k1) → G48_3_3 (IntKind.wrap .i64 (pa - 3)) xs k1 k2 := by
  intro hk2 hk1
  rcases wsub 3 (by omega) (by omega) h1 h2 with ⟨hw, hb⟩ | ⟨hw, hb, hc⟩
  · rw [hw]
    refine g48_3_3 hx (by omega) (by omega) (fun hc hm => hk2 ?_ hw) (fun hc => hk1 ?_) (fun hm => hk1 ?_)
    · simp only [f16, f12, f7, fr, ra, rb]; exact Bool.and_eq_true_iff.2 ⟨dt ⟨by omega, by omega⟩, hm⟩
    · simp only [f16, f12, f7, fr, ra, rb]; rw [df (by omega), Bool.false_and]
    · simp only [f16, f12, f7, fr, ra, rb]; exact Bool.and_eq_false_iff.2 (.inr hm)
  · refine g48_3_3 hx (by omega) (by omega) (fun hc hm => ?_) (fun hc => hk1 ?_) (fun hm => hk1 ?_)
    · omega
    · simp only [f16, f12, f7, fr, ra, rb]; rw [df (by omega), Bool.false_and]
    · simp only [f16, f12, f7, fr, ra, rb]; rw [df (by omega), Bool.false_and]
theorem s48_3_4 {xs : List Int} {pa : Int} {k1 k2 : Prop} (hx : xs.length ≤ 2000000) (h1 : -9223372036854775808 ≤ pa) (h2 : pa ≤ 9223372036854775807) :
    (fr 4 xs.length xs pa = true → IntKind.wrap .i64 (pa - 3) = pa - 3 → k2) → (fr 4 xs.length xs pa = false → k1) → G48_3_4 (IntKind.wrap .i64 (pa - 3)) xs k1 k2 := by
  intro hk2 hk1
  rcases wsub 3 (by omega) (by omega) h1 h2 with ⟨hw, hb⟩ | ⟨hw, hb, hc⟩
  · rw [hw]
    refine g48_3_4 hx (by omega) (by omega) (fun hc hm => hk2 ?_ hw) (fun hc => hk1 ?_) (fun hm => hk1 ?_)
    · simp only [f16, f12, f7, fr, ra, rb]; exact Bool.and_eq_true_iff.2 ⟨dt ⟨by omega, by omega⟩, hm⟩
    · simp only [f16, f12, f7, fr, ra, rb]; rw [df (by omega), Bool.false_and]
    · simp only [f16, f12, f7, fr, ra, rb]; exact Bool.and_eq_false_iff.2 (.inr hm)
  · refine g48_3_4 hx (by omega) (by omega) (fun hc hm => ?_) (fun hc => hk1 ?_) (fun hm => hk1 ?_)
    · omega
    · simp only [f16, f12, f7, fr, ra, rb]; rw [df (by omega), Bool.false_and]
    · simp only [f16, f12, f7, fr, ra, rb]; rw [df (by omega), Bool.false_and]
theorem s48_3_5 {xs : List Int} {pa : Int} {k1 k2 : Prop} (hx : xs.length ≤ 2000000) (h1 : -9223372036854775808 ≤ pa) (h2 : pa ≤ 9223372036854775807) :
    (fr 5 xs.length xs pa = true → IntKind.wrap .i64 (pa - 3) = pa - 3 → k2) → (fr 5 xs.length xs pa = false → k1) → G48_3_5 (IntKind.wrap .i64 (pa - 3)) xs k1 k2 := by
  intro hk2 hk1
  rcases wsub 3 (by omega) (by omega) h1 h2 with ⟨hw, hb⟩ | ⟨hw, hb, hc⟩
  · rw [hw]
    refine g48_3_5 hx (by omega) (by omega) (fun hc hm => hk2 ?_ hw) (fun hc => hk1 ?_) (fun hm => hk1 ?_)
    · simp only [f16, f12, f7, fr, ra, rb]; exact Bool.and_eq_true_iff.2 ⟨dt ⟨by omega, by omega⟩, hm⟩
    · simp only [f16, f12, f7, fr, ra, rb]; rw [df (by omega), Bool.false_and]
    · simp only [f16, f12, f7, fr, ra, rb]; exact Bool.and_eq_false_iff.2 (.inr hm)
  · refine g48_3_5 hx (by omega) (by omega) (fun hc hm => ?_) (fun hc => hk1 ?_) (fun hm => hk1 ?_)
    · omega
    · simp only [f16, f12, f7, fr, ra, rb]; rw [df (by omega), Bool.false_and]
    · simp only [f16, f12, f7, fr, ra, rb]; rw [df (by omega), Bool.false_and]
theorem s48_3_6 {xs : List Int} {pa : Int} {k1 k2 : Prop} (hx : xs.length ≤ 2000000) (h1 : -9223372036854775808 ≤ pa) (h2 : pa ≤ 9223372036854775807) :
    (fr 6 xs.length xs pa = true → IntKind.wrap .i64 (pa - 3) = pa - 3 → k2) → (fr 6 xs.length xs pa = false → k1) → G48_3_6 (IntKind.wrap .i64 (pa - 3)) xs k1 k2 := by
  intro hk2 hk1
  rcases wsub 3 (by omega) (by omega) h1 h2 with ⟨hw, hb⟩ | ⟨hw, hb, hc⟩
  · rw [hw]
    refine g48_3_6 hx (by omega) (by omega) (fun hc hm => hk2 ?_ hw) (fun hc => hk1 ?_) (fun hm => hk1 ?_)
    · simp only [f16, f12, f7, fr, ra, rb]; exact Bool.and_eq_true_iff.2 ⟨dt ⟨by omega, by omega⟩, hm⟩
    · simp only [f16, f12, f7, fr, ra, rb]; rw [df (by omega), Bool.false_and]
    · simp only [f16, f12, f7, fr, ra, rb]; exact Bool.and_eq_false_iff.2 (.inr hm)
  · refine g48_3_6 hx (by omega) (by omega) (fun hc hm => ?_) (fun hc => hk1 ?_) (fun hm => hk1 ?_)
    · omega
    · simp only [f16, f12, f7, fr, ra, rb]; rw [df (by omega), Bool.false_and]
    · simp only [f16, f12, f7, fr, ra, rb]; rw [df (by omega), Bool.false_and]
theorem s48_3_7 {xs : List Int} {pa : Int} {k1 k2 : Prop} (hx : xs.length ≤ 2000000) (h1 : -9223372036854775808 ≤ pa) (h2 : pa ≤ 9223372036854775807) :
    (fr 7 xs.length xs pa = true → IntKind.wrap .i64 (pa - 3) = pa - 3 → k2) → (fr 7 xs.length xs pa = false → k1) → G48_3_7 (IntKind.wrap .i64 (pa - 3)) xs k1 k2 := by
  intro hk2 hk1
  rcases wsub 3 (by omega) (by omega) h1 h2 with ⟨hw, hb⟩ | ⟨hw, hb, hc⟩
  · rw [hw]
    refine g48_3_7 hx (by omega) (by omega) (fun hc hm => hk2 ?_ hw) (fun hc => hk1 ?_) (fun hm => hk1 ?_)
    · simp only [f16, f12, f7, fr, ra, rb]; exact Bool.and_eq_true_iff.2 ⟨dt ⟨by omega, by omega⟩, hm⟩
    · simp only [f16, f12, f7, fr, ra, rb]; rw [df (by omega), Bool.false_and]
    · simp only [f16, f12, f7, fr, ra, rb]; exact Bool.and_eq_false_iff.2 (.inr hm)
  · refine g48_3_7 hx (by omega) (by omega) (fun hc hm => ?_) (fun hc => hk1 ?_) (fun hm => hk1 ?_)
    · omega
    · simp only [f16, f12, f7, fr, ra, rb]; rw [df (by omega), Bool.false_and]
    · simp only [f16, f12, f7, fr, ra, rb]; rw [df (by omega), Bool.false_and]
theorem s48_3_8 {xs : List Int} {pa : Int} {k1 k2 : Prop} (hx : xs.length ≤ 2000000) (h1 : -9223372036854775808 ≤ pa) (h2 : pa ≤ 9223372036854775807) :
    (fr 8 xs.length xs pa = true → IntKind.wrap .i64 (pa - 3) = pa - 3 → k2) → (fr 8 xs.length xs pa = false → k1) → G48_3_8 (IntKind.wrap .i64 (pa - 3)) xs k1 k2 := by
  intro hk2 hk1
  rcases wsub 3 (by omega) (by omega) h1 h2 with ⟨hw, hb⟩ | ⟨hw, hb, hc⟩
  · rw [hw]
    refine g48_3_8 hx (by omega) (by omega) (fun hc hm => hk2 ?_ hw) (fun hc => hk1 ?_) (fun hm => hk1 ?_)
    · simp only [f16, f12, f7, fr, ra, rb]; exact Bool.and_eq_true_iff.2 ⟨dt ⟨by omega, by omega⟩, hm⟩
    · simp only [f16, f12, f7, fr, ra, rb]; rw [df (by omega), Bool.false_and]
    · simp only [f16, f12, f7, fr, ra, rb]; exact Bool.and_eq_false_iff.2 (.inr hm)
  · refine g48_3_8 hx (by omega) (by omega) (fun hc hm => ?_) (fun hc => hk1 ?_) (fun hm => hk1 ?_)
    · omega
    · simp only [f16, f12, f7, fr, ra, rb]; rw [df (by omega), Bool.false_and]
    · simp only [f16, f12, f7, fr, ra, rb]; rw [df (by omega), Bool.false_and]
theorem s48_3_9 {xs : List Int} {pa : Int} {k1 k2 : Prop} (hx : xs.length ≤ 2000000) (h1 : -9223372036854775808 ≤ pa) (h2 : pa ≤ 9223372036854775807) :
    (fr 9 xs.length xs pa = true → IntKind.wrap .i64 (pa - 3) = pa - 3 → k2) → (fr 9 xs.length xs pa = false → k1) → G48_3_9 (IntKind.wrap .i64 (pa - 3)) xs k1 k2 := by
  intro hk2 hk1
  rcases wsub 3 (by omega) (by omega) h1 h2 with ⟨hw, hb⟩ | ⟨hw, hb, hc⟩
  · rw [hw]
    refine g48_3_9 hx (by omega) (by omega) (fun hc hm => hk2 ?_ hw) (fun hc => hk1 ?_) (fun hm => hk1 ?_)
    · simp only [f16, f12, f7, fr, ra, rb]; exact Bool.and_eq_true_iff.2 ⟨dt ⟨by omega, by omega⟩, hm⟩
    · simp only [f16, f12, f7, fr, ra, rb]; rw [df (by omega), Bool.false_and]
    · simp only [f16, f12, f7, fr, ra, rb]; exact Bool.and_eq_false_iff.2 (.inr hm)
  · refine g48_3_9 hx (by omega) (by omega) (fun hc hm => ?_) (fun hc => hk1 ?_) (fun hm => hk1 ?_)
    · omega
    · simp only [f16, f12, f7, fr, ra, rb]; rw [df (by omega), Bool.false_and]
    · simp only [f16, f12, f7, fr, ra, rb]; rw [df (by omega), Bool.false_and]
theorem s48_3_10 {xs : List Int} {pa : Int} {k1 k2 : Prop} (hx : xs.length ≤ 2000000) (h1 : -9223372036854775808 ≤ pa) (h2 : pa ≤ 9223372036854775807) :
    (fr 10 xs.length xs pa = true → IntKind.wrap .i64 (pa - 3) = pa - 3 → k2) → (fr 10 xs.length xs pa = false → k1) → G48_3_10 (IntKind.wrap .i64 (pa - 3)) xs k1 k2 := by
  intro hk2 hk1
  rcases wsub 3 (by omega) (by omega) h1 h2 with ⟨hw, hb⟩ | ⟨hw, hb, hc⟩
  · rw [hw]
    refine g48_3_10 hx (by omega) (by omega) (fun hc hm => hk2 ?_ hw) (fun hc => hk1 ?_) (fun hm => hk1 ?_)
    · simp only [f16, f12, f7, fr, ra, rb]; exact Bool.and_eq_true_iff.2 ⟨dt ⟨by omega, by omega⟩, hm⟩
    · simp only [f16, f12, f7, fr, ra, rb]; rw [df (by omega), Bool.false_and]
    · simp only [f16, f12, f7, fr, ra, rb]; exact Bool.and_eq_false_iff.2 (.inr hm)
  · refine g48_3_10 hx (by omega) (by omega) (fun hc hm => ?_) (fun hc => hk1 ?_) (fun hm => hk1 ?_)
    · omega
    · simp only [f16, f12, f7, fr, ra, rb]; rw [df (by omega), Bool.false_and]
    · simp only [f16, f12, f7, fr, ra, rb]; rw [df (by omega), Bool.false_and]
theorem s48_3_11 {xs : List Int} {pa : Int} {k1 k2 : Prop} (hx : xs.length ≤ 2000000) (h1 : -9223372036854775808 ≤ pa) (h2 : pa ≤ 9223372036854775807) :
    (fr 11 xs.length xs pa = true → IntKind.wrap .i64 (pa - 3) = pa - 3 → k2) → (fr 11 xs.length xs pa = false → k1) → G48_3_11 (IntKind.wrap .i64 (pa - 3)) xs k1 k2 := by
  intro hk2 hk1
  rcases wsub 3 (by omega) (by omega) h1 h2 with ⟨hw, hb⟩ | ⟨hw, hb, hc⟩
  · rw [hw]
    refine g48_3_11 hx (by omega) (by omega) (fun hc hm => hk2 ?_ hw) (fun hc => hk1 ?_) (fun hm => hk1 ?_)
    · simp only [f16, f12, f7, fr, ra, rb]; exact Bool.and_eq_true_iff.2 ⟨dt ⟨by omega, by omega⟩, hm⟩
    · simp only [f16, f12, f7, fr, ra, rb]; rw [df (by omega), Bool.false_and]
    · simp only [f16, f12, f7, fr, ra, rb]; exact Bool.and_eq_false_iff.2 (.inr hm)
  · refine g48_3_11 hx (by omega) (by omega) (fun hc hm => ?_) (fun hc => hk1 ?_) (fun hm => hk1 ?_)
    · omega
    · simp only [f16, f12, f7, fr, ra, rb]; rw [df (by omega), Bool.false_and]
    · simp only [f16, f12, f7, fr, ra, rb]; rw [df (by omega), Bool.false_and]
theorem s48_3_12 {xs : List Int} {pa : Int} {k1 k2 : Prop} (hx : xs.length ≤ 2000000) (h1 : -9223372036854775808 ≤ pa) (h2 : pa ≤ 9223372036854775807) :
    (fr 12 xs.length xs pa = true → IntKind.wrap .i64 (pa - 3) = pa - 3 → k2) → (fr 12 xs.length xs pa = false → k1) → G48_3_12 (IntKind.wrap .i64 (pa - 3)) xs k1 k2 := by
  intro hk2 hk1
  rcases wsub 3 (by omega) (by omega) h1 h2 with ⟨hw, hb⟩ | ⟨hw, hb, hc⟩
  · rw [hw]
    refine g48_3_12 hx (by omega) (by omega) (fun hc hm => hk2 ?_ hw) (fun hc => hk1 ?_) (fun hm => hk1 ?_)
    · simp only [f16, f12, f7, fr, ra, rb]; exact Bool.and_eq_true_iff.2 ⟨dt ⟨by omega, by omega⟩, hm⟩
    · simp only [f16, f12, f7, fr, ra, rb]; rw [df (by omega), Bool.false_and]
    · simp only [f16, f12, f7, fr, ra, rb]; exact Bool.and_eq_false_iff.2 (.inr hm)
  · refine g48_3_12 hx (by omega) (by omega) (fun hc hm => ?_) (fun hc => hk1 ?_) (fun hm => hk1 ?_)
    · omega
    · simp only [f16, f12, f7, fr, ra, rb]; rw [df (by omega), Bool.false_and]
    · simp only [f16, f12, f7, fr, ra, rb]; rw [df (by omega), Bool.false_and]
theorem s48_3_13 {xs : List Int} {pa : Int} {k1 k2 : Prop} (hx : xs.length ≤ 2000000) (h1 : -9223372036854775808 ≤ pa) (h2 : pa ≤ 9223372036854775807) :
    (fr 13 xs.length xs pa = true → IntKind.wrap .i64 (pa - 3) = pa - 3 → k2) → (fr 13 xs.length xs pa = false → k1) → G48_3_13 (IntKind.wrap .i64 (pa - 3)) xs k1 k2 := by
  intro hk2 hk1
  rcases wsub 3 (by omega) (by omega) h1 h2 with ⟨hw, hb⟩ | ⟨hw, hb, hc⟩
  · rw [hw]
    refine g48_3_13 hx (by omega) (by omega) (fun hc hm => hk2 ?_ hw) (fun hc => hk1 ?_) (fun hm => hk1 ?_)
    · simp only [f16, f12, f7, fr, ra, rb]; exact Bool.and_eq_true_iff.2 ⟨dt ⟨by omega, by omega⟩, hm⟩
    · simp only [f16, f12, f7, fr, ra, rb]; rw [df (by omega), Bool.false_and]
    · simp only [f16, f12, f7, fr, ra, rb]; exact Bool.and_eq_false_iff.2 (.inr hm)
  · refine g48_3_13 hx (by omega) (by omega) (fun hc hm => ?_) (fun hc => hk1 ?_) (fun hm => hk1 ?_)
    · omega
    · simp only [f16, f12, f7, fr, ra, rb]; rw [df (by omega), Bool.false_and]
    · simp only [f16, f12, f7, fr, ra, rb]; rw [df (by omega), Bool.false_and]
theorem s48_3_14 {xs : List Int} {pa : Int} {k1 k2 : Prop} (hx : xs.length ≤ 2000000) (h1 : -9223372036854775808 ≤ pa) (h2 : pa ≤ 9223372036854775807) :
    (fr 14 xs.length xs pa = true → IntKind.wrap .i64 (pa - 3) = pa - 3 → k2) → (fr 14 xs.length xs pa = false → k1) → G48_3_14 (IntKind.wrap .i64 (pa - 3)) xs k1 k2 := by
  intro hk2 hk1
  rcases wsub 3 (by omega) (by omega) h1 h2 with ⟨hw, hb⟩ | ⟨hw, hb, hc⟩
  · rw [hw]
    refine g48_3_14 hx (by omega) (by omega) (fun hc hm => hk2 ?_ hw) (fun hc => hk1 ?_) (fun hm => hk1 ?_)
    · simp only [f16, f12, f7, fr, ra, rb]; exact Bool.and_eq_true_iff.2 ⟨dt ⟨by omega, by omega⟩, hm⟩
    · simp only [f16, f12, f7, fr, ra, rb]; rw [df (by omega), Bool.false_and]
    · simp only [f16, f12, f7, fr, ra, rb]; exact Bool.and_eq_false_iff.2 (.inr hm)
  · refine g48_3_14 hx (by omega) (by omega) (fun hc hm => ?_) (fun hc => hk1 ?_) (fun hm => hk1 ?_)
    · omega
    · simp only [f16, f12, f7, fr, ra, rb]; rw [df (by omega), Bool.false_and]
    · simp only [f16, f12, f7, fr, ra, rb]; rw [df (by omega), Bool.false_and]
theorem s48_3_15 {xs : List Int} {pa : Int} {k1 k2 : Prop} (hx : xs.length ≤ 2000000) (h1 : -9223372036854775808 ≤ pa) (h2 : pa ≤ 9223372036854775807) :
    (fr 15 xs.length xs pa = true → IntKind.wrap .i64 (pa - 3) = pa - 3 → k2) → (fr 15 xs.length xs pa = false → k1) → G48_3_15 (IntKind.wrap .i64 (pa - 3)) xs k1 k2 := by
  intro hk2 hk1
  rcases wsub 3 (by omega) (by omega) h1 h2 with ⟨hw, hb⟩ | ⟨hw, hb, hc⟩
  · rw [hw]
    refine g48_3_15 hx (by omega) (by omega) (fun hc hm => hk2 ?_ hw) (fun hc => hk1 ?_) (fun hm => hk1 ?_)
    · simp only [f16, f12, f7, fr, ra, rb]; exact Bool.and_eq_true_iff.2 ⟨dt ⟨by omega, by omega⟩, hm⟩
    · simp only [f16, f12, f7, fr, ra, rb]; rw [df (by omega), Bool.false_and]
    · simp only [f16, f12, f7, fr, ra, rb]; exact Bool.and_eq_false_iff.2 (.inr hm)
  · refine g48_3_15 hx (by omega) (by omega) (fun hc hm => ?_) (fun hc => hk1 ?_) (fun hm => hk1 ?_)
    · omega
    · simp only [f16, f12, f7, fr, ra, rb]; rw [df (by omega), Bool.false_and]
    · simp only [f16, f12, f7, fr, ra, rb]; rw [df (by omega), Bool.false_and]
theorem stepj {P : Nat → Prop} {r : Nat} (h : ∀ j, j < r → P j) (n : P r) : ∀ j, j < r + 1 → P j := fun j hj => by
  by_cases e : j = r
  · subst e; exact n
  · exact h j (by omega)
theorem g18_19 {xs : List Int} {pa : Int} {k1 : Int → Prop} {k2 : Int → Int → Prop} {k3 : Int → Int → Prop} {k4 : Int → Int → Prop} {k5 : Int → Prop} (hx : xs.length ≤ 2000000) (h1 : -9223372036854775808 ≤ pa) (h2 : pa ≤ 9223372036854775807) :
    (f16 xs.length xs pa = true → k2 (pa - 4) 0) → (f16 xs.length xs pa = false → k1 0) → G18 pa 19 xs k1 k2 k3 k4 k5 := by
  intro a b
  show G48_1 (IntKind.wrap .i64 (pa - 4)) xs (k1 0) (k2 (IntKind.wrap .i64 (pa - 4)) 0)
  exact s48_1 hx h1 h2 (fun h hw => by rw [hw]; exact a h) b
theorem g18_20 {xs : List Int} {pa : Int} {k1 : Int → Prop} {k2 : Int → Int → Prop} {k3 : Int → Int → Prop} {k4 : Int → Int → Prop} {k5 : Int → Prop} (hx : xs.length ≤ 2000000) (h1 : -9223372036854775808 ≤ pa) (h2 : pa ≤ 9223372036854775807) :
    (f12 xs.length xs pa = true → k3 (pa - 3) 0) → (f12 xs.length xs pa = false → k1 0) → G18 pa 20 xs k1 k2 k3 k4 k5 := by
  intro a b
  show G48_2 (IntKind.wrap .i64 (pa - 3)) xs (k1 0) (k3 (IntKind.wrap .i64 (pa - 3)) 0)
  exact s48_2 hx h1 h2 (fun h hw => by rw [hw]; exact a h) b
theorem g18_22 {xs : List Int} {pa : Int} {k1 : Int → Prop} {k2 : Int → Int → Prop} {k3 : Int → Int → Prop} {k4 : Int → Int → Prop} {k5 : Int → Prop} (hx : xs.length ≤ 2000000) (h1 : -9223372036854775808 ≤ pa) (h2 : pa ≤ 9223372036854775807) :
    (∀ r, r < 16 → fr r xs.length xs pa = true → (∀ j, j < r → fr j xs.length xs pa = false) → k4 (pa - 3) (r : Nat)) → ((∀ j, j < 16 → fr j xs.length xs pa = false) → k1 0) → G18 pa 22 xs k1 k2 k3 k4 k5 := by
  intro a b
  show (G48_3_0 (IntKind.wrap .i64 (pa - 3)) xs (G48_3_1 (IntKind.wrap .i64 (pa - 3)) xs (G48_3_2 (IntKind.wrap .i64 (pa - 3)) xs (G48_3_3 (IntKind.wrap .i64 (pa - 3)) xs (G48_3_4 (IntKind.wrap .i64 (pa - 3)) xs (G48_3_5 (IntKind.wrap .i64 (pa - 3)) xs (G48_3_6 (IntKind.wrap .i64 (pa - 3)) xs (G48_3_7 (IntKind.wrap .i64 (pa - 3)) xs (G48_3_8 (IntKind.wrap .i64 (pa - 3)) xs (G48_3_9 (IntKind.wrap .i64 (pa - 3)) xs (G48_3_10 (IntKind.wrap .i64 (pa - 3)) xs (G48_3_11 (IntKind.wrap .i64 (pa - 3)) xs (G48_3_12 (IntKind.wrap .i64 (pa - 3)) xs (G48_3_13 (IntKind.wrap .i64 (pa - 3)) xs (G48_3_14 (IntKind.wrap .i64 (pa - 3)) xs (G48_3_15 (IntKind.wrap .i64 (pa - 3)) xs (k1 0) (k4 (IntKind.wrap .i64 (pa - 3)) 15)) (k4 (IntKind.wrap .i64 (pa - 3)) 14)) (k4 (IntKind.wrap .i64 (pa - 3)) 13)) (k4 (IntKind.wrap .i64 (pa - 3)) 12)) (k4 (IntKind.wrap .i64 (pa - 3)) 11)) (k4 (IntKind.wrap .i64 (pa - 3)) 10)) (k4 (IntKind.wrap .i64 (pa - 3)) 9)) (k4 (IntKind.wrap .i64 (pa - 3)) 8)) (k4 (IntKind.wrap .i64 (pa - 3)) 7)) (k4 (IntKind.wrap .i64 (pa - 3)) 6)) (k4 (IntKind.wrap .i64 (pa - 3)) 5)) (k4 (IntKind.wrap .i64 (pa - 3)) 4)) (k4 (IntKind.wrap .i64 (pa - 3)) 3)) (k4 (IntKind.wrap .i64 (pa - 3)) 2)) (k4 (IntKind.wrap .i64 (pa - 3)) 1)) (k4 (IntKind.wrap .i64 (pa - 3)) 0))
  have p0 : ∀ j, j < 0 → fr j xs.length xs pa = false := fun j hj => by omega
  refine s48_3_0 hx h1 h2 (fun h hw => by rw [hw]; exact a 0 (by omega) h p0) (fun n => ?_)
  have p1 := stepj p0 n
  clear p0 n
  refine s48_3_1 hx h1 h2 (fun h hw => by rw [hw]; exact a 1 (by omega) h p1) (fun n => ?_)
  have p2 := stepj p1 n
  clear p1 n
  refine s48_3_2 hx h1 h2 (fun h hw => by rw [hw]; exact a 2 (by omega) h p2) (fun n => ?_)
  have p3 := stepj p2 n
  clear p2 n
  refine s48_3_3 hx h1 h2 (fun h hw => by rw [hw]; exact a 3 (by omega) h p3) (fun n => ?_)
  have p4 := stepj p3 n
  clear p3 n
  refine s48_3_4 hx h1 h2 (fun h hw => by rw [hw]; exact a 4 (by omega) h p4) (fun n => ?_)
  have p5 := stepj p4 n
  clear p4 n
  refine s48_3_5 hx h1 h2 (fun h hw => by rw [hw]; exact a 5 (by omega) h p5) (fun n => ?_)
  have p6 := stepj p5 n
  clear p5 n
  refine s48_3_6 hx h1 h2 (fun h hw => by rw [hw]; exact a 6 (by omega) h p6) (fun n => ?_)
  have p7 := stepj p6 n
  clear p6 n
  refine s48_3_7 hx h1 h2 (fun h hw => by rw [hw]; exact a 7 (by omega) h p7) (fun n => ?_)
  have p8 := stepj p7 n
  clear p7 n
  refine s48_3_8 hx h1 h2 (fun h hw => by rw [hw]; exact a 8 (by omega) h p8) (fun n => ?_)
  have p9 := stepj p8 n
  clear p8 n
  refine s48_3_9 hx h1 h2 (fun h hw => by rw [hw]; exact a 9 (by omega) h p9) (fun n => ?_)
  have p10 := stepj p9 n
  clear p9 n
  refine s48_3_10 hx h1 h2 (fun h hw => by rw [hw]; exact a 10 (by omega) h p10) (fun n => ?_)
  have p11 := stepj p10 n
  clear p10 n
  refine s48_3_11 hx h1 h2 (fun h hw => by rw [hw]; exact a 11 (by omega) h p11) (fun n => ?_)
  have p12 := stepj p11 n
  clear p11 n
  refine s48_3_12 hx h1 h2 (fun h hw => by rw [hw]; exact a 12 (by omega) h p12) (fun n => ?_)
  have p13 := stepj p12 n
  clear p12 n
  refine s48_3_13 hx h1 h2 (fun h hw => by rw [hw]; exact a 13 (by omega) h p13) (fun n => ?_)
  have p14 := stepj p13 n
  clear p13 n
  refine s48_3_14 hx h1 h2 (fun h hw => by rw [hw]; exact a 14 (by omega) h p14) (fun n => ?_)
  have p15 := stepj p14 n
  clear p14 n
  refine s48_3_15 hx h1 h2 (fun h hw => by rw [hw]; exact a 15 (by omega) h p15) (fun n => ?_)
  have p16 := stepj p15 n
  clear p15 n
  exact b p16
theorem g18_23 {xs : List Int} {pa : Int} {k1 : Int → Prop} {k2 : Int → Int → Prop} {k3 : Int → Int → Prop} {k4 : Int → Int → Prop} {k5 : Int → Prop} (hx : xs.length ≤ 2000000) (h1 : -9223372036854775808 ≤ pa) (h2 : pa ≤ 9223372036854775807) :
    (0 ≤ pa ∧ pa + 4 ≤ xs.length → k5 0) → (¬ (0 ≤ pa ∧ pa + 4 ≤ xs.length) → k1 0) → G18 pa 23 xs k1 k2 k3 k4 k5 := by
  intro a b
  show (bif (decide (pa ≥ 0)) then (bif (decide (pa ≤ ((xs.length - 0 : Nat) : Int))) then (bif (decide (4 ≤ IntKind.wrap .i64 (((xs.length - 0 : Nat) : Int) - pa))) then k5 0 else k1 0) else k1 0) else k1 0)
  by_cases c0 : pa ≥ 0
  · by_cases c1 : pa ≤ ((xs.length - 0 : Nat) : Int)
    · by_cases c2 : pa + 4 ≤ xs.length
      · simp (disch := omega) only [wid, dt, df, cond_true, cond_false]; exact a ⟨c0, c2⟩
      · simp (disch := omega) only [wid, dt, df, cond_true, cond_false]; exact b (by omega)
    · simp (disch := omega) only [wid, dt, df, cond_true, cond_false]; exact b (by omega)
  · simp (disch := omega) only [wid, dt, df, cond_true, cond_false]; exact b (by omega)
theorem g18_no {xs : List Int} {pa t : Int} {k1 : Int → Prop} {k2 : Int → Int → Prop} {k3 : Int → Int → Prop} {k4 : Int → Int → Prop} {k5 : Int → Prop} (e1 : t ≠ 19) (e2 : t ≠ 20) (e3 : t ≠ 22) (e4 : t ≠ 23) : k1 0 → G18 pa t xs k1 k2 k3 k4 k5 := by
  intro h
  unfold G18 F18
  have q1 : (t == (19 : Int)) = false := by simpa using e1
  have q2 : (t == (20 : Int)) = false := by simpa using e2
  have q3 : (t == (22 : Int)) = false := by simpa using e3
  have q4 : (t == (23 : Int)) = false := by simpa using e4
  rw [q1, q2, q3, q4]
  exact h
end Go.Proofs.Ytnndiicpiolddaa.tls
