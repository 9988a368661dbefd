import Derived.Test.YtnndiicpiolddaaBak2
set_option linter.unusedVariables false
set_option linter.unusedSimpArgs false
namespace Go.Proofs.Ytnndiicpiolddaa.bak
open Go Go.Ab
def setAll (xs : List Int) (q : Nat) : List Int → List Int
  | [] => xs
  | a :: w => setAll (xs.set q a) (q + 1) w
theorem setL : ∀ (w xs : List Int) (q : Nat), q + w.length ≤ xs.length → setAll xs q w = (List.take q xs ++ w) ++ List.drop (q + w.length) xs
  | [], xs, q, h => by simp [setAll]
  | a :: w, xs, q, h => by
    simp only [List.length_cons] at h
    simp only [setAll]
    rw [setL w (xs.set q a) (q + 1) (by simp; omega)]
    apply List.ext_getElem?
    intro i
    have hl : (List.take q xs).length = q := by simp; omega
    have hl2 : (List.take (q + 1) (xs.set q a)).length = q + 1 := by simp; omega
    simp only [List.getElem?_append, List.length_append, hl, hl2, List.length_cons, List.getElem?_take, List.getElem?_drop, List.getElem?_set]
    by_cases h1 : i < q
    · simp [h1, show i < q + 1 + w.length from by omega, show i < q + 1 from by omega, show i < q + (w.length + 1) from by omega, show q ≠ i from by omega]
    · by_cases h2 : i = q
      · subst h2
        simp [show i < i + 1 + w.length from by omega, show i < i + (w.length + 1) from by omega, show i < xs.length from by omega]
      · by_cases h3 : i < q + 1 + w.length
        · have : i - q = (i - (q + 1)) + 1 := by omega
          simp [h1, h3, show ¬ i < q + 1 from by omega, show i < q + (w.length + 1) from by omega, this]
        · simp [h3, show ¬ i < q + (w.length + 1) from by omega]
          have e1 : q + 1 + w.length + (i - (q + 1 + w.length)) = i := by omega
          have e2 : q + (w.length + 1) + (i - (q + (w.length + 1))) = i := by omega
          rw [e1, e2, if_neg (by omega)]
def le8 (n : Int) : List Int := [(IntKind.wrap .u8 (Int.fdiv (IntKind.wrap .u64 n) (2 ^ 0))), (IntKind.wrap .u8 (Int.fdiv (IntKind.wrap .u64 n) (2 ^ 8))), (IntKind.wrap .u8 (Int.fdiv (IntKind.wrap .u64 n) (2 ^ 16))), (IntKind.wrap .u8 (Int.fdiv (IntKind.wrap .u64 n) (2 ^ 24))), (IntKind.wrap .u8 (Int.fdiv (IntKind.wrap .u64 n) (2 ^ 32))), (IntKind.wrap .u8 (Int.fdiv (IntKind.wrap .u64 n) (2 ^ 40))), (IntKind.wrap .u8 (Int.fdiv (IntKind.wrap .u64 n) (2 ^ 48))), (IntKind.wrap .u8 (Int.fdiv (IntKind.wrap .u64 n) (2 ^ 56)))]
def relA (xs : List Int) (q s : Nat) (w : List Int) : List Int := (List.take q xs ++ w) ++ List.drop (q + s) xs
theorem relL (xs : List Int) (q s : Nat) (w : List Int) (hw : w.length = s) (h : q + s ≤ xs.length) : setAll xs q w = relA xs q s w := by
  rw [setL w xs q (by omega), relA, hw]
theorem f0 (a : Int) : Int.fdiv a (2 ^ 0) = a := by simp
theorem f1 (a : Int) : Int.fdiv (Int.fdiv a (2 ^ 8)) (2 ^ 8) = Int.fdiv a (2 ^ 16) := by
  rw [Int.fdiv_eq_ediv_of_nonneg _ (by decide), Int.fdiv_eq_ediv_of_nonneg _ (by decide), Int.fdiv_eq_ediv_of_nonneg _ (by decide)]
  simp only [Int.reducePow]; omega
theorem f2 (a : Int) : Int.fdiv (Int.fdiv a (2 ^ 16)) (2 ^ 8) = Int.fdiv a (2 ^ 24) := by
  rw [Int.fdiv_eq_ediv_of_nonneg _ (by decide), Int.fdiv_eq_ediv_of_nonneg _ (by decide), Int.fdiv_eq_ediv_of_nonneg _ (by decide)]
  simp only [Int.reducePow]; omega
theorem f3 (a : Int) : Int.fdiv (Int.fdiv a (2 ^ 24)) (2 ^ 8) = Int.fdiv a (2 ^ 32) := by
  rw [Int.fdiv_eq_ediv_of_nonneg _ (by decide), Int.fdiv_eq_ediv_of_nonneg _ (by decide), Int.fdiv_eq_ediv_of_nonneg _ (by decide)]
  simp only [Int.reducePow]; omega
theorem f4 (a : Int) : Int.fdiv (Int.fdiv a (2 ^ 32)) (2 ^ 8) = Int.fdiv a (2 ^ 40) := by
  rw [Int.fdiv_eq_ediv_of_nonneg _ (by decide), Int.fdiv_eq_ediv_of_nonneg _ (by decide), Int.fdiv_eq_ediv_of_nonneg _ (by decide)]
  simp only [Int.reducePow]; omega
theorem f5 (a : Int) : Int.fdiv (Int.fdiv a (2 ^ 40)) (2 ^ 8) = Int.fdiv a (2 ^ 48) := by
  rw [Int.fdiv_eq_ediv_of_nonneg _ (by decide), Int.fdiv_eq_ediv_of_nonneg _ (by decide), Int.fdiv_eq_ediv_of_nonneg _ (by decide)]
  simp only [Int.reducePow]; omega
theorem f6 (a : Int) : Int.fdiv (Int.fdiv a (2 ^ 48)) (2 ^ 8) = Int.fdiv a (2 ^ 56) := by
  rw [Int.fdiv_eq_ediv_of_nonneg _ (by decide), Int.fdiv_eq_ediv_of_nonneg _ (by decide), Int.fdiv_eq_ediv_of_nonneg _ (by decide)]
  simp only [Int.reducePow]; omega
theorem le8_eq (n : Int) : ([(IntKind.wrap .u8 (IntKind.wrap .u64 n)), (IntKind.wrap .u8 (Int.fdiv (IntKind.wrap .u64 n) (2 ^ 8))), (IntKind.wrap .u8 (Int.fdiv (Int.fdiv (IntKind.wrap .u64 n) (2 ^ 8)) (2 ^ 8))), (IntKind.wrap .u8 (Int.fdiv (Int.fdiv (Int.fdiv (IntKind.wrap .u64 n) (2 ^ 8)) (2 ^ 8)) (2 ^ 8))), (IntKind.wrap .u8 (Int.fdiv (Int.fdiv (Int.fdiv (Int.fdiv (IntKind.wrap .u64 n) (2 ^ 8)) (2 ^ 8)) (2 ^ 8)) (2 ^ 8))), (IntKind.wrap .u8 (Int.fdiv (Int.fdiv (Int.fdiv (Int.fdiv (Int.fdiv (IntKind.wrap .u64 n) (2 ^ 8)) (2 ^ 8)) (2 ^ 8)) (2 ^ 8)) (2 ^ 8))), (IntKind.wrap .u8 (Int.fdiv (Int.fdiv (Int.fdiv (Int.fdiv (Int.fdiv (Int.fdiv (IntKind.wrap .u64 n) (2 ^ 8)) (2 ^ 8)) (2 ^ 8)) (2 ^ 8)) (2 ^ 8)) (2 ^ 8))), (IntKind.wrap .u8 (Int.fdiv (Int.fdiv (Int.fdiv (Int.fdiv (Int.fdiv (Int.fdiv (Int.fdiv (IntKind.wrap .u64 n) (2 ^ 8)) (2 ^ 8)) (2 ^ 8)) (2 ^ 8)) (2 ^ 8)) (2 ^ 8)) (2 ^ 8)))] : List Int) = le8 n := by
  unfold le8
  rw [f0, f1, f2, f3, f4, f5, f6]
theorem le4_eq (n : Int) : ([(IntKind.wrap .u8 (IntKind.wrap .u64 n)), (IntKind.wrap .u8 (Int.fdiv (IntKind.wrap .u64 n) (2 ^ 8))), (IntKind.wrap .u8 (Int.fdiv (Int.fdiv (IntKind.wrap .u64 n) (2 ^ 8)) (2 ^ 8))), (IntKind.wrap .u8 (Int.fdiv (Int.fdiv (Int.fdiv (IntKind.wrap .u64 n) (2 ^ 8)) (2 ^ 8)) (2 ^ 8)))] : List Int) = (le8 n).take 4 := by
  have h := congrArg (List.take 4) (le8_eq n)
  exact h
theorem n23l {t ps pad pp pg ptp : Int} {k1 k2 : Prop} {k3 : Int → Prop} (h : ¬ okT t) (hk : k1) : G23l t ps pad pp pg ptp k1 k2 k3 := by
  unfold G23l F23l; exact g54_no h _ _ _ _ _ _ _ (fun _ => hk)
theorem g26 {pa t ps pad pp pg ptp : Int} {xs : List Int} {k1 k2 k3 k4 : Prop} {k5 : List Int → Prop} (hx : xs.length ≤ 1048576) (p1 : -9223372036854775808 ≤ pa) (p2 : pa ≤ 9223372036854775807)
    (n1 : ¬ okT t → k2) (n2 : okT t → ¬ bd ps pad pp pg ptp → k3) (n3 : okT t → bd ps pad pp pg ptp → ¬ (0 ≤ pa ∧ pa + sz t ≤ xs.length) → k2) (n4 : okT t → bd ps pad pp pg ptp → (0 ≤ pa ∧ pa + sz t ≤ xs.length) → fitb t (valT t ps pad pp pg ptp) = false → k4)
    (n5 : ∀ q : Nat, pa = q → okT t → bd ps pad pp pg ptp → q + sz t ≤ xs.length → fitb t (valT t ps pad pp pg ptp) = true → k5 (relA xs q (sz t) ((le8 (valT t ps pad pp pg ptp)).take (sz t)))) : G26 pa t ps pad pp pg ptp xs k1 k2 k3 k4 k5 := by
  unfold G26 F26
  simp (disch := omega) only [df, cond_false]
  by_cases hok : okT t
  · refine g23l (fun h => absurd hok h) (n2 hok) (fun _ hb => ?_)
    have n3 := n3 hok hb
    have n4 := n4 hok hb
    have n5 := fun q h => n5 q h hok hb
    clear n1 n2
    generalize valT t ps pad pp pg ptp = v at *
    unfold okT at hok
    rcases hok with rfl | rfl | rfl | rfl | rfl | rfl | rfl | rfl | rfl
    · have es : sz 1 = 8 := rfl
      rw [es] at n3 n4 n5
      rw [e54_1]
      by_cases hp : 0 ≤ pa ∧ pa + (8 : Nat) ≤ (xs.length : Int)
      · obtain ⟨q, rfl⟩ := Int.eq_ofNat_of_zero_le hp.1
        have hq : q + 8 ≤ xs.length := by omega
        have hm : min 8 (xs.length - q) = 8 := by omega
        simp (disch := omega) only [wid, dt, df, cond_true, cond_false, Bool.and_self, Bool.not_true, Bool.not_false, Int.toNat_natCast, Nat.sub_zero, hm]
        exact n5 q rfl hq rfl
      · have n3 := n3 hp
        by_cases c0 : pa < 0
        · simp (disch := omega) only [dt, cond_true]; exact n3
        by_cases c1 : pa > ((xs.length - 0 : Nat) : Int)
        · simp (disch := omega) only [df, cond_false, dt, cond_true]; exact n3
        simp (disch := omega) only [df, cond_false, wid, dt, cond_true]; exact n3
    · have es : sz 2 = 4 := rfl
      rw [es] at n3 n4 n5
      rw [e54_2]
      by_cases hp : 0 ≤ pa ∧ pa + (4 : Nat) ≤ (xs.length : Int)
      · obtain ⟨q, rfl⟩ := Int.eq_ofNat_of_zero_le hp.1
        have hq : q + 4 ≤ xs.length := by omega
        have hm : min 4 (xs.length - q) = 4 := by omega
        have ef : fitb 2 v = decide (-2147483648 ≤ v ∧ v < 2147483648) := by simp [fitb]
        rw [ef] at n4 n5
        by_cases c1 : v ≥ -2147483648
        · by_cases c2 : v < 2147483648
          · simp (disch := omega) only [wid, dt, df, cond_true, cond_false, Bool.and_self, Bool.not_true, Bool.not_false, Int.toNat_natCast, Nat.sub_zero, hm]
            exact n5 q rfl hq (dt ⟨by omega, c2⟩)
          · simp (disch := omega) only [wid, dt, df, cond_true, cond_false, Bool.and_self, Bool.not_true, Bool.not_false, Int.toNat_natCast, Nat.sub_zero, hm]
            exact n4 hp (df (by omega))
        · simp (disch := omega) only [wid, dt, df, cond_true, cond_false, Bool.and_self, Bool.not_true, Bool.not_false, Int.toNat_natCast, Nat.sub_zero, hm]
          exact n4 hp (df (by omega))
      · have n3 := n3 hp
        by_cases c0 : pa < 0
        · simp (disch := omega) only [dt, cond_true]; exact n3
        by_cases c1 : pa > ((xs.length - 0 : Nat) : Int)
        · simp (disch := omega) only [df, cond_false, dt, cond_true]; exact n3
        simp (disch := omega) only [df, cond_false, wid, dt, cond_true]; exact n3
    · have es : sz 4 = 4 := rfl
      rw [es] at n3 n4 n5
      rw [e54_4]
      by_cases hp : 0 ≤ pa ∧ pa + (4 : Nat) ≤ (xs.length : Int)
      · obtain ⟨q, rfl⟩ := Int.eq_ofNat_of_zero_le hp.1
        have hq : q + 4 ≤ xs.length := by omega
        have hm : min 4 (xs.length - q) = 4 := by omega
        have ef : fitb 4 v = decide (-2147483648 ≤ v ∧ v < 2147483648) := by simp [fitb]
        rw [ef] at n4 n5
        by_cases c1 : v ≥ -2147483648
        · by_cases c2 : v < 2147483648
          · simp (disch := omega) only [wid, dt, df, cond_true, cond_false, Bool.and_self, Bool.not_true, Bool.not_false, Int.toNat_natCast, Nat.sub_zero, hm]
            exact n5 q rfl hq (dt ⟨by omega, c2⟩)
          · simp (disch := omega) only [wid, dt, df, cond_true, cond_false, Bool.and_self, Bool.not_true, Bool.not_false, Int.toNat_natCast, Nat.sub_zero, hm]
            exact n4 hp (df (by omega))
        · simp (disch := omega) only [wid, dt, df, cond_true, cond_false, Bool.and_self, Bool.not_true, Bool.not_false, Int.toNat_natCast, Nat.sub_zero, hm]
          exact n4 hp (df (by omega))
      · have n3 := n3 hp
        by_cases c0 : pa < 0
        · simp (disch := omega) only [dt, cond_true]; exact n3
        by_cases c1 : pa > ((xs.length - 0 : Nat) : Int)
        · simp (disch := omega) only [df, cond_false, dt, cond_true]; exact n3
        simp (disch := omega) only [df, cond_false, wid, dt, cond_true]; exact n3
    · have es : sz 9 = 4 := rfl
      rw [es] at n3 n4 n5
      rw [e54_9]
      by_cases hp : 0 ≤ pa ∧ pa + (4 : Nat) ≤ (xs.length : Int)
      · obtain ⟨q, rfl⟩ := Int.eq_ofNat_of_zero_le hp.1
        have hq : q + 4 ≤ xs.length := by omega
        have hm : min 4 (xs.length - q) = 4 := by omega
        have ef : fitb 9 v = decide (-2147483648 ≤ v ∧ v < 2147483648) := by simp [fitb]
        rw [ef] at n4 n5
        by_cases c1 : v ≥ -2147483648
        · by_cases c2 : v < 2147483648
          · simp (disch := omega) only [wid, dt, df, cond_true, cond_false, Bool.and_self, Bool.not_true, Bool.not_false, Int.toNat_natCast, Nat.sub_zero, hm]
            exact n5 q rfl hq (dt ⟨by omega, c2⟩)
          · simp (disch := omega) only [wid, dt, df, cond_true, cond_false, Bool.and_self, Bool.not_true, Bool.not_false, Int.toNat_natCast, Nat.sub_zero, hm]
            exact n4 hp (df (by omega))
        · simp (disch := omega) only [wid, dt, df, cond_true, cond_false, Bool.and_self, Bool.not_true, Bool.not_false, Int.toNat_natCast, Nat.sub_zero, hm]
          exact n4 hp (df (by omega))
      · have n3 := n3 hp
        by_cases c0 : pa < 0
        · simp (disch := omega) only [dt, cond_true]; exact n3
        by_cases c1 : pa > ((xs.length - 0 : Nat) : Int)
        · simp (disch := omega) only [df, cond_false, dt, cond_true]; exact n3
        simp (disch := omega) only [df, cond_false, wid, dt, cond_true]; exact n3
    · have es : sz 10 = 4 := rfl
      rw [es] at n3 n4 n5
      rw [e54_10]
      by_cases hp : 0 ≤ pa ∧ pa + (4 : Nat) ≤ (xs.length : Int)
      · obtain ⟨q, rfl⟩ := Int.eq_ofNat_of_zero_le hp.1
        have hq : q + 4 ≤ xs.length := by omega
        have hm : min 4 (xs.length - q) = 4 := by omega
        have ef : fitb 10 v = decide (0 ≤ v ∧ v < 4294967296) := by simp [fitb]
        rw [ef] at n4 n5
        by_cases c1 : v ≥ 0
        · by_cases c2 : v < 4294967296
          · simp (disch := omega) only [wid, dt, df, cond_true, cond_false, Bool.and_self, Bool.not_true, Bool.not_false, Int.toNat_natCast, Nat.sub_zero, hm]
            exact n5 q rfl hq (dt ⟨by omega, c2⟩)
          · simp (disch := omega) only [wid, dt, df, cond_true, cond_false, Bool.and_self, Bool.not_true, Bool.not_false, Int.toNat_natCast, Nat.sub_zero, hm]
            exact n4 hp (df (by omega))
        · simp (disch := omega) only [wid, dt, df, cond_true, cond_false, Bool.and_self, Bool.not_true, Bool.not_false, Int.toNat_natCast, Nat.sub_zero, hm]
          exact n4 hp (df (by omega))
      · have n3 := n3 hp
        by_cases c0 : pa < 0
        · simp (disch := omega) only [dt, cond_true]; exact n3
        by_cases c1 : pa > ((xs.length - 0 : Nat) : Int)
        · simp (disch := omega) only [df, cond_false, dt, cond_true]; exact n3
        simp (disch := omega) only [df, cond_false, wid, dt, cond_true]; exact n3
    · have es : sz 11 = 4 := rfl
      rw [es] at n3 n4 n5
      rw [e54_11]
      by_cases hp : 0 ≤ pa ∧ pa + (4 : Nat) ≤ (xs.length : Int)
      · obtain ⟨q, rfl⟩ := Int.eq_ofNat_of_zero_le hp.1
        have hq : q + 4 ≤ xs.length := by omega
        have hm : min 4 (xs.length - q) = 4 := by omega
        have ef : fitb 11 v = decide (-2147483648 ≤ v ∧ v < 2147483648) := by simp [fitb]
        rw [ef] at n4 n5
        by_cases c1 : v ≥ -2147483648
        · by_cases c2 : v < 2147483648
          · simp (disch := omega) only [wid, dt, df, cond_true, cond_false, Bool.and_self, Bool.not_true, Bool.not_false, Int.toNat_natCast, Nat.sub_zero, hm]
            exact n5 q rfl hq (dt ⟨by omega, c2⟩)
          · simp (disch := omega) only [wid, dt, df, cond_true, cond_false, Bool.and_self, Bool.not_true, Bool.not_false, Int.toNat_natCast, Nat.sub_zero, hm]
            exact n4 hp (df (by omega))
        · simp (disch := omega) only [wid, dt, df, cond_true, cond_false, Bool.and_self, Bool.not_true, Bool.not_false, Int.toNat_natCast, Nat.sub_zero, hm]
          exact n4 hp (df (by omega))
      · have n3 := n3 hp
        by_cases c0 : pa < 0
        · simp (disch := omega) only [dt, cond_true]; exact n3
        by_cases c1 : pa > ((xs.length - 0 : Nat) : Int)
        · simp (disch := omega) only [df, cond_false, dt, cond_true]; exact n3
        simp (disch := omega) only [df, cond_false, wid, dt, cond_true]; exact n3
    · have es : sz 21 = 4 := rfl
      rw [es] at n3 n4 n5
      rw [e54_21]
      by_cases hp : 0 ≤ pa ∧ pa + (4 : Nat) ≤ (xs.length : Int)
      · obtain ⟨q, rfl⟩ := Int.eq_ofNat_of_zero_le hp.1
        have hq : q + 4 ≤ xs.length := by omega
        have hm : min 4 (xs.length - q) = 4 := by omega
        have ef : fitb 21 v = decide (-2147483648 ≤ v ∧ v < 2147483648) := by simp [fitb]
        rw [ef] at n4 n5
        by_cases c1 : v ≥ -2147483648
        · by_cases c2 : v < 2147483648
          · simp (disch := omega) only [wid, dt, df, cond_true, cond_false, Bool.and_self, Bool.not_true, Bool.not_false, Int.toNat_natCast, Nat.sub_zero, hm]
            exact n5 q rfl hq (dt ⟨by omega, c2⟩)
          · simp (disch := omega) only [wid, dt, df, cond_true, cond_false, Bool.and_self, Bool.not_true, Bool.not_false, Int.toNat_natCast, Nat.sub_zero, hm]
            exact n4 hp (df (by omega))
        · simp (disch := omega) only [wid, dt, df, cond_true, cond_false, Bool.and_self, Bool.not_true, Bool.not_false, Int.toNat_natCast, Nat.sub_zero, hm]
          exact n4 hp (df (by omega))
      · have n3 := n3 hp
        by_cases c0 : pa < 0
        · simp (disch := omega) only [dt, cond_true]; exact n3
        by_cases c1 : pa > ((xs.length - 0 : Nat) : Int)
        · simp (disch := omega) only [df, cond_false, dt, cond_true]; exact n3
        simp (disch := omega) only [df, cond_false, wid, dt, cond_true]; exact n3
    · have es : sz 22 = 4 := rfl
      rw [es] at n3 n4 n5
      rw [e54_22]
      by_cases hp : 0 ≤ pa ∧ pa + (4 : Nat) ≤ (xs.length : Int)
      · obtain ⟨q, rfl⟩ := Int.eq_ofNat_of_zero_le hp.1
        have hq : q + 4 ≤ xs.length := by omega
        have hm : min 4 (xs.length - q) = 4 := by omega
        have ef : fitb 22 v = decide (-2147483648 ≤ v ∧ v < 2147483648) := by simp [fitb]
        rw [ef] at n4 n5
        by_cases c1 : v ≥ -2147483648
        · by_cases c2 : v < 2147483648
          · simp (disch := omega) only [wid, dt, df, cond_true, cond_false, Bool.and_self, Bool.not_true, Bool.not_false, Int.toNat_natCast, Nat.sub_zero, hm]
            exact n5 q rfl hq (dt ⟨by omega, c2⟩)
          · simp (disch := omega) only [wid, dt, df, cond_true, cond_false, Bool.and_self, Bool.not_true, Bool.not_false, Int.toNat_natCast, Nat.sub_zero, hm]
            exact n4 hp (df (by omega))
        · simp (disch := omega) only [wid, dt, df, cond_true, cond_false, Bool.and_self, Bool.not_true, Bool.not_false, Int.toNat_natCast, Nat.sub_zero, hm]
          exact n4 hp (df (by omega))
      · have n3 := n3 hp
        by_cases c0 : pa < 0
        · simp (disch := omega) only [dt, cond_true]; exact n3
        by_cases c1 : pa > ((xs.length - 0 : Nat) : Int)
        · simp (disch := omega) only [df, cond_false, dt, cond_true]; exact n3
        simp (disch := omega) only [df, cond_false, wid, dt, cond_true]; exact n3
    · have es : sz 23 = 4 := rfl
      rw [es] at n3 n4 n5
      rw [e54_23]
      by_cases hp : 0 ≤ pa ∧ pa + (4 : Nat) ≤ (xs.length : Int)
      · obtain ⟨q, rfl⟩ := Int.eq_ofNat_of_zero_le hp.1
        have hq : q + 4 ≤ xs.length := by omega
        have hm : min 4 (xs.length - q) = 4 := by omega
        have ef : fitb 23 v = decide (-2147483648 ≤ v ∧ v < 2147483648) := by simp [fitb]
        rw [ef] at n4 n5
        by_cases c1 : v ≥ -2147483648
        · by_cases c2 : v < 2147483648
          · simp (disch := omega) only [wid, dt, df, cond_true, cond_false, Bool.and_self, Bool.not_true, Bool.not_false, Int.toNat_natCast, Nat.sub_zero, hm]
            exact n5 q rfl hq (dt ⟨by omega, c2⟩)
          · simp (disch := omega) only [wid, dt, df, cond_true, cond_false, Bool.and_self, Bool.not_true, Bool.not_false, Int.toNat_natCast, Nat.sub_zero, hm]
            exact n4 hp (df (by omega))
        · simp (disch := omega) only [wid, dt, df, cond_true, cond_false, Bool.and_self, Bool.not_true, Bool.not_false, Int.toNat_natCast, Nat.sub_zero, hm]
          exact n4 hp (df (by omega))
      · have n3 := n3 hp
        by_cases c0 : pa < 0
        · simp (disch := omega) only [dt, cond_true]; exact n3
        by_cases c1 : pa > ((xs.length - 0 : Nat) : Int)
        · simp (disch := omega) only [df, cond_false, dt, cond_true]; exact n3
        simp (disch := omega) only [df, cond_false, wid, dt, cond_true]; exact n3
  · exact n23l hok (n1 hok)
end Go.Proofs.Ytnndiicpiolddaa.bak
