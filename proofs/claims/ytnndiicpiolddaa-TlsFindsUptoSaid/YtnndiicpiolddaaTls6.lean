import Derived.Test.YtnndiicpiolddaaTls5
set_option linter.unusedVariables false
set_option linter.unusedSimpArgs false
namespace Go.Proofs.Ytnndiicpiolddaa.tls
open Go Go.Ab
def setAll (xs : List Int) (q : Nat) : List Int → List Int
  | [] => xs
  | a :: w => setAll (xs.set q a) (q + 1) w
theorem setL : ∀ (w xs : List Int) (q : Nat), q + w.length ≤ xs.length → setAll xs q w = (List.take q xs ++ w) ++ List.drop (q + w.length) xs
  | [], xs, q, h => by simp [setAll]
  | a :: w, xs, q, h => by
    simp only [List.length_cons] at h
    simp only [setAll]
    rw [setL w (xs.set q a) (q + 1) (by simp; omega)]
    apply List.ext_getElem?
    intro i
    have hl : (List.take q xs).length = q := by simp; omega
    have hl2 : (List.take (q + 1) (xs.set q a)).length = q + 1 := by simp; omega
    simp only [List.getElem?_append, List.length_append, hl, hl2, List.length_cons, List.getElem?_take, List.getElem?_drop, List.getElem?_set]
    by_cases h1 : i < q
    · simp [h1, show i < q + 1 + w.length from by omega, show i < q + 1 from by omega, show i < q + (w.length + 1) from by omega, show q ≠ i from by omega]
    · by_cases h2 : i = q
      · subst h2
        simp [show i < i + 1 + w.length from by omega, show i < i + (w.length + 1) from by omega, show i < xs.length from by omega]
      · by_cases h3 : i < q + 1 + w.length
        · have : i - q = (i - (q + 1)) + 1 := by omega
          simp [h1, h3, show ¬ i < q + 1 from by omega, show i < q + (w.length + 1) from by omega, this]
        · simp [h3, show ¬ i < q + (w.length + 1) from by omega]
          have e1 : q + 1 + w.length + (i - (q + 1 + w.length)) = i := by omega
          have e2 : q + (w.length + 1) + (i - (q + (w.length + 1))) = i := by omega
          rw [e1, e2, if_neg (by omega)]
theorem relL (xs : List Int) (q s : Nat) (w : List Int) (hw : w.length = s) (h : q + s ≤ xs.length) : setAll xs q w = rel xs.length xs q s w := by
  rw [setL w xs q (by omega), rel, hw, List.take_of_length_le (l := List.drop (q + s) xs) (by simp)]
theorem g49 {off : Int} {k1 : Bool → Prop} {k2 : Prop} : (fit off → k1 true) → (¬ fit off → k1 false ∧ k2) → G49 off k1 k2 := by
  intro a b
  unfold G49 F49
  by_cases c : off ≥ -2147483648
  · by_cases d : off < 2147483648
    · simp only [dt c, dt d, cond_true]; exact a ⟨c, d⟩
    · simp only [dt c, df d, cond_true]; exact (b fun h => d h.2).1
  · simp only [df c, cond_false]; exact (b fun h => c h.1).2
theorem le4_eq (off : Int) : ([(IntKind.wrap .u8 (IntKind.wrap .u64 off)), (IntKind.wrap .u8 (Int.fdiv (IntKind.wrap .u64 off) (2 ^ 8))), (IntKind.wrap .u8 (Int.fdiv (Int.fdiv (IntKind.wrap .u64 off) (2 ^ 8)) (2 ^ 8))), (IntKind.wrap .u8 (Int.fdiv (Int.fdiv (Int.fdiv (IntKind.wrap .u64 off) (2 ^ 8)) (2 ^ 8)) (2 ^ 8)))] : List Int) = le4 off := by
  have e1 : ∀ a : Int, Int.fdiv a (2 ^ 0) = a := fun a => by simp
  have e2 : ∀ a : Int, Int.fdiv (Int.fdiv a (2 ^ 8)) (2 ^ 8) = Int.fdiv a (2 ^ 16) := fun a => by
    rw [Int.fdiv_eq_ediv_of_nonneg _ (by decide), Int.fdiv_eq_ediv_of_nonneg _ (by decide), Int.fdiv_eq_ediv_of_nonneg _ (by decide)]
    simp only [Int.reducePow]; omega
  have e3 : ∀ a : Int, Int.fdiv (Int.fdiv a (2 ^ 16)) (2 ^ 8) = Int.fdiv a (2 ^ 24) := fun a => by
    rw [Int.fdiv_eq_ediv_of_nonneg _ (by decide), Int.fdiv_eq_ediv_of_nonneg _ (by decide), Int.fdiv_eq_ediv_of_nonneg _ (by decide)]
    simp only [Int.reducePow]; omega
  unfold le4
  rw [e1, e2, e3]
theorem g50 {off : Int} {k1 : Prop} {k2 : List Int → Prop} (h : fit off) : k2 (le4 off) → G50 off k1 k2 := by
  intro a
  unfold G50 F50
  obtain ⟨h1, h2⟩ := h
  simp (disch := omega) only [df, cond_false]
  rw [le4_eq]
  exact a
theorem g19_big {pa t off : Int} {xs : List Int} {k1 k2 k3 : Prop} {k4 : List Int → Prop} (h : 1048576 < xs.length) : k1 → G19 pa t off xs k1 k2 k3 k4 := by
  intro a
  unfold G19 F19
  simp (disch := omega) only [dt, cond_true]
  exact a
theorem g19_no {pa t off : Int} {xs : List Int} {k1 k2 k3 : Prop} {k4 : List Int → Prop} (hn : xs.length ≤ 1048576) (e1 : t ≠ 19) (e2 : t ≠ 20) (e3 : t ≠ 22) (e4 : t ≠ 23) : k2 → G19 pa t off xs k1 k2 k3 k4 := by
  intro h
  unfold G19 F19
  simp (disch := omega) only [df, cond_false]
  exact g18_no e1 e2 e3 e4 h
theorem g19_19 {pa off : Int} {xs : List Int} {k1 k2 k3 : Prop} {k4 : List Int → Prop} (hn : xs.length ≤ 1048576) (h1 : -9223372036854775808 ≤ pa) (h2 : pa ≤ 9223372036854775807) :
    (f16 xs.length xs pa = false → k2) → (f16 xs.length xs pa = true → ¬ fit off → k3) → (∀ q : Nat, pa - 4 = q → f16 xs.length xs pa = true → fit off → k4 (rel xs.length xs q 16 (w19 off))) → G19 pa 19 off xs k1 k2 k3 k4 := by
  intro a b c
  unfold G19 F19
  simp (disch := omega) only [df, cond_false]
  refine g18_19 (by omega) h1 h2 (fun hf => ?_) (fun hf => a hf)
  refine g49 (fun hi => ?_) (fun hi => ⟨b hf hi, b hf hi⟩)
  refine g50 hi ?_
  have hp : 4 ≤ pa ∨ 3 ≤ pa := by simp only [f16, f12, Bool.and_eq_true, decide_eq_true_eq] at hf; omega
  have hq : pa - 4 + 16 ≤ xs.length ∧ 0 ≤ pa - 4 := by simp only [f16, f12, Bool.and_eq_true, decide_eq_true_eq] at hf; omega
  obtain ⟨q, hq'⟩ := Int.eq_ofNat_of_zero_le hq.2
  have c := c q hq' hf hi
  rw [hq'] at hq ⊢
  simp (disch := omega) only [wid, dt, df, cond_true, cond_false, Bool.and_self, Int.toNat_natCast, t_0, t_1, t_2, t_3, t_4, t_5, t_6, t_7, t_8, t_9, t_10, t_11, t_12, t_13, t_14, t_15, t_16, Nat.sub_zero, Nat.zero_add, beq_self_eq_true, List.length_append, List.length_cons, List.length_nil, List.length_set, le4_length, Bool.not_true]
  refine Eq.mpr (congrArg k4 ?_) c
  exact relL xs q 16 [List.getD (([100, 72, 139, 4, 37, 0, 0, 0, 0, 72, 141, 128] : List Int) ++ le4 off) 0 0, List.getD (([100, 72, 139, 4, 37, 0, 0, 0, 0, 72, 141, 128] : List Int) ++ le4 off) 1 0, List.getD (([100, 72, 139, 4, 37, 0, 0, 0, 0, 72, 141, 128] : List Int) ++ le4 off) 2 0, List.getD (([100, 72, 139, 4, 37, 0, 0, 0, 0, 72, 141, 128] : List Int) ++ le4 off) 3 0, List.getD (([100, 72, 139, 4, 37, 0, 0, 0, 0, 72, 141, 128] : List Int) ++ le4 off) 4 0, List.getD (([100, 72, 139, 4, 37, 0, 0, 0, 0, 72, 141, 128] : List Int) ++ le4 off) 5 0, List.getD (([100, 72, 139, 4, 37, 0, 0, 0, 0, 72, 141, 128] : List Int) ++ le4 off) 6 0, List.getD (([100, 72, 139, 4, 37, 0, 0, 0, 0, 72, 141, 128] : List Int) ++ le4 off) 7 0, List.getD (([100, 72, 139, 4, 37, 0, 0, 0, 0, 72, 141, 128] : List Int) ++ le4 off) 8 0, List.getD (([100, 72, 139, 4, 37, 0, 0, 0, 0, 72, 141, 128] : List Int) ++ le4 off) 9 0, List.getD (([100, 72, 139, 4, 37, 0, 0, 0, 0, 72, 141, 128] : List Int) ++ le4 off) 10 0, List.getD (([100, 72, 139, 4, 37, 0, 0, 0, 0, 72, 141, 128] : List Int) ++ le4 off) 11 0, List.getD (([100, 72, 139, 4, 37, 0, 0, 0, 0, 72, 141, 128] : List Int) ++ le4 off) 12 0, List.getD (([100, 72, 139, 4, 37, 0, 0, 0, 0, 72, 141, 128] : List Int) ++ le4 off) 13 0, List.getD (([100, 72, 139, 4, 37, 0, 0, 0, 0, 72, 141, 128] : List Int) ++ le4 off) 14 0, List.getD (([100, 72, 139, 4, 37, 0, 0, 0, 0, 72, 141, 128] : List Int) ++ le4 off) 15 0] rfl (by omega)
theorem g19_20 {pa off : Int} {xs : List Int} {k1 k2 k3 : Prop} {k4 : List Int → Prop} (hn : xs.length ≤ 1048576) (h1 : -9223372036854775808 ≤ pa) (h2 : pa ≤ 9223372036854775807) :
    (f12 xs.length xs pa = false → k2) → (f12 xs.length xs pa = true → ¬ fit off → k3) → (∀ q : Nat, pa - 3 = q → f12 xs.length xs pa = true → fit off → k4 (rel xs.length xs q 12 w20)) → G19 pa 20 off xs k1 k2 k3 k4 := by
  intro a b c
  unfold G19 F19
  simp (disch := omega) only [df, cond_false]
  refine g18_20 (by omega) h1 h2 (fun hf => ?_) (fun hf => a hf)
  refine g49 (fun hi => ?_) (fun hi => ⟨b hf hi, b hf hi⟩)
  refine g50 hi ?_
  have hp : 4 ≤ pa ∨ 3 ≤ pa := by simp only [f16, f12, Bool.and_eq_true, decide_eq_true_eq] at hf; omega
  have hq : pa - 3 + 12 ≤ xs.length ∧ 0 ≤ pa - 3 := by simp only [f16, f12, Bool.and_eq_true, decide_eq_true_eq] at hf; omega
  obtain ⟨q, hq'⟩ := Int.eq_ofNat_of_zero_le hq.2
  have c := c q hq' hf hi
  rw [hq'] at hq ⊢
  simp (disch := omega) only [wid, dt, df, cond_true, cond_false, Bool.and_self, Int.toNat_natCast, t_0, t_1, t_2, t_3, t_4, t_5, t_6, t_7, t_8, t_9, t_10, t_11, t_12, t_13, t_14, t_15, t_16, Nat.sub_zero, Nat.zero_add, beq_self_eq_true, List.length_append, List.length_cons, List.length_nil, List.length_set, le4_length, Bool.not_true]
  refine Eq.mpr (congrArg k4 ?_) c
  exact relL xs q 12 [List.getD [100, 72, 139, 4, 37, 0, 0, 0, 0, 144, 144, 144] 0 0, List.getD [100, 72, 139, 4, 37, 0, 0, 0, 0, 144, 144, 144] 1 0, List.getD [100, 72, 139, 4, 37, 0, 0, 0, 0, 144, 144, 144] 2 0, List.getD [100, 72, 139, 4, 37, 0, 0, 0, 0, 144, 144, 144] 3 0, List.getD [100, 72, 139, 4, 37, 0, 0, 0, 0, 144, 144, 144] 4 0, List.getD [100, 72, 139, 4, 37, 0, 0, 0, 0, 144, 144, 144] 5 0, List.getD [100, 72, 139, 4, 37, 0, 0, 0, 0, 144, 144, 144] 6 0, List.getD [100, 72, 139, 4, 37, 0, 0, 0, 0, 144, 144, 144] 7 0, List.getD [100, 72, 139, 4, 37, 0, 0, 0, 0, 144, 144, 144] 8 0, List.getD [100, 72, 139, 4, 37, 0, 0, 0, 0, 144, 144, 144] 9 0, List.getD [100, 72, 139, 4, 37, 0, 0, 0, 0, 144, 144, 144] 10 0, List.getD [100, 72, 139, 4, 37, 0, 0, 0, 0, 144, 144, 144] 11 0] rfl (by omega)
theorem g19_23 {pa off : Int} {xs : List Int} {k1 k2 k3 : Prop} {k4 : List Int → Prop} (hn : xs.length ≤ 1048576) (h1 : -9223372036854775808 ≤ pa) (h2 : pa ≤ 9223372036854775807) :
    (¬ (0 ≤ pa ∧ pa + 4 ≤ xs.length) → k2) → ((0 ≤ pa ∧ pa + 4 ≤ xs.length) → ¬ fit off → k3) → (∀ q : Nat, pa = q → pa + 4 ≤ xs.length → fit off → k4 (rel xs.length xs q 4 (le4 off))) → G19 pa 23 off xs k1 k2 k3 k4 := by
  intro a b c
  unfold G19 F19
  simp (disch := omega) only [df, cond_false]
  refine g18_23 (by omega) h1 h2 (fun hf => ?_) (fun hf => a hf)
  refine g49 (fun hi => ?_) (fun hi => ⟨b hf hi, b hf hi⟩)
  refine g50 hi ?_
  obtain ⟨q, hq'⟩ := Int.eq_ofNat_of_zero_le hf.1
  have c := c q hq' hf.2 hi
  rw [hq'] at hf ⊢
  simp (disch := omega) only [wid, dt, df, cond_true, cond_false, Bool.and_self, Int.toNat_natCast, t_0, t_1, t_2, t_3, t_4, t_5, t_6, t_7, t_8, t_9, t_10, t_11, t_12, t_13, t_14, t_15, t_16, Nat.sub_zero, Nat.zero_add, beq_self_eq_true, List.length_append, List.length_cons, List.length_nil, List.length_set, le4_length, Bool.not_true]
  refine Eq.mpr (congrArg k4 ?_) c
  exact relL xs q 4 [List.getD (le4 off) 0 0, List.getD (le4 off) 1 0, List.getD (le4 off) 2 0, List.getD (le4 off) 3 0] rfl (by omega)
theorem rt_eq : ∀ r : Nat, r < 16 → IntKind.wrap .u8 (IntKind.wrap .i64 (192 + Int.tmod r 8)) = 192 + (r % 8 : Nat) := by
  intro r hr
  have : r = 0 ∨ r = 1 ∨ r = 2 ∨ r = 3 ∨ r = 4 ∨ r = 5 ∨ r = 6 ∨ r = 7 ∨ r = 8 ∨ r = 9 ∨ r = 10 ∨ r = 11 ∨ r = 12 ∨ r = 13 ∨ r = 14 ∨ r = 15 := by omega
  rcases this with rfl | rfl | rfl | rfl | rfl | rfl | rfl | rfl | rfl | rfl | rfl | rfl | rfl | rfl | rfl | rfl <;> (change _ = _; kernel_rfl)
theorem g19_22 {pa off : Int} {xs : List Int} {k1 k2 k3 : Prop} {k4 : List Int → Prop} (hn : xs.length ≤ 1048576) (h1 : -9223372036854775808 ≤ pa) (h2 : pa ≤ 9223372036854775807) :
    ((∀ j, j < 16 → fr j xs.length xs pa = false) → k2) → (∀ r, r < 16 → fr r xs.length xs pa = true → ¬ fit off → k3) → (∀ (q r : Nat), pa - 3 = q → r < 16 → fr r xs.length xs pa = true → (∀ j, j < r → fr j xs.length xs pa = false) → fit off → k4 (rel xs.length xs q 7 (w22 r off))) → G19 pa 22 off xs k1 k2 k3 k4 := by
  intro a b c
  unfold G19 F19
  simp (disch := omega) only [df, cond_false]
  refine g18_22 (by omega) h1 h2 (fun r hr hf hj => ?_) (fun hf => a hf)
  refine g49 (fun hi => ?_) (fun hi => ⟨b r hr hf hi, b r hr hf hi⟩)
  refine g50 hi ?_
  have hq : pa - 3 + 7 ≤ xs.length ∧ 0 ≤ pa - 3 := by simp only [fr, f7, Bool.and_eq_true, decide_eq_true_eq] at hf; omega
  obtain ⟨q, hq'⟩ := Int.eq_ofNat_of_zero_le hq.2
  have c := c q r hq' hr hf hj hi
  rw [hq'] at hq ⊢
  have er := rt_eq r hr
  by_cases h8 : r < 8
  · simp (disch := omega) only [wid, dt, df, cond_true, cond_false, Bool.and_self, Int.toNat_natCast, t_0, t_1, t_2, t_3, t_4, t_5, t_6, t_7, t_8, t_9, t_10, t_11, t_12, t_13, t_14, t_15, t_16, Nat.sub_zero, Nat.zero_add, beq_self_eq_true, List.length_append, List.length_cons, List.length_nil, List.length_set, le4_length, Bool.not_true]
    simp only [w22, if_pos h8] at c
    rw [er]
    refine Eq.mpr (congrArg k4 ?_) c
    exact relL xs q 7 [List.getD (([72, 199, 192 + ((r % 8 : Nat) : Int)] : List Int) ++ le4 off) 0 0, List.getD (([72, 199, 192 + ((r % 8 : Nat) : Int)] : List Int) ++ le4 off) 1 0, List.getD (([72, 199, 192 + ((r % 8 : Nat) : Int)] : List Int) ++ le4 off) 2 0, List.getD (([72, 199, 192 + ((r % 8 : Nat) : Int)] : List Int) ++ le4 off) 3 0, List.getD (([72, 199, 192 + ((r % 8 : Nat) : Int)] : List Int) ++ le4 off) 4 0, List.getD (([72, 199, 192 + ((r % 8 : Nat) : Int)] : List Int) ++ le4 off) 5 0, List.getD (([72, 199, 192 + ((r % 8 : Nat) : Int)] : List Int) ++ le4 off) 6 0] rfl (by omega)
  · simp (disch := omega) only [wid, dt, df, cond_true, cond_false, Bool.and_self, Int.toNat_natCast, t_0, t_1, t_2, t_3, t_4, t_5, t_6, t_7, t_8, t_9, t_10, t_11, t_12, t_13, t_14, t_15, t_16, Nat.sub_zero, Nat.zero_add, beq_self_eq_true, List.length_append, List.length_cons, List.length_nil, List.length_set, le4_length, Bool.not_true]
    simp only [w22, if_neg h8] at c
    rw [er]
    refine Eq.mpr (congrArg k4 ?_) c
    exact relL xs q 7 [List.getD (([73, 199, 192 + ((r % 8 : Nat) : Int)] : List Int) ++ le4 off) 0 0, List.getD (([73, 199, 192 + ((r % 8 : Nat) : Int)] : List Int) ++ le4 off) 1 0, List.getD (([73, 199, 192 + ((r % 8 : Nat) : Int)] : List Int) ++ le4 off) 2 0, List.getD (([73, 199, 192 + ((r % 8 : Nat) : Int)] : List Int) ++ le4 off) 3 0, List.getD (([73, 199, 192 + ((r % 8 : Nat) : Int)] : List Int) ++ le4 off) 4 0, List.getD (([73, 199, 192 + ((r % 8 : Nat) : Int)] : List Int) ++ le4 off) 5 0, List.getD (([73, 199, 192 + ((r % 8 : Nat) : Int)] : List Int) ++ le4 off) 6 0] rfl (by omega)
end Go.Proofs.Ytnndiicpiolddaa.tls
