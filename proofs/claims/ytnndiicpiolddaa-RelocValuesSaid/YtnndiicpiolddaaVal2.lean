import Derived.Test.YtnndiicpiolddaaVal1
set_option linter.unusedVariables false
set_option linter.unusedSimpArgs false
namespace Go.Proofs.Ytnndiicpiolddaa.val
open Go Go.Ab
theorem wid {x : Int} (h1 : -9223372036854775808 ≤ x) (h2 : x ≤ 9223372036854775807) : IntKind.wrap .i64 x = x := by
  simp [IntKind.wrap, IntKind.bits, IntKind.signed]; omega
theorem dt {p : Prop} [inst : Decidable p] (h : p) : decide p = true := decide_eq_true h
theorem df {p : Prop} [inst : Decidable p] (h : ¬ p) : decide p = false := decide_eq_false h
theorem g24 {a : Int} {k : Prop} (h : k) : G24 a k := h
theorem g25 {k : Prop} (h : k) : G25 k := h
theorem e54_0 (k1 k2 k3 k4 k5 k6 k7 : List Int → Prop) : G54 0 k1 k2 k3 k4 k5 k6 k7 = k1 ([(78 : Int), (79 : Int), (78 : Int), (69 : Int)] : List Int) := by kernel_rfl
theorem e54_1 (k1 k2 k3 k4 k5 k6 k7 : List Int → Prop) : G54 1 k1 k2 k3 k4 k5 k6 k7 = k7 ([(54 : Int), (52 : Int)] : List Int) := by kernel_rfl
theorem e54_2 (k1 k2 k3 k4 k5 k6 k7 : List Int → Prop) : G54 2 k1 k2 k3 k4 k5 k6 k7 = k6 ([(80 : Int), (67 : Int), (51 : Int), (50 : Int)] : List Int) := by kernel_rfl
theorem e54_3 (k1 k2 k3 k4 k5 k6 k7 : List Int → Prop) : G54 3 k1 k2 k3 k4 k5 k6 k7 = k1 ([] : List Int) := by kernel_rfl
theorem e54_4 (k1 k2 k3 k4 k5 k6 k7 : List Int → Prop) : G54 4 k1 k2 k3 k4 k5 k6 k7 = k6 ([(80 : Int), (76 : Int), (84 : Int), (51 : Int), (50 : Int)] : List Int) := by kernel_rfl
theorem e54_5 (k1 k2 k3 k4 k5 k6 k7 : List Int → Prop) : G54 5 k1 k2 k3 k4 k5 k6 k7 = k1 ([] : List Int) := by kernel_rfl
theorem e54_6 (k1 k2 k3 k4 k5 k6 k7 : List Int → Prop) : G54 6 k1 k2 k3 k4 k5 k6 k7 = k1 ([(71 : Int), (76 : Int), (79 : Int), (66 : Int), (95 : Int), (68 : Int), (65 : Int), (84 : Int)] : List Int) := by kernel_rfl
theorem e54_7 (k1 k2 k3 k4 k5 k6 k7 : List Int → Prop) : G54 7 k1 k2 k3 k4 k5 k6 k7 = k1 ([] : List Int) := by kernel_rfl
theorem e54_8 (k1 k2 k3 k4 k5 k6 k7 : List Int → Prop) : G54 8 k1 k2 k3 k4 k5 k6 k7 = k1 ([(82 : Int), (69 : Int), (76 : Int), (65 : Int), (84 : Int), (73 : Int), (86 : Int), (69 : Int)] : List Int) := by kernel_rfl
theorem e54_9 (k1 k2 k3 k4 k5 k6 k7 : List Int → Prop) : G54 9 k1 k2 k3 k4 k5 k6 k7 = k3 ([(71 : Int), (79 : Int), (84 : Int), (80 : Int), (67 : Int), (82 : Int), (69 : Int), (76 : Int)] : List Int) := by kernel_rfl
theorem e54_10 (k1 k2 k3 k4 k5 k6 k7 : List Int → Prop) : G54 10 k1 k2 k3 k4 k5 k6 k7 = k5 ([(51 : Int), (50 : Int)] : List Int) := by kernel_rfl
theorem e54_11 (k1 k2 k3 k4 k5 k6 k7 : List Int → Prop) : G54 11 k1 k2 k3 k4 k5 k6 k7 = k4 ([(51 : Int), (50 : Int), (83 : Int)] : List Int) := by kernel_rfl
theorem e54_12 (k1 k2 k3 k4 k5 k6 k7 : List Int → Prop) : G54 12 k1 k2 k3 k4 k5 k6 k7 = k1 ([] : List Int) := by kernel_rfl
theorem e54_13 (k1 k2 k3 k4 k5 k6 k7 : List Int → Prop) : G54 13 k1 k2 k3 k4 k5 k6 k7 = k1 ([] : List Int) := by kernel_rfl
theorem e54_14 (k1 k2 k3 k4 k5 k6 k7 : List Int → Prop) : G54 14 k1 k2 k3 k4 k5 k6 k7 = k1 ([] : List Int) := by kernel_rfl
theorem e54_15 (k1 k2 k3 k4 k5 k6 k7 : List Int → Prop) : G54 15 k1 k2 k3 k4 k5 k6 k7 = k1 ([] : List Int) := by kernel_rfl
theorem e54_16 (k1 k2 k3 k4 k5 k6 k7 : List Int → Prop) : G54 16 k1 k2 k3 k4 k5 k6 k7 = k1 ([] : List Int) := by kernel_rfl
theorem e54_17 (k1 k2 k3 k4 k5 k6 k7 : List Int → Prop) : G54 17 k1 k2 k3 k4 k5 k6 k7 = k1 ([] : List Int) := by kernel_rfl
theorem e54_18 (k1 k2 k3 k4 k5 k6 k7 : List Int → Prop) : G54 18 k1 k2 k3 k4 k5 k6 k7 = k1 ([] : List Int) := by kernel_rfl
theorem e54_19 (k1 k2 k3 k4 k5 k6 k7 : List Int → Prop) : G54 19 k1 k2 k3 k4 k5 k6 k7 = k1 ([(84 : Int), (76 : Int), (83 : Int), (71 : Int), (68 : Int)] : List Int) := by kernel_rfl
theorem e54_20 (k1 k2 k3 k4 k5 k6 k7 : List Int → Prop) : G54 20 k1 k2 k3 k4 k5 k6 k7 = k1 ([(84 : Int), (76 : Int), (83 : Int), (76 : Int), (68 : Int)] : List Int) := by kernel_rfl
theorem e54_21 (k1 k2 k3 k4 k5 k6 k7 : List Int → Prop) : G54 21 k1 k2 k3 k4 k5 k6 k7 = k2 ([(68 : Int), (84 : Int), (80 : Int), (79 : Int), (70 : Int), (70 : Int), (51 : Int), (50 : Int)] : List Int) := by kernel_rfl
theorem e54_22 (k1 k2 k3 k4 k5 k6 k7 : List Int → Prop) : G54 22 k1 k2 k3 k4 k5 k6 k7 = k3 ([(71 : Int), (79 : Int), (84 : Int), (84 : Int), (80 : Int), (79 : Int), (70 : Int), (70 : Int)] : List Int) := by kernel_rfl
theorem e54_23 (k1 k2 k3 k4 k5 k6 k7 : List Int → Prop) : G54 23 k1 k2 k3 k4 k5 k6 k7 = k2 ([(84 : Int), (80 : Int), (79 : Int), (70 : Int), (70 : Int), (51 : Int), (50 : Int)] : List Int) := by kernel_rfl
theorem e54_24 (k1 k2 k3 k4 k5 k6 k7 : List Int → Prop) : G54 24 k1 k2 k3 k4 k5 k6 k7 = k1 ([] : List Int) := by kernel_rfl
theorem e54_25 (k1 k2 k3 k4 k5 k6 k7 : List Int → Prop) : G54 25 k1 k2 k3 k4 k5 k6 k7 = k1 ([] : List Int) := by kernel_rfl
theorem e54_26 (k1 k2 k3 k4 k5 k6 k7 : List Int → Prop) : G54 26 k1 k2 k3 k4 k5 k6 k7 = k1 ([] : List Int) := by kernel_rfl
theorem e54_27 (k1 k2 k3 k4 k5 k6 k7 : List Int → Prop) : G54 27 k1 k2 k3 k4 k5 k6 k7 = k1 ([] : List Int) := by kernel_rfl
theorem e54_28 (k1 k2 k3 k4 k5 k6 k7 : List Int → Prop) : G54 28 k1 k2 k3 k4 k5 k6 k7 = k1 ([] : List Int) := by kernel_rfl
theorem e54_29 (k1 k2 k3 k4 k5 k6 k7 : List Int → Prop) : G54 29 k1 k2 k3 k4 k5 k6 k7 = k1 ([] : List Int) := by kernel_rfl
theorem e54_30 (k1 k2 k3 k4 k5 k6 k7 : List Int → Prop) : G54 30 k1 k2 k3 k4 k5 k6 k7 = k1 ([] : List Int) := by kernel_rfl
theorem e54_31 (k1 k2 k3 k4 k5 k6 k7 : List Int → Prop) : G54 31 k1 k2 k3 k4 k5 k6 k7 = k1 ([] : List Int) := by kernel_rfl
theorem e54_32 (k1 k2 k3 k4 k5 k6 k7 : List Int → Prop) : G54 32 k1 k2 k3 k4 k5 k6 k7 = k1 ([] : List Int) := by kernel_rfl
theorem e54_33 (k1 k2 k3 k4 k5 k6 k7 : List Int → Prop) : G54 33 k1 k2 k3 k4 k5 k6 k7 = k1 ([] : List Int) := by kernel_rfl
theorem e54_34 (k1 k2 k3 k4 k5 k6 k7 : List Int → Prop) : G54 34 k1 k2 k3 k4 k5 k6 k7 = k1 ([] : List Int) := by kernel_rfl
theorem e54_35 (k1 k2 k3 k4 k5 k6 k7 : List Int → Prop) : G54 35 k1 k2 k3 k4 k5 k6 k7 = k1 ([] : List Int) := by kernel_rfl
theorem e54_36 (k1 k2 k3 k4 k5 k6 k7 : List Int → Prop) : G54 36 k1 k2 k3 k4 k5 k6 k7 = k1 ([] : List Int) := by kernel_rfl
theorem e54_37 (k1 k2 k3 k4 k5 k6 k7 : List Int → Prop) : G54 37 k1 k2 k3 k4 k5 k6 k7 = k1 ([(73 : Int), (82 : Int), (69 : Int), (76 : Int), (65 : Int), (84 : Int), (73 : Int), (86 : Int), (69 : Int)] : List Int) := by kernel_rfl
theorem e54_38 (k1 k2 k3 k4 k5 k6 k7 : List Int → Prop) : G54 38 k1 k2 k3 k4 k5 k6 k7 = k1 ([] : List Int) := by kernel_rfl
theorem e54_39 (k1 k2 k3 k4 k5 k6 k7 : List Int → Prop) : G54 39 k1 k2 k3 k4 k5 k6 k7 = k1 ([] : List Int) := by kernel_rfl
theorem e54_40 (k1 k2 k3 k4 k5 k6 k7 : List Int → Prop) : G54 40 k1 k2 k3 k4 k5 k6 k7 = k1 ([] : List Int) := by kernel_rfl
theorem e54_41 (k1 k2 k3 k4 k5 k6 k7 : List Int → Prop) : G54 41 k1 k2 k3 k4 k5 k6 k7 = k1 ([] : List Int) := by kernel_rfl
theorem e54_42 (k1 k2 k3 k4 k5 k6 k7 : List Int → Prop) : G54 42 k1 k2 k3 k4 k5 k6 k7 = k1 ([] : List Int) := by kernel_rfl
theorem e54_43 (k1 k2 k3 k4 k5 k6 k7 : List Int → Prop) : G54 43 k1 k2 k3 k4 k5 k6 k7 = k1 ([] : List Int) := by kernel_rfl
theorem e54_44 (k1 k2 k3 k4 k5 k6 k7 : List Int → Prop) : G54 44 k1 k2 k3 k4 k5 k6 k7 = k1 ([] : List Int) := by kernel_rfl
theorem e54_45 (k1 k2 k3 k4 k5 k6 k7 : List Int → Prop) : G54 45 k1 k2 k3 k4 k5 k6 k7 = k1 ([] : List Int) := by kernel_rfl
theorem e54_46 (k1 k2 k3 k4 k5 k6 k7 : List Int → Prop) : G54 46 k1 k2 k3 k4 k5 k6 k7 = k1 ([] : List Int) := by kernel_rfl
theorem e54_47 (k1 k2 k3 k4 k5 k6 k7 : List Int → Prop) : G54 47 k1 k2 k3 k4 k5 k6 k7 = k1 ([] : List Int) := by kernel_rfl
theorem e54_48 (k1 k2 k3 k4 k5 k6 k7 : List Int → Prop) : G54 48 k1 k2 k3 k4 k5 k6 k7 = k1 ([] : List Int) := by kernel_rfl
theorem e54_49 (k1 k2 k3 k4 k5 k6 k7 : List Int → Prop) : G54 49 k1 k2 k3 k4 k5 k6 k7 = k1 ([] : List Int) := by kernel_rfl
theorem e54_50 (k1 k2 k3 k4 k5 k6 k7 : List Int → Prop) : G54 50 k1 k2 k3 k4 k5 k6 k7 = k1 ([] : List Int) := by kernel_rfl
theorem e54_51 (k1 k2 k3 k4 k5 k6 k7 : List Int → Prop) : G54 51 k1 k2 k3 k4 k5 k6 k7 = k1 ([] : List Int) := by kernel_rfl
theorem e54_52 (k1 k2 k3 k4 k5 k6 k7 : List Int → Prop) : G54 52 k1 k2 k3 k4 k5 k6 k7 = k1 ([] : List Int) := by kernel_rfl
theorem e54_53 (k1 k2 k3 k4 k5 k6 k7 : List Int → Prop) : G54 53 k1 k2 k3 k4 k5 k6 k7 = k1 ([] : List Int) := by kernel_rfl
theorem e54_54 (k1 k2 k3 k4 k5 k6 k7 : List Int → Prop) : G54 54 k1 k2 k3 k4 k5 k6 k7 = k1 ([] : List Int) := by kernel_rfl
theorem e54_55 (k1 k2 k3 k4 k5 k6 k7 : List Int → Prop) : G54 55 k1 k2 k3 k4 k5 k6 k7 = k1 ([] : List Int) := by kernel_rfl
theorem e54_56 (k1 k2 k3 k4 k5 k6 k7 : List Int → Prop) : G54 56 k1 k2 k3 k4 k5 k6 k7 = k1 ([] : List Int) := by kernel_rfl
theorem e54_57 (k1 k2 k3 k4 k5 k6 k7 : List Int → Prop) : G54 57 k1 k2 k3 k4 k5 k6 k7 = k1 ([] : List Int) := by kernel_rfl
theorem e54_58 (k1 k2 k3 k4 k5 k6 k7 : List Int → Prop) : G54 58 k1 k2 k3 k4 k5 k6 k7 = k1 ([] : List Int) := by kernel_rfl
theorem e54_59 (k1 k2 k3 k4 k5 k6 k7 : List Int → Prop) : G54 59 k1 k2 k3 k4 k5 k6 k7 = k1 ([] : List Int) := by kernel_rfl
theorem e54_60 (k1 k2 k3 k4 k5 k6 k7 : List Int → Prop) : G54 60 k1 k2 k3 k4 k5 k6 k7 = k1 ([] : List Int) := by kernel_rfl
theorem e54_61 (k1 k2 k3 k4 k5 k6 k7 : List Int → Prop) : G54 61 k1 k2 k3 k4 k5 k6 k7 = k1 ([] : List Int) := by kernel_rfl
theorem e54_62 (k1 k2 k3 k4 k5 k6 k7 : List Int → Prop) : G54 62 k1 k2 k3 k4 k5 k6 k7 = k1 ([] : List Int) := by kernel_rfl
theorem e54_63 (k1 k2 k3 k4 k5 k6 k7 : List Int → Prop) : G54 63 k1 k2 k3 k4 k5 k6 k7 = k1 ([] : List Int) := by kernel_rfl
def okT (t : Int) : Prop := t = 1 ∨ t = 2 ∨ t = 4 ∨ t = 9 ∨ t = 10 ∨ t = 11 ∨ t = 21 ∨ t = 22 ∨ t = 23
instance (t : Int) : Decidable (okT t) := by unfold okT; infer_instance
theorem g54_no {t : Int} (h : ¬ okT t) (k1 k2 k3 k4 k5 k6 k7 : List Int → Prop) (hk : ∀ nm, k1 nm) : G54 t k1 k2 k3 k4 k5 k6 k7 := by
  by_cases h0 : t < 0
  · unfold G54 F54; rw [dt h0]; exact hk _
  by_cases h1 : t ≥ 64
  · unfold G54 F54; rw [df h0, dt h1]; exact hk _
  unfold okT at h
  have : t = 0 ∨ t = 3 ∨ t = 5 ∨ t = 6 ∨ t = 7 ∨ t = 8 ∨ t = 12 ∨ t = 13 ∨ t = 14 ∨ t = 15 ∨ t = 16 ∨ t = 17 ∨ t = 18 ∨ t = 19 ∨ t = 20 ∨ t = 24 ∨ t = 25 ∨ t = 26 ∨ t = 27 ∨ t = 28 ∨ t = 29 ∨ t = 30 ∨ t = 31 ∨ t = 32 ∨ t = 33 ∨ t = 34 ∨ t = 35 ∨ t = 36 ∨ t = 37 ∨ t = 38 ∨ t = 39 ∨ t = 40 ∨ t = 41 ∨ t = 42 ∨ t = 43 ∨ t = 44 ∨ t = 45 ∨ t = 46 ∨ t = 47 ∨ t = 48 ∨ t = 49 ∨ t = 50 ∨ t = 51 ∨ t = 52 ∨ t = 53 ∨ t = 54 ∨ t = 55 ∨ t = 56 ∨ t = 57 ∨ t = 58 ∨ t = 59 ∨ t = 60 ∨ t = 61 ∨ t = 62 ∨ t = 63 := by omega
  rcases this with rfl | rfl | rfl | rfl | rfl | rfl | rfl | rfl | rfl | rfl | rfl | rfl | rfl | rfl | rfl | rfl | rfl | rfl | rfl | rfl | rfl | rfl | rfl | rfl | rfl | rfl | rfl | rfl | rfl | rfl | rfl | rfl | rfl | rfl | rfl | rfl | rfl | rfl | rfl | rfl | rfl | rfl | rfl | rfl | rfl | rfl | rfl | rfl | rfl | rfl | rfl | rfl | rfl | rfl | rfl
  · rw [e54_0]; exact hk _
  · rw [e54_3]; exact hk _
  · rw [e54_5]; exact hk _
  · rw [e54_6]; exact hk _
  · rw [e54_7]; exact hk _
  · rw [e54_8]; exact hk _
  · rw [e54_12]; exact hk _
  · rw [e54_13]; exact hk _
  · rw [e54_14]; exact hk _
  · rw [e54_15]; exact hk _
  · rw [e54_16]; exact hk _
  · rw [e54_17]; exact hk _
  · rw [e54_18]; exact hk _
  · rw [e54_19]; exact hk _
  · rw [e54_20]; exact hk _
  · rw [e54_24]; exact hk _
  · rw [e54_25]; exact hk _
  · rw [e54_26]; exact hk _
  · rw [e54_27]; exact hk _
  · rw [e54_28]; exact hk _
  · rw [e54_29]; exact hk _
  · rw [e54_30]; exact hk _
  · rw [e54_31]; exact hk _
  · rw [e54_32]; exact hk _
  · rw [e54_33]; exact hk _
  · rw [e54_34]; exact hk _
  · rw [e54_35]; exact hk _
  · rw [e54_36]; exact hk _
  · rw [e54_37]; exact hk _
  · rw [e54_38]; exact hk _
  · rw [e54_39]; exact hk _
  · rw [e54_40]; exact hk _
  · rw [e54_41]; exact hk _
  · rw [e54_42]; exact hk _
  · rw [e54_43]; exact hk _
  · rw [e54_44]; exact hk _
  · rw [e54_45]; exact hk _
  · rw [e54_46]; exact hk _
  · rw [e54_47]; exact hk _
  · rw [e54_48]; exact hk _
  · rw [e54_49]; exact hk _
  · rw [e54_50]; exact hk _
  · rw [e54_51]; exact hk _
  · rw [e54_52]; exact hk _
  · rw [e54_53]; exact hk _
  · rw [e54_54]; exact hk _
  · rw [e54_55]; exact hk _
  · rw [e54_56]; exact hk _
  · rw [e54_57]; exact hk _
  · rw [e54_58]; exact hk _
  · rw [e54_59]; exact hk _
  · rw [e54_60]; exact hk _
  · rw [e54_61]; exact hk _
  · rw [e54_62]; exact hk _
  · rw [e54_63]; exact hk _
def valT (t ps pad pp pg ptp : Int) : Int :=
  if t = 21 ∨ t = 23 then ps + pad - ptp else if t = 9 ∨ t = 22 then pg + pad - pp else if t = 2 ∨ t = 4 then ps + pad - pp else ps + pad
def bd (ps pad pp pg ptp : Int) : Prop := (-1152921504606846976 ≤ ps ∧ ps ≤ 1152921504606846976) ∧ (-1152921504606846976 ≤ pad ∧ pad ≤ 1152921504606846976) ∧ (-1152921504606846976 ≤ pp ∧ pp ≤ 1152921504606846976) ∧ (-1152921504606846976 ≤ pg ∧ pg ≤ 1152921504606846976) ∧ (-1152921504606846976 ≤ ptp ∧ ptp ≤ 1152921504606846976)
instance (ps pad pp pg ptp : Int) : Decidable (bd ps pad pp pg ptp) := by unfold bd; infer_instance
theorem chk {ps pad pp pg ptp : Int} {k2 r : Prop} (h1 : bd ps pad pp pg ptp → r) (h2 : ¬ bd ps pad pp pg ptp → k2) :
    (bif (decide (ps < (-1152921504606846976 : Int))) then (k2) else (bif (decide (ps > (1152921504606846976 : Int))) then (k2) else (bif (decide (pad < (-1152921504606846976 : Int))) then (k2) else (bif (decide (pad > (1152921504606846976 : Int))) then (k2) else (bif (decide (pp < (-1152921504606846976 : Int))) then (k2) else (bif (decide (pp > (1152921504606846976 : Int))) then (k2) else (bif (decide (pg < (-1152921504606846976 : Int))) then (k2) else (bif (decide (pg > (1152921504606846976 : Int))) then (k2) else (bif (decide (ptp < (-1152921504606846976 : Int))) then (k2) else (bif (decide (ptp > (1152921504606846976 : Int))) then (k2) else r)))))))))) := by
  unfold bd at h1 h2
  by_cases c : ps < -1152921504606846976
  · rw [dt c]; exact h2 (by omega)
  rw [df c, cond_false]
  have cpsl := c
  clear c
  by_cases c : ps > 1152921504606846976
  · rw [dt c]; exact h2 (by omega)
  rw [df c, cond_false]
  have cpsg := c
  clear c
  by_cases c : pad < -1152921504606846976
  · rw [dt c]; exact h2 (by omega)
  rw [df c, cond_false]
  have cpadl := c
  clear c
  by_cases c : pad > 1152921504606846976
  · rw [dt c]; exact h2 (by omega)
  rw [df c, cond_false]
  have cpadg := c
  clear c
  by_cases c : pp < -1152921504606846976
  · rw [dt c]; exact h2 (by omega)
  rw [df c, cond_false]
  have cppl := c
  clear c
  by_cases c : pp > 1152921504606846976
  · rw [dt c]; exact h2 (by omega)
  rw [df c, cond_false]
  have cppg := c
  clear c
  by_cases c : pg < -1152921504606846976
  · rw [dt c]; exact h2 (by omega)
  rw [df c, cond_false]
  have cpgl := c
  clear c
  by_cases c : pg > 1152921504606846976
  · rw [dt c]; exact h2 (by omega)
  rw [df c, cond_false]
  have cpgg := c
  clear c
  by_cases c : ptp < -1152921504606846976
  · rw [dt c]; exact h2 (by omega)
  rw [df c, cond_false]
  have cptpl := c
  clear c
  by_cases c : ptp > 1152921504606846976
  · rw [dt c]; exact h2 (by omega)
  rw [df c, cond_false]
  have cptpg := c
  clear c
  exact h1 (by omega)
theorem e31_1 (k : Int → Int → Prop) : G31 1 k = k 8 0 := by kernel_rfl
theorem e32_1 (k : Int → Int → Prop) : G32 1 k = k 8 0 := by kernel_rfl
theorem e23_1 (ps pad pp pg ptp : Int) (k : Int → Int → Prop) : G23 1 ps pad pp pg ptp k = (bif (decide (ps < (-1152921504606846976 : Int))) then (k 0 11) else (bif (decide (ps > (1152921504606846976 : Int))) then (k 0 11) else (bif (decide (pad < (-1152921504606846976 : Int))) then (k 0 11) else (bif (decide (pad > (1152921504606846976 : Int))) then (k 0 11) else (bif (decide (pp < (-1152921504606846976 : Int))) then (k 0 11) else (bif (decide (pp > (1152921504606846976 : Int))) then (k 0 11) else (bif (decide (pg < (-1152921504606846976 : Int))) then (k 0 11) else (bif (decide (pg > (1152921504606846976 : Int))) then (k 0 11) else (bif (decide (ptp < (-1152921504606846976 : Int))) then (k 0 11) else (bif (decide (ptp > (1152921504606846976 : Int))) then (k 0 11) else (k (IntKind.wrap .i64 (ps + pad)) 0))))))))))) := by kernel_rfl
theorem e33_1 (ps pad pp pg ptp : Int) (k : Int → Int → Prop) : G33 1 ps pad pp pg ptp k = (bif (decide (ps < (-1152921504606846976 : Int))) then (k 0 11) else (bif (decide (ps > (1152921504606846976 : Int))) then (k 0 11) else (bif (decide (pad < (-1152921504606846976 : Int))) then (k 0 11) else (bif (decide (pad > (1152921504606846976 : Int))) then (k 0 11) else (bif (decide (pp < (-1152921504606846976 : Int))) then (k 0 11) else (bif (decide (pp > (1152921504606846976 : Int))) then (k 0 11) else (bif (decide (pg < (-1152921504606846976 : Int))) then (k 0 11) else (bif (decide (pg > (1152921504606846976 : Int))) then (k 0 11) else (bif (decide (ptp < (-1152921504606846976 : Int))) then (k 0 11) else (bif (decide (ptp > (1152921504606846976 : Int))) then (k 0 11) else (k (IntKind.wrap .i64 (ps + pad)) 0))))))))))) := by kernel_rfl
theorem e31_2 (k : Int → Int → Prop) : G31 2 k = k 4 0 := by kernel_rfl
theorem e32_2 (k : Int → Int → Prop) : G32 2 k = k 4 0 := by kernel_rfl
theorem e23_2 (ps pad pp pg ptp : Int) (k : Int → Int → Prop) : G23 2 ps pad pp pg ptp k = (bif (decide (ps < (-1152921504606846976 : Int))) then (k 0 11) else (bif (decide (ps > (1152921504606846976 : Int))) then (k 0 11) else (bif (decide (pad < (-1152921504606846976 : Int))) then (k 0 11) else (bif (decide (pad > (1152921504606846976 : Int))) then (k 0 11) else (bif (decide (pp < (-1152921504606846976 : Int))) then (k 0 11) else (bif (decide (pp > (1152921504606846976 : Int))) then (k 0 11) else (bif (decide (pg < (-1152921504606846976 : Int))) then (k 0 11) else (bif (decide (pg > (1152921504606846976 : Int))) then (k 0 11) else (bif (decide (ptp < (-1152921504606846976 : Int))) then (k 0 11) else (bif (decide (ptp > (1152921504606846976 : Int))) then (k 0 11) else (k (IntKind.wrap .i64 ((IntKind.wrap .i64 (ps + pad)) - pp)) 0))))))))))) := by kernel_rfl
theorem e33_2 (ps pad pp pg ptp : Int) (k : Int → Int → Prop) : G33 2 ps pad pp pg ptp k = (bif (decide (ps < (-1152921504606846976 : Int))) then (k 0 11) else (bif (decide (ps > (1152921504606846976 : Int))) then (k 0 11) else (bif (decide (pad < (-1152921504606846976 : Int))) then (k 0 11) else (bif (decide (pad > (1152921504606846976 : Int))) then (k 0 11) else (bif (decide (pp < (-1152921504606846976 : Int))) then (k 0 11) else (bif (decide (pp > (1152921504606846976 : Int))) then (k 0 11) else (bif (decide (pg < (-1152921504606846976 : Int))) then (k 0 11) else (bif (decide (pg > (1152921504606846976 : Int))) then (k 0 11) else (bif (decide (ptp < (-1152921504606846976 : Int))) then (k 0 11) else (bif (decide (ptp > (1152921504606846976 : Int))) then (k 0 11) else (k (IntKind.wrap .i64 ((IntKind.wrap .i64 (ps + pad)) - pp)) 0))))))))))) := by kernel_rfl
theorem e31_4 (k : Int → Int → Prop) : G31 4 k = k 4 0 := by kernel_rfl
theorem e32_4 (k : Int → Int → Prop) : G32 4 k = k 4 0 := by kernel_rfl
theorem e23_4 (ps pad pp pg ptp : Int) (k : Int → Int → Prop) : G23 4 ps pad pp pg ptp k = (bif (decide (ps < (-1152921504606846976 : Int))) then (k 0 11) else (bif (decide (ps > (1152921504606846976 : Int))) then (k 0 11) else (bif (decide (pad < (-1152921504606846976 : Int))) then (k 0 11) else (bif (decide (pad > (1152921504606846976 : Int))) then (k 0 11) else (bif (decide (pp < (-1152921504606846976 : Int))) then (k 0 11) else (bif (decide (pp > (1152921504606846976 : Int))) then (k 0 11) else (bif (decide (pg < (-1152921504606846976 : Int))) then (k 0 11) else (bif (decide (pg > (1152921504606846976 : Int))) then (k 0 11) else (bif (decide (ptp < (-1152921504606846976 : Int))) then (k 0 11) else (bif (decide (ptp > (1152921504606846976 : Int))) then (k 0 11) else (k (IntKind.wrap .i64 ((IntKind.wrap .i64 (ps + pad)) - pp)) 0))))))))))) := by kernel_rfl
theorem e33_4 (ps pad pp pg ptp : Int) (k : Int → Int → Prop) : G33 4 ps pad pp pg ptp k = (bif (decide (ps < (-1152921504606846976 : Int))) then (k 0 11) else (bif (decide (ps > (1152921504606846976 : Int))) then (k 0 11) else (bif (decide (pad < (-1152921504606846976 : Int))) then (k 0 11) else (bif (decide (pad > (1152921504606846976 : Int))) then (k 0 11) else (bif (decide (pp < (-1152921504606846976 : Int))) then (k 0 11) else (bif (decide (pp > (1152921504606846976 : Int))) then (k 0 11) else (bif (decide (pg < (-1152921504606846976 : Int))) then (k 0 11) else (bif (decide (pg > (1152921504606846976 : Int))) then (k 0 11) else (bif (decide (ptp < (-1152921504606846976 : Int))) then (k 0 11) else (bif (decide (ptp > (1152921504606846976 : Int))) then (k 0 11) else (k (IntKind.wrap .i64 ((IntKind.wrap .i64 (ps + pad)) - pp)) 0))))))))))) := by kernel_rfl
theorem e31_9 (k : Int → Int → Prop) : G31 9 k = k 4 0 := by kernel_rfl
theorem e32_9 (k : Int → Int → Prop) : G32 9 k = k 4 0 := by kernel_rfl
theorem e23_9 (ps pad pp pg ptp : Int) (k : Int → Int → Prop) : G23 9 ps pad pp pg ptp k = (bif (decide (ps < (-1152921504606846976 : Int))) then (k 0 11) else (bif (decide (ps > (1152921504606846976 : Int))) then (k 0 11) else (bif (decide (pad < (-1152921504606846976 : Int))) then (k 0 11) else (bif (decide (pad > (1152921504606846976 : Int))) then (k 0 11) else (bif (decide (pp < (-1152921504606846976 : Int))) then (k 0 11) else (bif (decide (pp > (1152921504606846976 : Int))) then (k 0 11) else (bif (decide (pg < (-1152921504606846976 : Int))) then (k 0 11) else (bif (decide (pg > (1152921504606846976 : Int))) then (k 0 11) else (bif (decide (ptp < (-1152921504606846976 : Int))) then (k 0 11) else (bif (decide (ptp > (1152921504606846976 : Int))) then (k 0 11) else (k (IntKind.wrap .i64 ((IntKind.wrap .i64 (pg + pad)) - pp)) 0))))))))))) := by kernel_rfl
theorem e33_9 (ps pad pp pg ptp : Int) (k : Int → Int → Prop) : G33 9 ps pad pp pg ptp k = (bif (decide (ps < (-1152921504606846976 : Int))) then (k 0 11) else (bif (decide (ps > (1152921504606846976 : Int))) then (k 0 11) else (bif (decide (pad < (-1152921504606846976 : Int))) then (k 0 11) else (bif (decide (pad > (1152921504606846976 : Int))) then (k 0 11) else (bif (decide (pp < (-1152921504606846976 : Int))) then (k 0 11) else (bif (decide (pp > (1152921504606846976 : Int))) then (k 0 11) else (bif (decide (pg < (-1152921504606846976 : Int))) then (k 0 11) else (bif (decide (pg > (1152921504606846976 : Int))) then (k 0 11) else (bif (decide (ptp < (-1152921504606846976 : Int))) then (k 0 11) else (bif (decide (ptp > (1152921504606846976 : Int))) then (k 0 11) else (k (IntKind.wrap .i64 ((IntKind.wrap .i64 (pg + pad)) - pp)) 0))))))))))) := by kernel_rfl
theorem e31_10 (k : Int → Int → Prop) : G31 10 k = k 4 0 := by kernel_rfl
theorem e32_10 (k : Int → Int → Prop) : G32 10 k = k 4 0 := by kernel_rfl
theorem e23_10 (ps pad pp pg ptp : Int) (k : Int → Int → Prop) : G23 10 ps pad pp pg ptp k = (bif (decide (ps < (-1152921504606846976 : Int))) then (k 0 11) else (bif (decide (ps > (1152921504606846976 : Int))) then (k 0 11) else (bif (decide (pad < (-1152921504606846976 : Int))) then (k 0 11) else (bif (decide (pad > (1152921504606846976 : Int))) then (k 0 11) else (bif (decide (pp < (-1152921504606846976 : Int))) then (k 0 11) else (bif (decide (pp > (1152921504606846976 : Int))) then (k 0 11) else (bif (decide (pg < (-1152921504606846976 : Int))) then (k 0 11) else (bif (decide (pg > (1152921504606846976 : Int))) then (k 0 11) else (bif (decide (ptp < (-1152921504606846976 : Int))) then (k 0 11) else (bif (decide (ptp > (1152921504606846976 : Int))) then (k 0 11) else (k (IntKind.wrap .i64 (ps + pad)) 0))))))))))) := by kernel_rfl
theorem e33_10 (ps pad pp pg ptp : Int) (k : Int → Int → Prop) : G33 10 ps pad pp pg ptp k = (bif (decide (ps < (-1152921504606846976 : Int))) then (k 0 11) else (bif (decide (ps > (1152921504606846976 : Int))) then (k 0 11) else (bif (decide (pad < (-1152921504606846976 : Int))) then (k 0 11) else (bif (decide (pad > (1152921504606846976 : Int))) then (k 0 11) else (bif (decide (pp < (-1152921504606846976 : Int))) then (k 0 11) else (bif (decide (pp > (1152921504606846976 : Int))) then (k 0 11) else (bif (decide (pg < (-1152921504606846976 : Int))) then (k 0 11) else (bif (decide (pg > (1152921504606846976 : Int))) then (k 0 11) else (bif (decide (ptp < (-1152921504606846976 : Int))) then (k 0 11) else (bif (decide (ptp > (1152921504606846976 : Int))) then (k 0 11) else (k (IntKind.wrap .i64 (ps + pad)) 0))))))))))) := by kernel_rfl
theorem e31_11 (k : Int → Int → Prop) : G31 11 k = k 4 0 := by kernel_rfl
theorem e32_11 (k : Int → Int → Prop) : G32 11 k = k 4 0 := by kernel_rfl
theorem e23_11 (ps pad pp pg ptp : Int) (k : Int → Int → Prop) : G23 11 ps pad pp pg ptp k = (bif (decide (ps < (-1152921504606846976 : Int))) then (k 0 11) else (bif (decide (ps > (1152921504606846976 : Int))) then (k 0 11) else (bif (decide (pad < (-1152921504606846976 : Int))) then (k 0 11) else (bif (decide (pad > (1152921504606846976 : Int))) then (k 0 11) else (bif (decide (pp < (-1152921504606846976 : Int))) then (k 0 11) else (bif (decide (pp > (1152921504606846976 : Int))) then (k 0 11) else (bif (decide (pg < (-1152921504606846976 : Int))) then (k 0 11) else (bif (decide (pg > (1152921504606846976 : Int))) then (k 0 11) else (bif (decide (ptp < (-1152921504606846976 : Int))) then (k 0 11) else (bif (decide (ptp > (1152921504606846976 : Int))) then (k 0 11) else (k (IntKind.wrap .i64 (ps + pad)) 0))))))))))) := by kernel_rfl
theorem e33_11 (ps pad pp pg ptp : Int) (k : Int → Int → Prop) : G33 11 ps pad pp pg ptp k = (bif (decide (ps < (-1152921504606846976 : Int))) then (k 0 11) else (bif (decide (ps > (1152921504606846976 : Int))) then (k 0 11) else (bif (decide (pad < (-1152921504606846976 : Int))) then (k 0 11) else (bif (decide (pad > (1152921504606846976 : Int))) then (k 0 11) else (bif (decide (pp < (-1152921504606846976 : Int))) then (k 0 11) else (bif (decide (pp > (1152921504606846976 : Int))) then (k 0 11) else (bif (decide (pg < (-1152921504606846976 : Int))) then (k 0 11) else (bif (decide (pg > (1152921504606846976 : Int))) then (k 0 11) else (bif (decide (ptp < (-1152921504606846976 : Int))) then (k 0 11) else (bif (decide (ptp > (1152921504606846976 : Int))) then (k 0 11) else (k (IntKind.wrap .i64 (ps + pad)) 0))))))))))) := by kernel_rfl
theorem e31_21 (k : Int → Int → Prop) : G31 21 k = k 4 0 := by kernel_rfl
theorem e32_21 (k : Int → Int → Prop) : G32 21 k = k 4 0 := by kernel_rfl
theorem e23_21 (ps pad pp pg ptp : Int) (k : Int → Int → Prop) : G23 21 ps pad pp pg ptp k = (bif (decide (ps < (-1152921504606846976 : Int))) then (k 0 11) else (bif (decide (ps > (1152921504606846976 : Int))) then (k 0 11) else (bif (decide (pad < (-1152921504606846976 : Int))) then (k 0 11) else (bif (decide (pad > (1152921504606846976 : Int))) then (k 0 11) else (bif (decide (pp < (-1152921504606846976 : Int))) then (k 0 11) else (bif (decide (pp > (1152921504606846976 : Int))) then (k 0 11) else (bif (decide (pg < (-1152921504606846976 : Int))) then (k 0 11) else (bif (decide (pg > (1152921504606846976 : Int))) then (k 0 11) else (bif (decide (ptp < (-1152921504606846976 : Int))) then (k 0 11) else (bif (decide (ptp > (1152921504606846976 : Int))) then (k 0 11) else (k (IntKind.wrap .i64 ((IntKind.wrap .i64 (ps + pad)) - ptp)) 0))))))))))) := by kernel_rfl
theorem e33_21 (ps pad pp pg ptp : Int) (k : Int → Int → Prop) : G33 21 ps pad pp pg ptp k = (bif (decide (ps < (-1152921504606846976 : Int))) then (k 0 11) else (bif (decide (ps > (1152921504606846976 : Int))) then (k 0 11) else (bif (decide (pad < (-1152921504606846976 : Int))) then (k 0 11) else (bif (decide (pad > (1152921504606846976 : Int))) then (k 0 11) else (bif (decide (pp < (-1152921504606846976 : Int))) then (k 0 11) else (bif (decide (pp > (1152921504606846976 : Int))) then (k 0 11) else (bif (decide (pg < (-1152921504606846976 : Int))) then (k 0 11) else (bif (decide (pg > (1152921504606846976 : Int))) then (k 0 11) else (bif (decide (ptp < (-1152921504606846976 : Int))) then (k 0 11) else (bif (decide (ptp > (1152921504606846976 : Int))) then (k 0 11) else (k (IntKind.wrap .i64 ((IntKind.wrap .i64 (ps + pad)) - ptp)) 0))))))))))) := by kernel_rfl
theorem e31_22 (k : Int → Int → Prop) : G31 22 k = k 4 0 := by kernel_rfl
theorem e32_22 (k : Int → Int → Prop) : G32 22 k = k 4 0 := by kernel_rfl
theorem e23_22 (ps pad pp pg ptp : Int) (k : Int → Int → Prop) : G23 22 ps pad pp pg ptp k = (bif (decide (ps < (-1152921504606846976 : Int))) then (k 0 11) else (bif (decide (ps > (1152921504606846976 : Int))) then (k 0 11) else (bif (decide (pad < (-1152921504606846976 : Int))) then (k 0 11) else (bif (decide (pad > (1152921504606846976 : Int))) then (k 0 11) else (bif (decide (pp < (-1152921504606846976 : Int))) then (k 0 11) else (bif (decide (pp > (1152921504606846976 : Int))) then (k 0 11) else (bif (decide (pg < (-1152921504606846976 : Int))) then (k 0 11) else (bif (decide (pg > (1152921504606846976 : Int))) then (k 0 11) else (bif (decide (ptp < (-1152921504606846976 : Int))) then (k 0 11) else (bif (decide (ptp > (1152921504606846976 : Int))) then (k 0 11) else (k (IntKind.wrap .i64 ((IntKind.wrap .i64 (pg + pad)) - pp)) 0))))))))))) := by kernel_rfl
theorem e33_22 (ps pad pp pg ptp : Int) (k : Int → Int → Prop) : G33 22 ps pad pp pg ptp k = (bif (decide (ps < (-1152921504606846976 : Int))) then (k 0 11) else (bif (decide (ps > (1152921504606846976 : Int))) then (k 0 11) else (bif (decide (pad < (-1152921504606846976 : Int))) then (k 0 11) else (bif (decide (pad > (1152921504606846976 : Int))) then (k 0 11) else (bif (decide (pp < (-1152921504606846976 : Int))) then (k 0 11) else (bif (decide (pp > (1152921504606846976 : Int))) then (k 0 11) else (bif (decide (pg < (-1152921504606846976 : Int))) then (k 0 11) else (bif (decide (pg > (1152921504606846976 : Int))) then (k 0 11) else (bif (decide (ptp < (-1152921504606846976 : Int))) then (k 0 11) else (bif (decide (ptp > (1152921504606846976 : Int))) then (k 0 11) else (k (IntKind.wrap .i64 ((IntKind.wrap .i64 (pg + pad)) - pp)) 0))))))))))) := by kernel_rfl
theorem e31_23 (k : Int → Int → Prop) : G31 23 k = k 4 0 := by kernel_rfl
theorem e32_23 (k : Int → Int → Prop) : G32 23 k = k 4 0 := by kernel_rfl
theorem e23_23 (ps pad pp pg ptp : Int) (k : Int → Int → Prop) : G23 23 ps pad pp pg ptp k = (bif (decide (ps < (-1152921504606846976 : Int))) then (k 0 11) else (bif (decide (ps > (1152921504606846976 : Int))) then (k 0 11) else (bif (decide (pad < (-1152921504606846976 : Int))) then (k 0 11) else (bif (decide (pad > (1152921504606846976 : Int))) then (k 0 11) else (bif (decide (pp < (-1152921504606846976 : Int))) then (k 0 11) else (bif (decide (pp > (1152921504606846976 : Int))) then (k 0 11) else (bif (decide (pg < (-1152921504606846976 : Int))) then (k 0 11) else (bif (decide (pg > (1152921504606846976 : Int))) then (k 0 11) else (bif (decide (ptp < (-1152921504606846976 : Int))) then (k 0 11) else (bif (decide (ptp > (1152921504606846976 : Int))) then (k 0 11) else (k (IntKind.wrap .i64 ((IntKind.wrap .i64 (ps + pad)) - ptp)) 0))))))))))) := by kernel_rfl
theorem e33_23 (ps pad pp pg ptp : Int) (k : Int → Int → Prop) : G33 23 ps pad pp pg ptp k = (bif (decide (ps < (-1152921504606846976 : Int))) then (k 0 11) else (bif (decide (ps > (1152921504606846976 : Int))) then (k 0 11) else (bif (decide (pad < (-1152921504606846976 : Int))) then (k 0 11) else (bif (decide (pad > (1152921504606846976 : Int))) then (k 0 11) else (bif (decide (pp < (-1152921504606846976 : Int))) then (k 0 11) else (bif (decide (pp > (1152921504606846976 : Int))) then (k 0 11) else (bif (decide (pg < (-1152921504606846976 : Int))) then (k 0 11) else (bif (decide (pg > (1152921504606846976 : Int))) then (k 0 11) else (bif (decide (ptp < (-1152921504606846976 : Int))) then (k 0 11) else (bif (decide (ptp > (1152921504606846976 : Int))) then (k 0 11) else (k (IntKind.wrap .i64 ((IntKind.wrap .i64 (ps + pad)) - ptp)) 0))))))))))) := by kernel_rfl
theorem e34_1 (n : Int) (k : Bool → Int → Prop) : G34 1 n k = k true 0 := by kernel_rfl
theorem e35_1 (n : Int) (k : Bool → Int → Prop) : G35 1 n k = k true 0 := by kernel_rfl
theorem e34_2 (n : Int) (k : Bool → Int → Prop) : G34 2 n k = (bif (decide (n ≥ -2147483648)) then (k (decide (n < 2147483648)) 0) else (k false 0)) := by kernel_rfl
theorem e35_2 (n : Int) (k : Bool → Int → Prop) : G35 2 n k = (bif (decide (n ≥ -2147483648)) then (k (decide (n < 2147483648)) 0) else (k false 0)) := by kernel_rfl
theorem e34_4 (n : Int) (k : Bool → Int → Prop) : G34 4 n k = (bif (decide (n ≥ -2147483648)) then (k (decide (n < 2147483648)) 0) else (k false 0)) := by kernel_rfl
theorem e35_4 (n : Int) (k : Bool → Int → Prop) : G35 4 n k = (bif (decide (n ≥ -2147483648)) then (k (decide (n < 2147483648)) 0) else (k false 0)) := by kernel_rfl
theorem e34_9 (n : Int) (k : Bool → Int → Prop) : G34 9 n k = (bif (decide (n ≥ -2147483648)) then (k (decide (n < 2147483648)) 0) else (k false 0)) := by kernel_rfl
theorem e35_9 (n : Int) (k : Bool → Int → Prop) : G35 9 n k = (bif (decide (n ≥ -2147483648)) then (k (decide (n < 2147483648)) 0) else (k false 0)) := by kernel_rfl
theorem e34_10 (n : Int) (k : Bool → Int → Prop) : G34 10 n k = (bif (decide (n < 0)) then (k false 0) else (k (decide (n < 4294967296)) 0)) := by kernel_rfl
theorem e35_10 (n : Int) (k : Bool → Int → Prop) : G35 10 n k = (bif (decide (n ≥ 0)) then (k (decide (n < 4294967296)) 0) else (k false 0)) := by kernel_rfl
theorem e34_11 (n : Int) (k : Bool → Int → Prop) : G34 11 n k = (bif (decide (n ≥ -2147483648)) then (k (decide (n < 2147483648)) 0) else (k false 0)) := by kernel_rfl
theorem e35_11 (n : Int) (k : Bool → Int → Prop) : G35 11 n k = (bif (decide (n ≥ -2147483648)) then (k (decide (n < 2147483648)) 0) else (k false 0)) := by kernel_rfl
theorem e34_21 (n : Int) (k : Bool → Int → Prop) : G34 21 n k = (bif (decide (n ≥ -2147483648)) then (k (decide (n < 2147483648)) 0) else (k false 0)) := by kernel_rfl
theorem e35_21 (n : Int) (k : Bool → Int → Prop) : G35 21 n k = (bif (decide (n ≥ -2147483648)) then (k (decide (n < 2147483648)) 0) else (k false 0)) := by kernel_rfl
theorem e34_22 (n : Int) (k : Bool → Int → Prop) : G34 22 n k = (bif (decide (n ≥ -2147483648)) then (k (decide (n < 2147483648)) 0) else (k false 0)) := by kernel_rfl
theorem e35_22 (n : Int) (k : Bool → Int → Prop) : G35 22 n k = (bif (decide (n ≥ -2147483648)) then (k (decide (n < 2147483648)) 0) else (k false 0)) := by kernel_rfl
theorem e34_23 (n : Int) (k : Bool → Int → Prop) : G34 23 n k = (bif (decide (n ≥ -2147483648)) then (k (decide (n < 2147483648)) 0) else (k false 0)) := by kernel_rfl
theorem e35_23 (n : Int) (k : Bool → Int → Prop) : G35 23 n k = (bif (decide (n ≥ -2147483648)) then (k (decide (n < 2147483648)) 0) else (k false 0)) := by kernel_rfl
theorem e40_0 (A B : Prop) : G40 0 (fun x => G41 0 (fun y => bif (x == y) then A else B)) = A := by kernel_rfl
theorem e40_1 (A B : Prop) : G40 1 (fun x => G41 1 (fun y => bif (x == y) then A else B)) = A := by kernel_rfl
theorem e40_2 (A B : Prop) : G40 2 (fun x => G41 2 (fun y => bif (x == y) then A else B)) = A := by kernel_rfl
theorem e40_3 (A B : Prop) : G40 3 (fun x => G41 3 (fun y => bif (x == y) then A else B)) = A := by kernel_rfl
theorem e40_4 (A B : Prop) : G40 4 (fun x => G41 4 (fun y => bif (x == y) then A else B)) = A := by kernel_rfl
theorem e40_5 (A B : Prop) : G40 5 (fun x => G41 5 (fun y => bif (x == y) then A else B)) = A := by kernel_rfl
theorem e40_6 (A B : Prop) : G40 6 (fun x => G41 6 (fun y => bif (x == y) then A else B)) = A := by kernel_rfl
theorem e40_7 (A B : Prop) : G40 7 (fun x => G41 7 (fun y => bif (x == y) then A else B)) = A := by kernel_rfl
theorem e40_8 (A B : Prop) : G40 8 (fun x => G41 8 (fun y => bif (x == y) then A else B)) = A := by kernel_rfl
theorem e40_9 (A B : Prop) : G40 9 (fun x => G41 9 (fun y => bif (x == y) then A else B)) = A := by kernel_rfl
theorem e40_10 (A B : Prop) : G40 10 (fun x => G41 10 (fun y => bif (x == y) then A else B)) = A := by kernel_rfl
theorem e40_11 (A B : Prop) : G40 11 (fun x => G41 11 (fun y => bif (x == y) then A else B)) = A := by kernel_rfl
theorem e40_12 (A B : Prop) : G40 12 (fun x => G41 12 (fun y => bif (x == y) then A else B)) = A := by kernel_rfl
theorem e40_13 (A B : Prop) : G40 13 (fun x => G41 13 (fun y => bif (x == y) then A else B)) = A := by kernel_rfl
theorem e40_14 (A B : Prop) : G40 14 (fun x => G41 14 (fun y => bif (x == y) then A else B)) = A := by kernel_rfl
theorem e40_15 (A B : Prop) : G40 15 (fun x => G41 15 (fun y => bif (x == y) then A else B)) = A := by kernel_rfl
theorem e40_16 (A B : Prop) : G40 16 (fun x => G41 16 (fun y => bif (x == y) then A else B)) = A := by kernel_rfl
theorem e40_17 (A B : Prop) : G40 17 (fun x => G41 17 (fun y => bif (x == y) then A else B)) = A := by kernel_rfl
theorem e40_18 (A B : Prop) : G40 18 (fun x => G41 18 (fun y => bif (x == y) then A else B)) = A := by kernel_rfl
theorem e40_19 (A B : Prop) : G40 19 (fun x => G41 19 (fun y => bif (x == y) then A else B)) = A := by kernel_rfl
theorem e40_20 (A B : Prop) : G40 20 (fun x => G41 20 (fun y => bif (x == y) then A else B)) = A := by kernel_rfl
theorem e40_21 (A B : Prop) : G40 21 (fun x => G41 21 (fun y => bif (x == y) then A else B)) = A := by kernel_rfl
theorem e40_22 (A B : Prop) : G40 22 (fun x => G41 22 (fun y => bif (x == y) then A else B)) = A := by kernel_rfl
theorem e40_23 (A B : Prop) : G40 23 (fun x => G41 23 (fun y => bif (x == y) then A else B)) = A := by kernel_rfl
theorem e40_24 (A B : Prop) : G40 24 (fun x => G41 24 (fun y => bif (x == y) then A else B)) = A := by kernel_rfl
theorem e40_25 (A B : Prop) : G40 25 (fun x => G41 25 (fun y => bif (x == y) then A else B)) = A := by kernel_rfl
theorem e40_26 (A B : Prop) : G40 26 (fun x => G41 26 (fun y => bif (x == y) then A else B)) = A := by kernel_rfl
theorem e40_27 (A B : Prop) : G40 27 (fun x => G41 27 (fun y => bif (x == y) then A else B)) = A := by kernel_rfl
theorem e40_28 (A B : Prop) : G40 28 (fun x => G41 28 (fun y => bif (x == y) then A else B)) = A := by kernel_rfl
theorem e40_29 (A B : Prop) : G40 29 (fun x => G41 29 (fun y => bif (x == y) then A else B)) = A := by kernel_rfl
theorem e40_30 (A B : Prop) : G40 30 (fun x => G41 30 (fun y => bif (x == y) then A else B)) = A := by kernel_rfl
theorem e40_31 (A B : Prop) : G40 31 (fun x => G41 31 (fun y => bif (x == y) then A else B)) = A := by kernel_rfl
theorem e40_32 (A B : Prop) : G40 32 (fun x => G41 32 (fun y => bif (x == y) then A else B)) = A := by kernel_rfl
theorem e40_33 (A B : Prop) : G40 33 (fun x => G41 33 (fun y => bif (x == y) then A else B)) = A := by kernel_rfl
theorem e40_34 (A B : Prop) : G40 34 (fun x => G41 34 (fun y => bif (x == y) then A else B)) = A := by kernel_rfl
theorem e40_35 (A B : Prop) : G40 35 (fun x => G41 35 (fun y => bif (x == y) then A else B)) = A := by kernel_rfl
theorem e40_36 (A B : Prop) : G40 36 (fun x => G41 36 (fun y => bif (x == y) then A else B)) = A := by kernel_rfl
theorem e40_37 (A B : Prop) : G40 37 (fun x => G41 37 (fun y => bif (x == y) then A else B)) = A := by kernel_rfl
theorem e40_38 (A B : Prop) : G40 38 (fun x => G41 38 (fun y => bif (x == y) then A else B)) = A := by kernel_rfl
theorem e40_39 (A B : Prop) : G40 39 (fun x => G41 39 (fun y => bif (x == y) then A else B)) = A := by kernel_rfl
theorem e40_40 (A B : Prop) : G40 40 (fun x => G41 40 (fun y => bif (x == y) then A else B)) = A := by kernel_rfl
theorem e40_41 (A B : Prop) : G40 41 (fun x => G41 41 (fun y => bif (x == y) then A else B)) = A := by kernel_rfl
theorem e40_42 (A B : Prop) : G40 42 (fun x => G41 42 (fun y => bif (x == y) then A else B)) = A := by kernel_rfl
theorem e40_43 (A B : Prop) : G40 43 (fun x => G41 43 (fun y => bif (x == y) then A else B)) = A := by kernel_rfl
theorem e40_44 (A B : Prop) : G40 44 (fun x => G41 44 (fun y => bif (x == y) then A else B)) = A := by kernel_rfl
theorem e40_45 (A B : Prop) : G40 45 (fun x => G41 45 (fun y => bif (x == y) then A else B)) = A := by kernel_rfl
theorem e40_46 (A B : Prop) : G40 46 (fun x => G41 46 (fun y => bif (x == y) then A else B)) = A := by kernel_rfl
theorem e40_47 (A B : Prop) : G40 47 (fun x => G41 47 (fun y => bif (x == y) then A else B)) = A := by kernel_rfl
theorem e40_48 (A B : Prop) : G40 48 (fun x => G41 48 (fun y => bif (x == y) then A else B)) = A := by kernel_rfl
theorem e40_49 (A B : Prop) : G40 49 (fun x => G41 49 (fun y => bif (x == y) then A else B)) = A := by kernel_rfl
theorem e40_50 (A B : Prop) : G40 50 (fun x => G41 50 (fun y => bif (x == y) then A else B)) = A := by kernel_rfl
theorem e40_51 (A B : Prop) : G40 51 (fun x => G41 51 (fun y => bif (x == y) then A else B)) = A := by kernel_rfl
theorem e40_52 (A B : Prop) : G40 52 (fun x => G41 52 (fun y => bif (x == y) then A else B)) = A := by kernel_rfl
theorem e40_53 (A B : Prop) : G40 53 (fun x => G41 53 (fun y => bif (x == y) then A else B)) = A := by kernel_rfl
theorem e40_54 (A B : Prop) : G40 54 (fun x => G41 54 (fun y => bif (x == y) then A else B)) = A := by kernel_rfl
theorem e40_55 (A B : Prop) : G40 55 (fun x => G41 55 (fun y => bif (x == y) then A else B)) = A := by kernel_rfl
theorem e40_56 (A B : Prop) : G40 56 (fun x => G41 56 (fun y => bif (x == y) then A else B)) = A := by kernel_rfl
theorem e40_57 (A B : Prop) : G40 57 (fun x => G41 57 (fun y => bif (x == y) then A else B)) = A := by kernel_rfl
theorem e40_58 (A B : Prop) : G40 58 (fun x => G41 58 (fun y => bif (x == y) then A else B)) = A := by kernel_rfl
theorem e40_59 (A B : Prop) : G40 59 (fun x => G41 59 (fun y => bif (x == y) then A else B)) = A := by kernel_rfl
theorem e40_60 (A B : Prop) : G40 60 (fun x => G41 60 (fun y => bif (x == y) then A else B)) = A := by kernel_rfl
theorem e40_61 (A B : Prop) : G40 61 (fun x => G41 61 (fun y => bif (x == y) then A else B)) = A := by kernel_rfl
theorem e40_62 (A B : Prop) : G40 62 (fun x => G41 62 (fun y => bif (x == y) then A else B)) = A := by kernel_rfl
theorem e40_63 (A B : Prop) : G40 63 (fun x => G41 63 (fun y => bif (x == y) then A else B)) = A := by kernel_rfl
theorem n31 {t : Int} (h : ¬ okT t) {k : Int → Int → Prop} (hk : k 0 200) : G31 t k := by
  unfold G31 F31; exact g54_no h _ _ _ _ _ _ _ (fun _ => hk)
theorem n32 {t : Int} (h : ¬ okT t) {k : Int → Int → Prop} (hk : k 0 200) : G32 t k := by
  have q1 : (t == (1 : Int)) = false := by unfold okT at h; simp; omega
  have q2 : (t == (2 : Int)) = false := by unfold okT at h; simp; omega
  have q4 : (t == (4 : Int)) = false := by unfold okT at h; simp; omega
  have q9 : (t == (9 : Int)) = false := by unfold okT at h; simp; omega
  have q10 : (t == (10 : Int)) = false := by unfold okT at h; simp; omega
  have q11 : (t == (11 : Int)) = false := by unfold okT at h; simp; omega
  have q21 : (t == (21 : Int)) = false := by unfold okT at h; simp; omega
  have q22 : (t == (22 : Int)) = false := by unfold okT at h; simp; omega
  have q23 : (t == (23 : Int)) = false := by unfold okT at h; simp; omega
  unfold G32 F32
  simp only [q1, q2, q4, q9, q10, q11, q21, q22, q23, cond_false]
  exact hk
theorem n32a {t : Int} (h : ¬ okT t) {k1 k2 k3 : Prop} (hk : k3) : G32a t k1 k2 k3 := by
  have q1 : (t == (1 : Int)) = false := by unfold okT at h; simp; omega
  have q2 : (t == (2 : Int)) = false := by unfold okT at h; simp; omega
  have q4 : (t == (4 : Int)) = false := by unfold okT at h; simp; omega
  have q9 : (t == (9 : Int)) = false := by unfold okT at h; simp; omega
  have q10 : (t == (10 : Int)) = false := by unfold okT at h; simp; omega
  have q11 : (t == (11 : Int)) = false := by unfold okT at h; simp; omega
  have q21 : (t == (21 : Int)) = false := by unfold okT at h; simp; omega
  have q22 : (t == (22 : Int)) = false := by unfold okT at h; simp; omega
  have q23 : (t == (23 : Int)) = false := by unfold okT at h; simp; omega
  unfold G32a F32a
  simp only [q1, q2, q4, q9, q10, q11, q21, q22, q23, cond_false]
  exact hk
theorem n23 {t ps pad pp pg ptp : Int} (h : ¬ okT t) {k : Int → Int → Prop} (hk : k 0 200) : G23 t ps pad pp pg ptp k := by
  unfold G23 F23; exact g54_no h _ _ _ _ _ _ _ (fun _ => hk)
theorem n33 {t ps pad pp pg ptp : Int} (h : ¬ okT t) {k : Int → Int → Prop} (hk : k 0 200) : G33 t ps pad pp pg ptp k := by
  unfold G33 F33; exact n32a h hk
theorem n34 {t n : Int} (h : ¬ okT t) {k : Bool → Int → Prop} (hk : k false 200) : G34 t n k := by
  unfold G34 F34; exact g54_no h _ _ _ _ _ _ _ (fun _ => hk)
theorem n35 {t n : Int} (h : ¬ okT t) {k : Bool → Int → Prop} (hk : k false 200) : G35 t n k := by
  unfold G35 F35; exact n32a h hk
theorem names_out {t : Int} (h : t < 0 ∨ t ≥ 64) {A B : Prop} (hA : A) : G40 t (fun x => G41 t (fun y => bif (x == y) then A else B)) := by
  have e : ∀ (k1 k2 k3 k4 k5 k6 k7 : List Int → Prop), k1 [] → G54 t k1 k2 k3 k4 k5 k6 k7 := by
    intro k1 k2 k3 k4 k5 k6 k7 hk
    unfold G54 F54
    by_cases h0 : t < 0
    · rw [dt h0]; exact hk
    · rw [df h0, dt (by omega : t ≥ 64)]; exact hk
  unfold G40 F40
  refine e _ _ _ _ _ _ _ ?_
  have p0 : (t == (0 : Int)) = false := by simp; omega
  have p1 : (t == (1 : Int)) = false := by simp; omega
  have p2 : (t == (2 : Int)) = false := by simp; omega
  have p4 : (t == (4 : Int)) = false := by simp; omega
  have p6 : (t == (6 : Int)) = false := by simp; omega
  have p8 : (t == (8 : Int)) = false := by simp; omega
  have p9 : (t == (9 : Int)) = false := by simp; omega
  have p10 : (t == (10 : Int)) = false := by simp; omega
  have p11 : (t == (11 : Int)) = false := by simp; omega
  have p19 : (t == (19 : Int)) = false := by simp; omega
  have p20 : (t == (20 : Int)) = false := by simp; omega
  have p21 : (t == (21 : Int)) = false := by simp; omega
  have p22 : (t == (22 : Int)) = false := by simp; omega
  have p23 : (t == (23 : Int)) = false := by simp; omega
  have p37 : (t == (37 : Int)) = false := by simp; omega
  unfold G41 F41
  simp only [p0, p1, p2, p4, p6, p8, p9, p10, p11, p19, p20, p21, p22, p23, p37, cond_false]
  exact hA
theorem names {t : Int} {A B : Prop} (hA : A) : G40 t (fun x => G41 t (fun y => bif (x == y) then A else B)) := by
  by_cases h : t < 0 ∨ t ≥ 64
  · exact names_out h hA
  have : t = 0 ∨ t = 1 ∨ t = 2 ∨ t = 3 ∨ t = 4 ∨ t = 5 ∨ t = 6 ∨ t = 7 ∨ t = 8 ∨ t = 9 ∨ t = 10 ∨ t = 11 ∨ t = 12 ∨ t = 13 ∨ t = 14 ∨ t = 15 ∨ t = 16 ∨ t = 17 ∨ t = 18 ∨ t = 19 ∨ t = 20 ∨ t = 21 ∨ t = 22 ∨ t = 23 ∨ t = 24 ∨ t = 25 ∨ t = 26 ∨ t = 27 ∨ t = 28 ∨ t = 29 ∨ t = 30 ∨ t = 31 ∨ t = 32 ∨ t = 33 ∨ t = 34 ∨ t = 35 ∨ t = 36 ∨ t = 37 ∨ t = 38 ∨ t = 39 ∨ t = 40 ∨ t = 41 ∨ t = 42 ∨ t = 43 ∨ t = 44 ∨ t = 45 ∨ t = 46 ∨ t = 47 ∨ t = 48 ∨ t = 49 ∨ t = 50 ∨ t = 51 ∨ t = 52 ∨ t = 53 ∨ t = 54 ∨ t = 55 ∨ t = 56 ∨ t = 57 ∨ t = 58 ∨ t = 59 ∨ t = 60 ∨ t = 61 ∨ t = 62 ∨ t = 63 := by omega
  rcases this with rfl | rfl | rfl | rfl | rfl | rfl | rfl | rfl | rfl | rfl | rfl | rfl | rfl | rfl | rfl | rfl | rfl | rfl | rfl | rfl | rfl | rfl | rfl | rfl | rfl | rfl | rfl | rfl | rfl | rfl | rfl | rfl | rfl | rfl | rfl | rfl | rfl | rfl | rfl | rfl | rfl | rfl | rfl | rfl | rfl | rfl | rfl | rfl | rfl | rfl | rfl | rfl | rfl | rfl | rfl | rfl | rfl | rfl | rfl | rfl | rfl | rfl | rfl | rfl
  · rw [e40_0]; exact hA
  · rw [e40_1]; exact hA
  · rw [e40_2]; exact hA
  · rw [e40_3]; exact hA
  · rw [e40_4]; exact hA
  · rw [e40_5]; exact hA
  · rw [e40_6]; exact hA
  · rw [e40_7]; exact hA
  · rw [e40_8]; exact hA
  · rw [e40_9]; exact hA
  · rw [e40_10]; exact hA
  · rw [e40_11]; exact hA
  · rw [e40_12]; exact hA
  · rw [e40_13]; exact hA
  · rw [e40_14]; exact hA
  · rw [e40_15]; exact hA
  · rw [e40_16]; exact hA
  · rw [e40_17]; exact hA
  · rw [e40_18]; exact hA
  · rw [e40_19]; exact hA
  · rw [e40_20]; exact hA
  · rw [e40_21]; exact hA
  · rw [e40_22]; exact hA
  · rw [e40_23]; exact hA
  · rw [e40_24]; exact hA
  · rw [e40_25]; exact hA
  · rw [e40_26]; exact hA
  · rw [e40_27]; exact hA
  · rw [e40_28]; exact hA
  · rw [e40_29]; exact hA
  · rw [e40_30]; exact hA
  · rw [e40_31]; exact hA
  · rw [e40_32]; exact hA
  · rw [e40_33]; exact hA
  · rw [e40_34]; exact hA
  · rw [e40_35]; exact hA
  · rw [e40_36]; exact hA
  · rw [e40_37]; exact hA
  · rw [e40_38]; exact hA
  · rw [e40_39]; exact hA
  · rw [e40_40]; exact hA
  · rw [e40_41]; exact hA
  · rw [e40_42]; exact hA
  · rw [e40_43]; exact hA
  · rw [e40_44]; exact hA
  · rw [e40_45]; exact hA
  · rw [e40_46]; exact hA
  · rw [e40_47]; exact hA
  · rw [e40_48]; exact hA
  · rw [e40_49]; exact hA
  · rw [e40_50]; exact hA
  · rw [e40_51]; exact hA
  · rw [e40_52]; exact hA
  · rw [e40_53]; exact hA
  · rw [e40_54]; exact hA
  · rw [e40_55]; exact hA
  · rw [e40_56]; exact hA
  · rw [e40_57]; exact hA
  · rw [e40_58]; exact hA
  · rw [e40_59]; exact hA
  · rw [e40_60]; exact hA
  · rw [e40_61]; exact hA
  · rw [e40_62]; exact hA
  · rw [e40_63]; exact hA
theorem tail {t : Int} {k1 k2 : Prop} (h : k1) : G38 t (fun b17 => G39 t (fun b18 => bif (b17 == b18) then (G40 t (fun x => G41 t (fun y => bif (x == y) then (G25 k1) else k2))) else k2)) := by
  show cond ((t == 1) == (t == 1)) _ _
  rw [show ((t == (1 : Int)) == (t == 1)) = true by simp]
  exact names h
theorem bb (a : Bool) : (a == a) = true := by simp
theorem ii (a : Int) : (a == a) = true := by simp
theorem last {t : Int} {k1 k2 : Prop} {a1 : Int} {e1 v ev : Int} {b : Bool} {eb : Int} (h : k1) : G36 t (fun b13 b14 => G37 t (fun b15 b16 => (bif (a1 == a1) then (G24 e1 ((bif (e1 == e1) then (bif (v == v) then (G24 ev ((bif (ev == ev) then (bif (b == b) then (G24 eb ((bif (eb == eb) then (bif (b13 == b15) then (bif (b14 == b16) then (G38 t (fun (b17 : Bool) => (G39 t (fun (b18 : Bool) => (bif (b17 == b18) then (G40 t (fun (xs19 : List Int) => (G41 t (fun (xs20 : List Int) => (bif (xs19 == xs20) then (G25 ((k1))) else (k2)))))) else (k2)))))) else (k2)) else (k2)) else (k2)))) else (k2)) else (k2)))) else (k2)) else (k2)))) else (k2)))) := by
  simp only [bb, ii, cond_true]
  show cond ((t == 9) == (t == 9)) (cond ((t == 22) == (t == 22)) _ _) _
  rw [bb, bb]
  exact tail h
theorem fits_same {t n : Int} {Q : Bool → Int → Bool → Int → Prop} (h : ∀ b e, Q b e b e) : G34 t n (fun b9 n10 => G35 t n (fun b11 n12 => Q b9 n10 b11 n12)) := by
  by_cases hok : okT t
  · unfold okT at hok
    rcases hok with rfl | rfl | rfl | rfl | rfl | rfl | rfl | rfl | rfl
    · rw [e34_1, e35_1]; exact h _ _
    · rw [e34_2]
      by_cases c0 : n ≥ -2147483648
      · rw [dt c0, cond_true, e35_2, dt c0, cond_true]; exact h _ _
      · rw [df c0, cond_false, e35_2, df c0, cond_false]; exact h _ _
    · rw [e34_4]
      by_cases c0 : n ≥ -2147483648
      · rw [dt c0, cond_true, e35_4, dt c0, cond_true]; exact h _ _
      · rw [df c0, cond_false, e35_4, df c0, cond_false]; exact h _ _
    · rw [e34_9]
      by_cases c0 : n ≥ -2147483648
      · rw [dt c0, cond_true, e35_9, dt c0, cond_true]; exact h _ _
      · rw [df c0, cond_false, e35_9, df c0, cond_false]; exact h _ _
    · rw [e34_10]
      by_cases c0 : n < 0
      · rw [dt c0, cond_true, e35_10, df (by omega : ¬ n ≥ 0), cond_false]; exact h _ _
      · rw [df c0, cond_false, e35_10, dt (by omega : n ≥ 0), cond_true]; exact h _ _
    · rw [e34_11]
      by_cases c0 : n ≥ -2147483648
      · rw [dt c0, cond_true, e35_11, dt c0, cond_true]; exact h _ _
      · rw [df c0, cond_false, e35_11, df c0, cond_false]; exact h _ _
    · rw [e34_21]
      by_cases c0 : n ≥ -2147483648
      · rw [dt c0, cond_true, e35_21, dt c0, cond_true]; exact h _ _
      · rw [df c0, cond_false, e35_21, df c0, cond_false]; exact h _ _
    · rw [e34_22]
      by_cases c0 : n ≥ -2147483648
      · rw [dt c0, cond_true, e35_22, dt c0, cond_true]; exact h _ _
      · rw [df c0, cond_false, e35_22, df c0, cond_false]; exact h _ _
    · rw [e34_23]
      by_cases c0 : n ≥ -2147483648
      · rw [dt c0, cond_true, e35_23, dt c0, cond_true]; exact h _ _
      · rw [df c0, cond_false, e35_23, df c0, cond_false]; exact h _ _
  · exact n34 hok (n35 hok (h _ _))
theorem value_same {t ps pad pp pg ptp : Int} {Q : Int → Int → Int → Int → Prop} (h : ∀ v e, Q v e v e) : G23 t ps pad pp pg ptp (fun n5 n6 => G28 ps pad pp pg ptp (G33 t ps pad pp pg ptp (fun n7 n8 => Q n5 n6 n7 n8))) := by
  by_cases hok : okT t
  · unfold okT at hok
    rcases hok with rfl | rfl | rfl | rfl | rfl | rfl | rfl | rfl | rfl
    · rw [e23_1]
      refine chk (fun hb => ?_) (fun hb => ?_)
      · show G33 1 ps pad pp pg ptp _
        rw [e33_1]; exact chk (fun _ => h _ _) (fun hb' => absurd hb hb')
      · show G33 1 ps pad pp pg ptp _
        rw [e33_1]; exact chk (fun hb' => absurd hb' hb) (fun _ => h _ _)
    · rw [e23_2]
      refine chk (fun hb => ?_) (fun hb => ?_)
      · show G33 2 ps pad pp pg ptp _
        rw [e33_2]; exact chk (fun _ => h _ _) (fun hb' => absurd hb hb')
      · show G33 2 ps pad pp pg ptp _
        rw [e33_2]; exact chk (fun hb' => absurd hb' hb) (fun _ => h _ _)
    · rw [e23_4]
      refine chk (fun hb => ?_) (fun hb => ?_)
      · show G33 4 ps pad pp pg ptp _
        rw [e33_4]; exact chk (fun _ => h _ _) (fun hb' => absurd hb hb')
      · show G33 4 ps pad pp pg ptp _
        rw [e33_4]; exact chk (fun hb' => absurd hb' hb) (fun _ => h _ _)
    · rw [e23_9]
      refine chk (fun hb => ?_) (fun hb => ?_)
      · show G33 9 ps pad pp pg ptp _
        rw [e33_9]; exact chk (fun _ => h _ _) (fun hb' => absurd hb hb')
      · show G33 9 ps pad pp pg ptp _
        rw [e33_9]; exact chk (fun hb' => absurd hb' hb) (fun _ => h _ _)
    · rw [e23_10]
      refine chk (fun hb => ?_) (fun hb => ?_)
      · show G33 10 ps pad pp pg ptp _
        rw [e33_10]; exact chk (fun _ => h _ _) (fun hb' => absurd hb hb')
      · show G33 10 ps pad pp pg ptp _
        rw [e33_10]; exact chk (fun hb' => absurd hb' hb) (fun _ => h _ _)
    · rw [e23_11]
      refine chk (fun hb => ?_) (fun hb => ?_)
      · show G33 11 ps pad pp pg ptp _
        rw [e33_11]; exact chk (fun _ => h _ _) (fun hb' => absurd hb hb')
      · show G33 11 ps pad pp pg ptp _
        rw [e33_11]; exact chk (fun hb' => absurd hb' hb) (fun _ => h _ _)
    · rw [e23_21]
      refine chk (fun hb => ?_) (fun hb => ?_)
      · show G33 21 ps pad pp pg ptp _
        rw [e33_21]; exact chk (fun _ => h _ _) (fun hb' => absurd hb hb')
      · show G33 21 ps pad pp pg ptp _
        rw [e33_21]; exact chk (fun hb' => absurd hb' hb) (fun _ => h _ _)
    · rw [e23_22]
      refine chk (fun hb => ?_) (fun hb => ?_)
      · show G33 22 ps pad pp pg ptp _
        rw [e33_22]; exact chk (fun _ => h _ _) (fun hb' => absurd hb hb')
      · show G33 22 ps pad pp pg ptp _
        rw [e33_22]; exact chk (fun hb' => absurd hb' hb) (fun _ => h _ _)
    · rw [e23_23]
      refine chk (fun hb => ?_) (fun hb => ?_)
      · show G33 23 ps pad pp pg ptp _
        rw [e33_23]; exact chk (fun _ => h _ _) (fun hb' => absurd hb hb')
      · show G33 23 ps pad pp pg ptp _
        rw [e33_23]; exact chk (fun hb' => absurd hb' hb) (fun _ => h _ _)
  · exact n23 hok (show G33 t ps pad pp pg ptp _ from n33 hok (h _ _))
theorem size_same {t : Int} {Q : Int → Int → Int → Int → Prop} (h : ∀ v e, Q v e v e) : G31 t (fun n1 n2 => G32 t (fun n3 n4 => Q n1 n2 n3 n4)) := by
  by_cases hok : okT t
  · unfold okT at hok
    rcases hok with rfl | rfl | rfl | rfl | rfl | rfl | rfl | rfl | rfl
    · rw [e31_1, e32_1]; exact h _ _
    · rw [e31_2, e32_2]; exact h _ _
    · rw [e31_4, e32_4]; exact h _ _
    · rw [e31_9, e32_9]; exact h _ _
    · rw [e31_10, e32_10]; exact h _ _
    · rw [e31_11, e32_11]; exact h _ _
    · rw [e31_21, e32_21]; exact h _ _
    · rw [e31_22, e32_22]; exact h _ _
    · rw [e31_23, e32_23]; exact h _ _
  · exact n31 hok (n32 hok (h _ _))
theorem g9 {t ps pad pp pg ptp n : Int} {k1 k2 : Prop} (h : k1) : G9 t ps pad pp pg ptp n k1 k2 := by
  unfold G9 F9
  exact size_same fun a e => value_same fun v ev => fits_same fun b eb => last h
end Go.Proofs.Ytnndiicpiolddaa.val
