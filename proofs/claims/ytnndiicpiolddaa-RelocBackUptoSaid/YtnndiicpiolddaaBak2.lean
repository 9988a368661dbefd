import Derived.Test.YtnndiicpiolddaaBak1
set_option linter.unusedVariables false
set_option linter.unusedSimpArgs false
namespace Go.Proofs.Ytnndiicpiolddaa.bak
open Go Go.Ab
theorem wid {x : Int} (h1 : -9223372036854775808 ≤ x) (h2 : x ≤ 9223372036854775807) : IntKind.wrap .i64 x = x := by
  simp [IntKind.wrap, IntKind.bits, IntKind.signed]; omega
theorem dt {p : Prop} [inst : Decidable p] (h : p) : decide p = true := decide_eq_true h
theorem df {p : Prop} [inst : Decidable p] (h : ¬ p) : decide p = false := decide_eq_false h
theorem g24 {a : Int} {k : Prop} (h : k) : G24 a k := h
theorem g25 {k : Prop} (h : k) : G25 k := h
theorem e54_0 (k1 k2 k3 k4 k5 k6 k7 : List Int → Prop) : G54 0 k1 k2 k3 k4 k5 k6 k7 = k1 ([(78 : Int), (79 : Int), (78 : Int), (69 : Int)] : List Int) := by kernel_rfl
theorem e54_1 (k1 k2 k3 k4 k5 k6 k7 : List Int → Prop) : G54 1 k1 k2 k3 k4 k5 k6 k7 = k7 ([(54 : Int), (52 : Int)] : List Int) := by kernel_rfl
theorem e54_2 (k1 k2 k3 k4 k5 k6 k7 : List Int → Prop) : G54 2 k1 k2 k3 k4 k5 k6 k7 = k6 ([(80 : Int), (67 : Int), (51 : Int), (50 : Int)] : List Int) := by kernel_rfl
theorem e54_3 (k1 k2 k3 k4 k5 k6 k7 : List Int → Prop) : G54 3 k1 k2 k3 k4 k5 k6 k7 = k1 ([] : List Int) := by kernel_rfl
theorem e54_4 (k1 k2 k3 k4 k5 k6 k7 : List Int → Prop) : G54 4 k1 k2 k3 k4 k5 k6 k7 = k6 ([(80 : Int), (76 : Int), (84 : Int), (51 : Int), (50 : Int)] : List Int) := by kernel_rfl
theorem e54_5 (k1 k2 k3 k4 k5 k6 k7 : List Int → Prop) : G54 5 k1 k2 k3 k4 k5 k6 k7 = k1 ([] : List Int) := by kernel_rfl
theorem e54_6 (k1 k2 k3 k4 k5 k6 k7 : List Int → Prop) : G54 6 k1 k2 k3 k4 k5 k6 k7 = k1 ([(71 : Int), (76 : Int), (79 : Int), (66 : Int), (95 : Int), (68 : Int), (65 : Int), (84 : Int)] : List Int) := by kernel_rfl
theorem e54_7 (k1 k2 k3 k4 k5 k6 k7 : List Int → Prop) : G54 7 k1 k2 k3 k4 k5 k6 k7 = k1 ([] : List Int) := by kernel_rfl
theorem e54_8 (k1 k2 k3 k4 k5 k6 k7 : List Int → Prop) : G54 8 k1 k2 k3 k4 k5 k6 k7 = k1 ([(82 : Int), (69 : Int), (76 : Int), (65 : Int), (84 : Int), (73 : Int), (86 : Int), (69 : Int)] : List Int) := by kernel_rfl
theorem e54_9 (k1 k2 k3 k4 k5 k6 k7 : List Int → Prop) : G54 9 k1 k2 k3 k4 k5 k6 k7 = k3 ([(71 : Int), (79 : Int), (84 : Int), (80 : Int), (67 : Int), (82 : Int), (69 : Int), (76 : Int)] : List Int) := by kernel_rfl
theorem e54_10 (k1 k2 k3 k4 k5 k6 k7 : List Int → Prop) : G54 10 k1 k2 k3 k4 k5 k6 k7 = k5 ([(51 : Int), (50 : Int)] : List Int) := by kernel_rfl
theorem e54_11 (k1 k2 k3 k4 k5 k6 k7 : List Int → Prop) : G54 11 k1 k2 k3 k4 k5 k6 k7 = k4 ([(51 : Int), (50 : Int), (83 : Int)] : List Int) := by kernel_rfl
theorem e54_12 (k1 k2 k3 k4 k5 k6 k7 : List Int → Prop) : G54 12 k1 k2 k3 k4 k5 k6 k7 = k1 ([] : List Int) := by kernel_rfl
theorem e54_13 (k1 k2 k3 k4 k5 k6 k7 : List Int → Prop) : G54 13 k1 k2 k3 k4 k5 k6 k7 = k1 ([] : List Int) := by kernel_rfl
theorem e54_14 (k1 k2 k3 k4 k5 k6 k7 : List Int → Prop) : G54 14 k1 k2 k3 k4 k5 k6 k7 = k1 ([] : List Int) := by kernel_rfl
theorem e54_15 (k1 k2 k3 k4 k5 k6 k7 : List Int → Prop) : G54 15 k1 k2 k3 k4 k5 k6 k7 = k1 ([] : List Int) := by kernel_rfl
theorem e54_16 (k1 k2 k3 k4 k5 k6 k7 : List Int → Prop) : G54 16 k1 k2 k3 k4 k5 k6 k7 = k1 ([] : List Int) := by kernel_rfl
theorem e54_17 (k1 k2 k3 k4 k5 k6 k7 : List Int → Prop) : G54 17 k1 k2 k3 k4 k5 k6 k7 = k1 ([] : List Int) := by kernel_rfl
theorem e54_18 (k1 k2 k3 k4 k5 k6 k7 : List Int → Prop) : G54 18 k1 k2 k3 k4 k5 k6 k7 = k1 ([] : List Int) := by kernel_rfl
theorem e54_19 (k1 k2 k3 k4 k5 k6 k7 : List Int → Prop) : G54 19 k1 k2 k3 k4 k5 k6 k7 = k1 ([(84 : Int), (76 : Int), (83 : Int), (71 : Int), (68 : Int)] : List Int) := by kernel_rfl
theorem e54_20 (k1 k2 k3 k4 k5 k6 k7 : List Int → Prop) : G54 20 k1 k2 k3 k4 k5 k6 k7 = k1 ([(84 : Int), (76 : Int), (83 : Int), (76 : Int), (68 : Int)] : List Int) := by kernel_rfl
theorem e54_21 (k1 k2 k3 k4 k5 k6 k7 : List Int → Prop) : G54 21 k1 k2 k3 k4 k5 k6 k7 = k2 ([(68 : Int), (84 : Int), (80 : Int), (79 : Int), (70 : Int), (70 : Int), (51 : Int), (50 : Int)] : List Int) := by kernel_rfl
theorem e54_22 (k1 k2 k3 k4 k5 k6 k7 : List Int → Prop) : G54 22 k1 k2 k3 k4 k5 k6 k7 = k3 ([(71 : Int), (79 : Int), (84 : Int), (84 : Int), (80 : Int), (79 : Int), (70 : Int), (70 : Int)] : List Int) := by kernel_rfl
theorem e54_23 (k1 k2 k3 k4 k5 k6 k7 : List Int → Prop) : G54 23 k1 k2 k3 k4 k5 k6 k7 = k2 ([(84 : Int), (80 : Int), (79 : Int), (70 : Int), (70 : Int), (51 : Int), (50 : Int)] : List Int) := by kernel_rfl
theorem e54_24 (k1 k2 k3 k4 k5 k6 k7 : List Int → Prop) : G54 24 k1 k2 k3 k4 k5 k6 k7 = k1 ([] : List Int) := by kernel_rfl
theorem e54_25 (k1 k2 k3 k4 k5 k6 k7 : List Int → Prop) : G54 25 k1 k2 k3 k4 k5 k6 k7 = k1 ([] : List Int) := by kernel_rfl
theorem e54_26 (k1 k2 k3 k4 k5 k6 k7 : List Int → Prop) : G54 26 k1 k2 k3 k4 k5 k6 k7 = k1 ([] : List Int) := by kernel_rfl
theorem e54_27 (k1 k2 k3 k4 k5 k6 k7 : List Int → Prop) : G54 27 k1 k2 k3 k4 k5 k6 k7 = k1 ([] : List Int) := by kernel_rfl
theorem e54_28 (k1 k2 k3 k4 k5 k6 k7 : List Int → Prop) : G54 28 k1 k2 k3 k4 k5 k6 k7 = k1 ([] : List Int) := by kernel_rfl
theorem e54_29 (k1 k2 k3 k4 k5 k6 k7 : List Int → Prop) : G54 29 k1 k2 k3 k4 k5 k6 k7 = k1 ([] : List Int) := by kernel_rfl
theorem e54_30 (k1 k2 k3 k4 k5 k6 k7 : List Int → Prop) : G54 30 k1 k2 k3 k4 k5 k6 k7 = k1 ([] : List Int) := by kernel_rfl
theorem e54_31 (k1 k2 k3 k4 k5 k6 k7 : List Int → Prop) : G54 31 k1 k2 k3 k4 k5 k6 k7 = k1 ([] : List Int) := by kernel_rfl
theorem e54_32 (k1 k2 k3 k4 k5 k6 k7 : List Int → Prop) : G54 32 k1 k2 k3 k4 k5 k6 k7 = k1 ([] : List Int) := by kernel_rfl
theorem e54_33 (k1 k2 k3 k4 k5 k6 k7 : List Int → Prop) : G54 33 k1 k2 k3 k4 k5 k6 k7 = k1 ([] : List Int) := by kernel_rfl
theorem e54_34 (k1 k2 k3 k4 k5 k6 k7 : List Int → Prop) : G54 34 k1 k2 k3 k4 k5 k6 k7 = k1 ([] : List Int) := by kernel_rfl
theorem e54_35 (k1 k2 k3 k4 k5 k6 k7 : List Int → Prop) : G54 35 k1 k2 k3 k4 k5 k6 k7 = k1 ([] : List Int) := by kernel_rfl
theorem e54_36 (k1 k2 k3 k4 k5 k6 k7 : List Int → Prop) : G54 36 k1 k2 k3 k4 k5 k6 k7 = k1 ([] : List Int) := by kernel_rfl
theorem e54_37 (k1 k2 k3 k4 k5 k6 k7 : List Int → Prop) : G54 37 k1 k2 k3 k4 k5 k6 k7 = k1 ([(73 : Int), (82 : Int), (69 : Int), (76 : Int), (65 : Int), (84 : Int), (73 : Int), (86 : Int), (69 : Int)] : List Int) := by kernel_rfl
theorem e54_38 (k1 k2 k3 k4 k5 k6 k7 : List Int → Prop) : G54 38 k1 k2 k3 k4 k5 k6 k7 = k1 ([] : List Int) := by kernel_rfl
theorem e54_39 (k1 k2 k3 k4 k5 k6 k7 : List Int → Prop) : G54 39 k1 k2 k3 k4 k5 k6 k7 = k1 ([] : List Int) := by kernel_rfl
theorem e54_40 (k1 k2 k3 k4 k5 k6 k7 : List Int → Prop) : G54 40 k1 k2 k3 k4 k5 k6 k7 = k1 ([] : List Int) := by kernel_rfl
theorem e54_41 (k1 k2 k3 k4 k5 k6 k7 : List Int → Prop) : G54 41 k1 k2 k3 k4 k5 k6 k7 = k1 ([] : List Int) := by kernel_rfl
theorem e54_42 (k1 k2 k3 k4 k5 k6 k7 : List Int → Prop) : G54 42 k1 k2 k3 k4 k5 k6 k7 = k1 ([] : List Int) := by kernel_rfl
theorem e54_43 (k1 k2 k3 k4 k5 k6 k7 : List Int → Prop) : G54 43 k1 k2 k3 k4 k5 k6 k7 = k1 ([] : List Int) := by kernel_rfl
theorem e54_44 (k1 k2 k3 k4 k5 k6 k7 : List Int → Prop) : G54 44 k1 k2 k3 k4 k5 k6 k7 = k1 ([] : List Int) := by kernel_rfl
theorem e54_45 (k1 k2 k3 k4 k5 k6 k7 : List Int → Prop) : G54 45 k1 k2 k3 k4 k5 k6 k7 = k1 ([] : List Int) := by kernel_rfl
theorem e54_46 (k1 k2 k3 k4 k5 k6 k7 : List Int → Prop) : G54 46 k1 k2 k3 k4 k5 k6 k7 = k1 ([] : List Int) := by kernel_rfl
theorem e54_47 (k1 k2 k3 k4 k5 k6 k7 : List Int → Prop) : G54 47 k1 k2 k3 k4 k5 k6 k7 = k1 ([] : List Int) := by kernel_rfl
theorem e54_48 (k1 k2 k3 k4 k5 k6 k7 : List Int → Prop) : G54 48 k1 k2 k3 k4 k5 k6 k7 = k1 ([] : List Int) := by kernel_rfl
theorem e54_49 (k1 k2 k3 k4 k5 k6 k7 : List Int → Prop) : G54 49 k1 k2 k3 k4 k5 k6 k7 = k1 ([] : List Int) := by kernel_rfl
theorem e54_50 (k1 k2 k3 k4 k5 k6 k7 : List Int → Prop) : G54 50 k1 k2 k3 k4 k5 k6 k7 = k1 ([] : List Int) := by kernel_rfl
theorem e54_51 (k1 k2 k3 k4 k5 k6 k7 : List Int → Prop) : G54 51 k1 k2 k3 k4 k5 k6 k7 = k1 ([] : List Int) := by kernel_rfl
theorem e54_52 (k1 k2 k3 k4 k5 k6 k7 : List Int → Prop) : G54 52 k1 k2 k3 k4 k5 k6 k7 = k1 ([] : List Int) := by kernel_rfl
theorem e54_53 (k1 k2 k3 k4 k5 k6 k7 : List Int → Prop) : G54 53 k1 k2 k3 k4 k5 k6 k7 = k1 ([] : List Int) := by kernel_rfl
theorem e54_54 (k1 k2 k3 k4 k5 k6 k7 : List Int → Prop) : G54 54 k1 k2 k3 k4 k5 k6 k7 = k1 ([] : List Int) := by kernel_rfl
theorem e54_55 (k1 k2 k3 k4 k5 k6 k7 : List Int → Prop) : G54 55 k1 k2 k3 k4 k5 k6 k7 = k1 ([] : List Int) := by kernel_rfl
theorem e54_56 (k1 k2 k3 k4 k5 k6 k7 : List Int → Prop) : G54 56 k1 k2 k3 k4 k5 k6 k7 = k1 ([] : List Int) := by kernel_rfl
theorem e54_57 (k1 k2 k3 k4 k5 k6 k7 : List Int → Prop) : G54 57 k1 k2 k3 k4 k5 k6 k7 = k1 ([] : List Int) := by kernel_rfl
theorem e54_58 (k1 k2 k3 k4 k5 k6 k7 : List Int → Prop) : G54 58 k1 k2 k3 k4 k5 k6 k7 = k1 ([] : List Int) := by kernel_rfl
theorem e54_59 (k1 k2 k3 k4 k5 k6 k7 : List Int → Prop) : G54 59 k1 k2 k3 k4 k5 k6 k7 = k1 ([] : List Int) := by kernel_rfl
theorem e54_60 (k1 k2 k3 k4 k5 k6 k7 : List Int → Prop) : G54 60 k1 k2 k3 k4 k5 k6 k7 = k1 ([] : List Int) := by kernel_rfl
theorem e54_61 (k1 k2 k3 k4 k5 k6 k7 : List Int → Prop) : G54 61 k1 k2 k3 k4 k5 k6 k7 = k1 ([] : List Int) := by kernel_rfl
theorem e54_62 (k1 k2 k3 k4 k5 k6 k7 : List Int → Prop) : G54 62 k1 k2 k3 k4 k5 k6 k7 = k1 ([] : List Int) := by kernel_rfl
theorem e54_63 (k1 k2 k3 k4 k5 k6 k7 : List Int → Prop) : G54 63 k1 k2 k3 k4 k5 k6 k7 = k1 ([] : List Int) := by kernel_rfl
def okT (t : Int) : Prop := t = 1 ∨ t = 2 ∨ t = 4 ∨ t = 9 ∨ t = 10 ∨ t = 11 ∨ t = 21 ∨ t = 22 ∨ t = 23
instance (t : Int) : Decidable (okT t) := by unfold okT; infer_instance
theorem g54_no {t : Int} (h : ¬ okT t) (k1 k2 k3 k4 k5 k6 k7 : List Int → Prop) (hk : ∀ nm, k1 nm) : G54 t k1 k2 k3 k4 k5 k6 k7 := by
  by_cases h0 : t < 0
  · unfold G54 F54; rw [dt h0]; exact hk _
  by_cases h1 : t ≥ 64
  · unfold G54 F54; rw [df h0, dt h1]; exact hk _
  unfold okT at h
  have : t = 0 ∨ t = 3 ∨ t = 5 ∨ t = 6 ∨ t = 7 ∨ t = 8 ∨ t = 12 ∨ t = 13 ∨ t = 14 ∨ t = 15 ∨ t = 16 ∨ t = 17 ∨ t = 18 ∨ t = 19 ∨ t = 20 ∨ t = 24 ∨ t = 25 ∨ t = 26 ∨ t = 27 ∨ t = 28 ∨ t = 29 ∨ t = 30 ∨ t = 31 ∨ t = 32 ∨ t = 33 ∨ t = 34 ∨ t = 35 ∨ t = 36 ∨ t = 37 ∨ t = 38 ∨ t = 39 ∨ t = 40 ∨ t = 41 ∨ t = 42 ∨ t = 43 ∨ t = 44 ∨ t = 45 ∨ t = 46 ∨ t = 47 ∨ t = 48 ∨ t = 49 ∨ t = 50 ∨ t = 51 ∨ t = 52 ∨ t = 53 ∨ t = 54 ∨ t = 55 ∨ t = 56 ∨ t = 57 ∨ t = 58 ∨ t = 59 ∨ t = 60 ∨ t = 61 ∨ t = 62 ∨ t = 63 := by omega
  rcases this with rfl | rfl | rfl | rfl | rfl | rfl | rfl | rfl | rfl | rfl | rfl | rfl | rfl | rfl | rfl | rfl | rfl | rfl | rfl | rfl | rfl | rfl | rfl | rfl | rfl | rfl | rfl | rfl | rfl | rfl | rfl | rfl | rfl | rfl | rfl | rfl | rfl | rfl | rfl | rfl | rfl | rfl | rfl | rfl | rfl | rfl | rfl | rfl | rfl | rfl | rfl | rfl | rfl | rfl | rfl
  · rw [e54_0]; exact hk _
  · rw [e54_3]; exact hk _
  · rw [e54_5]; exact hk _
  · rw [e54_6]; exact hk _
  · rw [e54_7]; exact hk _
  · rw [e54_8]; exact hk _
  · rw [e54_12]; exact hk _
  · rw [e54_13]; exact hk _
  · rw [e54_14]; exact hk _
  · rw [e54_15]; exact hk _
  · rw [e54_16]; exact hk _
  · rw [e54_17]; exact hk _
  · rw [e54_18]; exact hk _
  · rw [e54_19]; exact hk _
  · rw [e54_20]; exact hk _
  · rw [e54_24]; exact hk _
  · rw [e54_25]; exact hk _
  · rw [e54_26]; exact hk _
  · rw [e54_27]; exact hk _
  · rw [e54_28]; exact hk _
  · rw [e54_29]; exact hk _
  · rw [e54_30]; exact hk _
  · rw [e54_31]; exact hk _
  · rw [e54_32]; exact hk _
  · rw [e54_33]; exact hk _
  · rw [e54_34]; exact hk _
  · rw [e54_35]; exact hk _
  · rw [e54_36]; exact hk _
  · rw [e54_37]; exact hk _
  · rw [e54_38]; exact hk _
  · rw [e54_39]; exact hk _
  · rw [e54_40]; exact hk _
  · rw [e54_41]; exact hk _
  · rw [e54_42]; exact hk _
  · rw [e54_43]; exact hk _
  · rw [e54_44]; exact hk _
  · rw [e54_45]; exact hk _
  · rw [e54_46]; exact hk _
  · rw [e54_47]; exact hk _
  · rw [e54_48]; exact hk _
  · rw [e54_49]; exact hk _
  · rw [e54_50]; exact hk _
  · rw [e54_51]; exact hk _
  · rw [e54_52]; exact hk _
  · rw [e54_53]; exact hk _
  · rw [e54_54]; exact hk _
  · rw [e54_55]; exact hk _
  · rw [e54_56]; exact hk _
  · rw [e54_57]; exact hk _
  · rw [e54_58]; exact hk _
  · rw [e54_59]; exact hk _
  · rw [e54_60]; exact hk _
  · rw [e54_61]; exact hk _
  · rw [e54_62]; exact hk _
  · rw [e54_63]; exact hk _
def valT (t ps pad pp pg ptp : Int) : Int :=
  if t = 21 ∨ t = 23 then ps + pad - ptp else if t = 9 ∨ t = 22 then pg + pad - pp else if t = 2 ∨ t = 4 then ps + pad - pp else ps + pad
def bd (ps pad pp pg ptp : Int) : Prop := (-1152921504606846976 ≤ ps ∧ ps ≤ 1152921504606846976) ∧ (-1152921504606846976 ≤ pad ∧ pad ≤ 1152921504606846976) ∧ (-1152921504606846976 ≤ pp ∧ pp ≤ 1152921504606846976) ∧ (-1152921504606846976 ≤ pg ∧ pg ≤ 1152921504606846976) ∧ (-1152921504606846976 ≤ ptp ∧ ptp ≤ 1152921504606846976)
instance (ps pad pp pg ptp : Int) : Decidable (bd ps pad pp pg ptp) := by unfold bd; infer_instance
theorem chk {ps pad pp pg ptp : Int} {k2 r : Prop} (h1 : bd ps pad pp pg ptp → r) (h2 : ¬ bd ps pad pp pg ptp → k2) :
    (bif (decide (ps < (-1152921504606846976 : Int))) then (k2) else (bif (decide (ps > (1152921504606846976 : Int))) then (k2) else (bif (decide (pad < (-1152921504606846976 : Int))) then (k2) else (bif (decide (pad > (1152921504606846976 : Int))) then (k2) else (bif (decide (pp < (-1152921504606846976 : Int))) then (k2) else (bif (decide (pp > (1152921504606846976 : Int))) then (k2) else (bif (decide (pg < (-1152921504606846976 : Int))) then (k2) else (bif (decide (pg > (1152921504606846976 : Int))) then (k2) else (bif (decide (ptp < (-1152921504606846976 : Int))) then (k2) else (bif (decide (ptp > (1152921504606846976 : Int))) then (k2) else r)))))))))) := by
  unfold bd at h1 h2
  by_cases c : ps < -1152921504606846976
  · rw [dt c]; exact h2 (by omega)
  rw [df c, cond_false]
  have cpsl := c
  clear c
  by_cases c : ps > 1152921504606846976
  · rw [dt c]; exact h2 (by omega)
  rw [df c, cond_false]
  have cpsg := c
  clear c
  by_cases c : pad < -1152921504606846976
  · rw [dt c]; exact h2 (by omega)
  rw [df c, cond_false]
  have cpadl := c
  clear c
  by_cases c : pad > 1152921504606846976
  · rw [dt c]; exact h2 (by omega)
  rw [df c, cond_false]
  have cpadg := c
  clear c
  by_cases c : pp < -1152921504606846976
  · rw [dt c]; exact h2 (by omega)
  rw [df c, cond_false]
  have cppl := c
  clear c
  by_cases c : pp > 1152921504606846976
  · rw [dt c]; exact h2 (by omega)
  rw [df c, cond_false]
  have cppg := c
  clear c
  by_cases c : pg < -1152921504606846976
  · rw [dt c]; exact h2 (by omega)
  rw [df c, cond_false]
  have cpgl := c
  clear c
  by_cases c : pg > 1152921504606846976
  · rw [dt c]; exact h2 (by omega)
  rw [df c, cond_false]
  have cpgg := c
  clear c
  by_cases c : ptp < -1152921504606846976
  · rw [dt c]; exact h2 (by omega)
  rw [df c, cond_false]
  have cptpl := c
  clear c
  by_cases c : ptp > 1152921504606846976
  · rw [dt c]; exact h2 (by omega)
  rw [df c, cond_false]
  have cptpg := c
  clear c
  exact h1 (by omega)
theorem g23l {t ps pad pp pg ptp : Int} {k1 k2 : Prop} {k3 : Int → Prop} (h1 : ¬ okT t → k1) (h2 : ¬ bd ps pad pp pg ptp → k2) (h3 : okT t → bd ps pad pp pg ptp → k3 (valT t ps pad pp pg ptp)) : G23l t ps pad pp pg ptp k1 k2 k3 := by
  unfold G23l F23l
  by_cases hok : okT t
  · have h3 := h3 hok
    unfold okT at hok
    rcases hok with rfl | rfl | rfl | rfl | rfl | rfl | rfl | rfl | rfl
    · rw [e54_1]
      refine chk (fun hb => ?_) h2
      have h := h3 hb
      unfold bd at hb
      simp (disch := omega) only [wid]
      exact h
    · rw [e54_2]
      refine chk (fun hb => ?_) h2
      have h := h3 hb
      unfold bd at hb
      simp (disch := omega) only [wid]
      exact h
    · rw [e54_4]
      refine chk (fun hb => ?_) h2
      have h := h3 hb
      unfold bd at hb
      simp (disch := omega) only [wid]
      exact h
    · rw [e54_9]
      refine chk (fun hb => ?_) h2
      have h := h3 hb
      unfold bd at hb
      simp (disch := omega) only [wid]
      exact h
    · rw [e54_10]
      refine chk (fun hb => ?_) h2
      have h := h3 hb
      unfold bd at hb
      simp (disch := omega) only [wid]
      exact h
    · rw [e54_11]
      refine chk (fun hb => ?_) h2
      have h := h3 hb
      unfold bd at hb
      simp (disch := omega) only [wid]
      exact h
    · rw [e54_21]
      refine chk (fun hb => ?_) h2
      have h := h3 hb
      unfold bd at hb
      simp (disch := omega) only [wid]
      exact h
    · rw [e54_22]
      refine chk (fun hb => ?_) h2
      have h := h3 hb
      unfold bd at hb
      simp (disch := omega) only [wid]
      exact h
    · rw [e54_23]
      refine chk (fun hb => ?_) h2
      have h := h3 hb
      unfold bd at hb
      simp (disch := omega) only [wid]
      exact h
  · exact g54_no hok _ _ _ _ _ _ _ (fun _ => h1 hok)
theorem t_0 (q : Nat) : Int.toNat ((q : Int) + 0) = q := by omega
theorem t_1 (q : Nat) : Int.toNat ((q : Int) + 1) = q + 1 := by omega
theorem t_2 (q : Nat) : Int.toNat ((q : Int) + 2) = q + 2 := by omega
theorem t_3 (q : Nat) : Int.toNat ((q : Int) + 3) = q + 3 := by omega
theorem t_4 (q : Nat) : Int.toNat ((q : Int) + 4) = q + 4 := by omega
theorem t_5 (q : Nat) : Int.toNat ((q : Int) + 5) = q + 5 := by omega
theorem t_6 (q : Nat) : Int.toNat ((q : Int) + 6) = q + 6 := by omega
theorem t_7 (q : Nat) : Int.toNat ((q : Int) + 7) = q + 7 := by omega
theorem t_8 (q : Nat) : Int.toNat ((q : Int) + 8) = q + 8 := by omega
theorem n32a {t : Int} (h : ¬ okT t) {k1 k2 k3 : Prop} (hk : k3) : G32a t k1 k2 k3 := by
  have q1 : (t == (1 : Int)) = false := by unfold okT at h; simp; omega
  have q2 : (t == (2 : Int)) = false := by unfold okT at h; simp; omega
  have q4 : (t == (4 : Int)) = false := by unfold okT at h; simp; omega
  have q9 : (t == (9 : Int)) = false := by unfold okT at h; simp; omega
  have q10 : (t == (10 : Int)) = false := by unfold okT at h; simp; omega
  have q11 : (t == (11 : Int)) = false := by unfold okT at h; simp; omega
  have q21 : (t == (21 : Int)) = false := by unfold okT at h; simp; omega
  have q22 : (t == (22 : Int)) = false := by unfold okT at h; simp; omega
  have q23 : (t == (23 : Int)) = false := by unfold okT at h; simp; omega
  unfold G32a F32a
  simp only [q1, q2, q4, q9, q10, q11, q21, q22, q23, cond_false]
  exact hk
theorem e32a_1 (k1 k2 k3 : Prop) : G32a 1 k1 k2 k3 = k1 := by kernel_rfl
theorem e33l_1 (ps pad pp pg ptp : Int) (k1 : Prop) (k2 : Int → Prop) (k3 : Prop) : G33l 1 ps pad pp pg ptp k1 k2 k3 = (bif (decide (ps < (-1152921504606846976 : Int))) then k1 else (bif (decide (ps > (1152921504606846976 : Int))) then k1 else (bif (decide (pad < (-1152921504606846976 : Int))) then k1 else (bif (decide (pad > (1152921504606846976 : Int))) then k1 else (bif (decide (pp < (-1152921504606846976 : Int))) then k1 else (bif (decide (pp > (1152921504606846976 : Int))) then k1 else (bif (decide (pg < (-1152921504606846976 : Int))) then k1 else (bif (decide (pg > (1152921504606846976 : Int))) then k1 else (bif (decide (ptp < (-1152921504606846976 : Int))) then k1 else (bif (decide (ptp > (1152921504606846976 : Int))) then k1 else (k2 (IntKind.wrap .i64 (ps + pad))))))))))))) := by kernel_rfl
theorem e32a_2 (k1 k2 k3 : Prop) : G32a 2 k1 k2 k3 = k2 := by kernel_rfl
theorem e33l_2 (ps pad pp pg ptp : Int) (k1 : Prop) (k2 : Int → Prop) (k3 : Prop) : G33l 2 ps pad pp pg ptp k1 k2 k3 = (bif (decide (ps < (-1152921504606846976 : Int))) then k1 else (bif (decide (ps > (1152921504606846976 : Int))) then k1 else (bif (decide (pad < (-1152921504606846976 : Int))) then k1 else (bif (decide (pad > (1152921504606846976 : Int))) then k1 else (bif (decide (pp < (-1152921504606846976 : Int))) then k1 else (bif (decide (pp > (1152921504606846976 : Int))) then k1 else (bif (decide (pg < (-1152921504606846976 : Int))) then k1 else (bif (decide (pg > (1152921504606846976 : Int))) then k1 else (bif (decide (ptp < (-1152921504606846976 : Int))) then k1 else (bif (decide (ptp > (1152921504606846976 : Int))) then k1 else (k2 (IntKind.wrap .i64 ((IntKind.wrap .i64 (ps + pad)) - pp))))))))))))) := by kernel_rfl
theorem e32a_4 (k1 k2 k3 : Prop) : G32a 4 k1 k2 k3 = k2 := by kernel_rfl
theorem e33l_4 (ps pad pp pg ptp : Int) (k1 : Prop) (k2 : Int → Prop) (k3 : Prop) : G33l 4 ps pad pp pg ptp k1 k2 k3 = (bif (decide (ps < (-1152921504606846976 : Int))) then k1 else (bif (decide (ps > (1152921504606846976 : Int))) then k1 else (bif (decide (pad < (-1152921504606846976 : Int))) then k1 else (bif (decide (pad > (1152921504606846976 : Int))) then k1 else (bif (decide (pp < (-1152921504606846976 : Int))) then k1 else (bif (decide (pp > (1152921504606846976 : Int))) then k1 else (bif (decide (pg < (-1152921504606846976 : Int))) then k1 else (bif (decide (pg > (1152921504606846976 : Int))) then k1 else (bif (decide (ptp < (-1152921504606846976 : Int))) then k1 else (bif (decide (ptp > (1152921504606846976 : Int))) then k1 else (k2 (IntKind.wrap .i64 ((IntKind.wrap .i64 (ps + pad)) - pp))))))))))))) := by kernel_rfl
theorem e32a_9 (k1 k2 k3 : Prop) : G32a 9 k1 k2 k3 = k2 := by kernel_rfl
theorem e33l_9 (ps pad pp pg ptp : Int) (k1 : Prop) (k2 : Int → Prop) (k3 : Prop) : G33l 9 ps pad pp pg ptp k1 k2 k3 = (bif (decide (ps < (-1152921504606846976 : Int))) then k1 else (bif (decide (ps > (1152921504606846976 : Int))) then k1 else (bif (decide (pad < (-1152921504606846976 : Int))) then k1 else (bif (decide (pad > (1152921504606846976 : Int))) then k1 else (bif (decide (pp < (-1152921504606846976 : Int))) then k1 else (bif (decide (pp > (1152921504606846976 : Int))) then k1 else (bif (decide (pg < (-1152921504606846976 : Int))) then k1 else (bif (decide (pg > (1152921504606846976 : Int))) then k1 else (bif (decide (ptp < (-1152921504606846976 : Int))) then k1 else (bif (decide (ptp > (1152921504606846976 : Int))) then k1 else (k2 (IntKind.wrap .i64 ((IntKind.wrap .i64 (pg + pad)) - pp))))))))))))) := by kernel_rfl
theorem e32a_10 (k1 k2 k3 : Prop) : G32a 10 k1 k2 k3 = k2 := by kernel_rfl
theorem e33l_10 (ps pad pp pg ptp : Int) (k1 : Prop) (k2 : Int → Prop) (k3 : Prop) : G33l 10 ps pad pp pg ptp k1 k2 k3 = (bif (decide (ps < (-1152921504606846976 : Int))) then k1 else (bif (decide (ps > (1152921504606846976 : Int))) then k1 else (bif (decide (pad < (-1152921504606846976 : Int))) then k1 else (bif (decide (pad > (1152921504606846976 : Int))) then k1 else (bif (decide (pp < (-1152921504606846976 : Int))) then k1 else (bif (decide (pp > (1152921504606846976 : Int))) then k1 else (bif (decide (pg < (-1152921504606846976 : Int))) then k1 else (bif (decide (pg > (1152921504606846976 : Int))) then k1 else (bif (decide (ptp < (-1152921504606846976 : Int))) then k1 else (bif (decide (ptp > (1152921504606846976 : Int))) then k1 else (k2 (IntKind.wrap .i64 (ps + pad))))))))))))) := by kernel_rfl
theorem e32a_11 (k1 k2 k3 : Prop) : G32a 11 k1 k2 k3 = k2 := by kernel_rfl
theorem e33l_11 (ps pad pp pg ptp : Int) (k1 : Prop) (k2 : Int → Prop) (k3 : Prop) : G33l 11 ps pad pp pg ptp k1 k2 k3 = (bif (decide (ps < (-1152921504606846976 : Int))) then k1 else (bif (decide (ps > (1152921504606846976 : Int))) then k1 else (bif (decide (pad < (-1152921504606846976 : Int))) then k1 else (bif (decide (pad > (1152921504606846976 : Int))) then k1 else (bif (decide (pp < (-1152921504606846976 : Int))) then k1 else (bif (decide (pp > (1152921504606846976 : Int))) then k1 else (bif (decide (pg < (-1152921504606846976 : Int))) then k1 else (bif (decide (pg > (1152921504606846976 : Int))) then k1 else (bif (decide (ptp < (-1152921504606846976 : Int))) then k1 else (bif (decide (ptp > (1152921504606846976 : Int))) then k1 else (k2 (IntKind.wrap .i64 (ps + pad))))))))))))) := by kernel_rfl
theorem e32a_21 (k1 k2 k3 : Prop) : G32a 21 k1 k2 k3 = k2 := by kernel_rfl
theorem e33l_21 (ps pad pp pg ptp : Int) (k1 : Prop) (k2 : Int → Prop) (k3 : Prop) : G33l 21 ps pad pp pg ptp k1 k2 k3 = (bif (decide (ps < (-1152921504606846976 : Int))) then k1 else (bif (decide (ps > (1152921504606846976 : Int))) then k1 else (bif (decide (pad < (-1152921504606846976 : Int))) then k1 else (bif (decide (pad > (1152921504606846976 : Int))) then k1 else (bif (decide (pp < (-1152921504606846976 : Int))) then k1 else (bif (decide (pp > (1152921504606846976 : Int))) then k1 else (bif (decide (pg < (-1152921504606846976 : Int))) then k1 else (bif (decide (pg > (1152921504606846976 : Int))) then k1 else (bif (decide (ptp < (-1152921504606846976 : Int))) then k1 else (bif (decide (ptp > (1152921504606846976 : Int))) then k1 else (k2 (IntKind.wrap .i64 ((IntKind.wrap .i64 (ps + pad)) - ptp))))))))))))) := by kernel_rfl
theorem e32a_22 (k1 k2 k3 : Prop) : G32a 22 k1 k2 k3 = k2 := by kernel_rfl
theorem e33l_22 (ps pad pp pg ptp : Int) (k1 : Prop) (k2 : Int → Prop) (k3 : Prop) : G33l 22 ps pad pp pg ptp k1 k2 k3 = (bif (decide (ps < (-1152921504606846976 : Int))) then k1 else (bif (decide (ps > (1152921504606846976 : Int))) then k1 else (bif (decide (pad < (-1152921504606846976 : Int))) then k1 else (bif (decide (pad > (1152921504606846976 : Int))) then k1 else (bif (decide (pp < (-1152921504606846976 : Int))) then k1 else (bif (decide (pp > (1152921504606846976 : Int))) then k1 else (bif (decide (pg < (-1152921504606846976 : Int))) then k1 else (bif (decide (pg > (1152921504606846976 : Int))) then k1 else (bif (decide (ptp < (-1152921504606846976 : Int))) then k1 else (bif (decide (ptp > (1152921504606846976 : Int))) then k1 else (k2 (IntKind.wrap .i64 ((IntKind.wrap .i64 (pg + pad)) - pp))))))))))))) := by kernel_rfl
theorem e32a_23 (k1 k2 k3 : Prop) : G32a 23 k1 k2 k3 = k2 := by kernel_rfl
theorem e33l_23 (ps pad pp pg ptp : Int) (k1 : Prop) (k2 : Int → Prop) (k3 : Prop) : G33l 23 ps pad pp pg ptp k1 k2 k3 = (bif (decide (ps < (-1152921504606846976 : Int))) then k1 else (bif (decide (ps > (1152921504606846976 : Int))) then k1 else (bif (decide (pad < (-1152921504606846976 : Int))) then k1 else (bif (decide (pad > (1152921504606846976 : Int))) then k1 else (bif (decide (pp < (-1152921504606846976 : Int))) then k1 else (bif (decide (pp > (1152921504606846976 : Int))) then k1 else (bif (decide (pg < (-1152921504606846976 : Int))) then k1 else (bif (decide (pg > (1152921504606846976 : Int))) then k1 else (bif (decide (ptp < (-1152921504606846976 : Int))) then k1 else (bif (decide (ptp > (1152921504606846976 : Int))) then k1 else (k2 (IntKind.wrap .i64 ((IntKind.wrap .i64 (ps + pad)) - ptp))))))))))))) := by kernel_rfl
theorem g33l {t ps pad pp pg ptp : Int} {k1 k3 : Prop} {k2 : Int → Prop} (h1 : ¬ okT t → k3) (h2 : ¬ bd ps pad pp pg ptp → k1) (h3 : okT t → bd ps pad pp pg ptp → k2 (valT t ps pad pp pg ptp)) : G33l t ps pad pp pg ptp k1 k2 k3 := by
  by_cases hok : okT t
  · have h3 := h3 hok
    unfold okT at hok
    rcases hok with rfl | rfl | rfl | rfl | rfl | rfl | rfl | rfl | rfl
    · rw [e33l_1]
      refine chk (fun hb => ?_) h2
      have h := h3 hb
      unfold bd at hb
      simp (disch := omega) only [wid]
      exact h
    · rw [e33l_2]
      refine chk (fun hb => ?_) h2
      have h := h3 hb
      unfold bd at hb
      simp (disch := omega) only [wid]
      exact h
    · rw [e33l_4]
      refine chk (fun hb => ?_) h2
      have h := h3 hb
      unfold bd at hb
      simp (disch := omega) only [wid]
      exact h
    · rw [e33l_9]
      refine chk (fun hb => ?_) h2
      have h := h3 hb
      unfold bd at hb
      simp (disch := omega) only [wid]
      exact h
    · rw [e33l_10]
      refine chk (fun hb => ?_) h2
      have h := h3 hb
      unfold bd at hb
      simp (disch := omega) only [wid]
      exact h
    · rw [e33l_11]
      refine chk (fun hb => ?_) h2
      have h := h3 hb
      unfold bd at hb
      simp (disch := omega) only [wid]
      exact h
    · rw [e33l_21]
      refine chk (fun hb => ?_) h2
      have h := h3 hb
      unfold bd at hb
      simp (disch := omega) only [wid]
      exact h
    · rw [e33l_22]
      refine chk (fun hb => ?_) h2
      have h := h3 hb
      unfold bd at hb
      simp (disch := omega) only [wid]
      exact h
    · rw [e33l_23]
      refine chk (fun hb => ?_) h2
      have h := h3 hb
      unfold bd at hb
      simp (disch := omega) only [wid]
      exact h
  · unfold G33l F33l; exact n32a hok (h1 hok)
def fitb (t n : Int) : Bool := if t = 1 then true else if t = 10 then decide (0 ≤ n ∧ n < 4294967296) else decide (-2147483648 ≤ n ∧ n < 2147483648)
def sz (t : Int) : Nat := if t = 1 then 8 else 4
theorem e35_1 (n : Int) (k : Bool → Int → Prop) : G35 1 n k = k true 0 := by kernel_rfl
theorem e35_2 (n : Int) (k : Bool → Int → Prop) : G35 2 n k = (bif (decide (n ≥ -2147483648)) then (k (decide (n < 2147483648)) 0) else (k false 0)) := by kernel_rfl
theorem e35_4 (n : Int) (k : Bool → Int → Prop) : G35 4 n k = (bif (decide (n ≥ -2147483648)) then (k (decide (n < 2147483648)) 0) else (k false 0)) := by kernel_rfl
theorem e35_9 (n : Int) (k : Bool → Int → Prop) : G35 9 n k = (bif (decide (n ≥ -2147483648)) then (k (decide (n < 2147483648)) 0) else (k false 0)) := by kernel_rfl
theorem e35_10 (n : Int) (k : Bool → Int → Prop) : G35 10 n k = (bif (decide (n ≥ 0)) then (k (decide (n < 4294967296)) 0) else (k false 0)) := by kernel_rfl
theorem e35_11 (n : Int) (k : Bool → Int → Prop) : G35 11 n k = (bif (decide (n ≥ -2147483648)) then (k (decide (n < 2147483648)) 0) else (k false 0)) := by kernel_rfl
theorem e35_21 (n : Int) (k : Bool → Int → Prop) : G35 21 n k = (bif (decide (n ≥ -2147483648)) then (k (decide (n < 2147483648)) 0) else (k false 0)) := by kernel_rfl
theorem e35_22 (n : Int) (k : Bool → Int → Prop) : G35 22 n k = (bif (decide (n ≥ -2147483648)) then (k (decide (n < 2147483648)) 0) else (k false 0)) := by kernel_rfl
theorem e35_23 (n : Int) (k : Bool → Int → Prop) : G35 23 n k = (bif (decide (n ≥ -2147483648)) then (k (decide (n < 2147483648)) 0) else (k false 0)) := by kernel_rfl
theorem g35 {t n : Int} {k : Bool → Int → Prop} (hok : okT t) (h : k (fitb t n) 0) : G35 t n k := by
  unfold okT at hok
  rcases hok with rfl | rfl | rfl | rfl | rfl | rfl | rfl | rfl | rfl
  · rw [e35_1]; exact h
  · rw [e35_2]
    have e : fitb 2 n = decide (-2147483648 ≤ n ∧ n < 2147483648) := by simp [fitb]
    rw [e] at h
    by_cases c0 : n ≥ -2147483648
    · rw [dt c0, cond_true]
      have : decide (n < 2147483648) = decide (-2147483648 ≤ n ∧ n < 2147483648) := by by_cases c1 : n < 2147483648 <;> simp [c1]; omega
      rw [this]; exact h
    · rw [df c0, cond_false]
      rw [df (by omega)] at h; exact h
  · rw [e35_4]
    have e : fitb 4 n = decide (-2147483648 ≤ n ∧ n < 2147483648) := by simp [fitb]
    rw [e] at h
    by_cases c0 : n ≥ -2147483648
    · rw [dt c0, cond_true]
      have : decide (n < 2147483648) = decide (-2147483648 ≤ n ∧ n < 2147483648) := by by_cases c1 : n < 2147483648 <;> simp [c1]; omega
      rw [this]; exact h
    · rw [df c0, cond_false]
      rw [df (by omega)] at h; exact h
  · rw [e35_9]
    have e : fitb 9 n = decide (-2147483648 ≤ n ∧ n < 2147483648) := by simp [fitb]
    rw [e] at h
    by_cases c0 : n ≥ -2147483648
    · rw [dt c0, cond_true]
      have : decide (n < 2147483648) = decide (-2147483648 ≤ n ∧ n < 2147483648) := by by_cases c1 : n < 2147483648 <;> simp [c1]; omega
      rw [this]; exact h
    · rw [df c0, cond_false]
      rw [df (by omega)] at h; exact h
  · rw [e35_10]
    have e : fitb 10 n = decide (0 ≤ n ∧ n < 4294967296) := by simp [fitb]
    rw [e] at h
    by_cases c0 : n ≥ 0
    · rw [dt c0, cond_true]
      have : decide (n < 4294967296) = decide (0 ≤ n ∧ n < 4294967296) := by by_cases c1 : n < 4294967296 <;> simp [c1]; omega
      rw [this]; exact h
    · rw [df c0, cond_false]
      rw [df (by omega)] at h; exact h
  · rw [e35_11]
    have e : fitb 11 n = decide (-2147483648 ≤ n ∧ n < 2147483648) := by simp [fitb]
    rw [e] at h
    by_cases c0 : n ≥ -2147483648
    · rw [dt c0, cond_true]
      have : decide (n < 2147483648) = decide (-2147483648 ≤ n ∧ n < 2147483648) := by by_cases c1 : n < 2147483648 <;> simp [c1]; omega
      rw [this]; exact h
    · rw [df c0, cond_false]
      rw [df (by omega)] at h; exact h
  · rw [e35_21]
    have e : fitb 21 n = decide (-2147483648 ≤ n ∧ n < 2147483648) := by simp [fitb]
    rw [e] at h
    by_cases c0 : n ≥ -2147483648
    · rw [dt c0, cond_true]
      have : decide (n < 2147483648) = decide (-2147483648 ≤ n ∧ n < 2147483648) := by by_cases c1 : n < 2147483648 <;> simp [c1]; omega
      rw [this]; exact h
    · rw [df c0, cond_false]
      rw [df (by omega)] at h; exact h
  · rw [e35_22]
    have e : fitb 22 n = decide (-2147483648 ≤ n ∧ n < 2147483648) := by simp [fitb]
    rw [e] at h
    by_cases c0 : n ≥ -2147483648
    · rw [dt c0, cond_true]
      have : decide (n < 2147483648) = decide (-2147483648 ≤ n ∧ n < 2147483648) := by by_cases c1 : n < 2147483648 <;> simp [c1]; omega
      rw [this]; exact h
    · rw [df c0, cond_false]
      rw [df (by omega)] at h; exact h
  · rw [e35_23]
    have e : fitb 23 n = decide (-2147483648 ≤ n ∧ n < 2147483648) := by simp [fitb]
    rw [e] at h
    by_cases c0 : n ≥ -2147483648
    · rw [dt c0, cond_true]
      have : decide (n < 2147483648) = decide (-2147483648 ≤ n ∧ n < 2147483648) := by by_cases c1 : n < 2147483648 <;> simp [c1]; omega
      rw [this]; exact h
    · rw [df c0, cond_false]
      rw [df (by omega)] at h; exact h
end Go.Proofs.Ytnndiicpiolddaa.bak
