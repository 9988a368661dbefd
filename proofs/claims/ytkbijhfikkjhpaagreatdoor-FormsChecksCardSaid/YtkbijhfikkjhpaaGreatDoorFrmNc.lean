import Derived.Test.YtkbijhfikkjhpaaGreatDoorFrmNs
set_option linter.unusedVariables false
set_option linter.unusedSimpArgs false
set_option maxHeartbeats 4000000
set_option maxRecDepth 100000
namespace Go.Proofs.YtkbijhfikkjhpaaGreatDoor.frm
open Go Go.Ab
def F25_n (q : Nat) (sz : Int) (k1 : List Int → Prop) : Prop :=
  (k1 ([] : List Int))
theorem F25_n_ok (q : Nat) (sz : Int) (K : V → Mem → Prop) : cbody Tryz.prog C0 (fun _ => none) 1000 (fnOf Tryz.prog 25) [(.I .i64 (Int.negSucc (q + 1))), (.I .i64 sz)] [] K = F25_n q sz (fun u => K (.S u) []) := by kernel_rfl
def F25_m (sz : Int) (k1 : List Int → Prop) : Prop :=
  (k1 ([] : List Int))
theorem F25_m_ok (sz : Int) (K : V → Mem → Prop) : cbody Tryz.prog C0 (fun _ => none) 1000 (fnOf Tryz.prog 25) [(.I .i64 (-1 : Int)), (.I .i64 sz)] [] K = F25_m sz (fun u => K (.S u) []) := by kernel_rfl
def F25_b (q : Nat) (sz : Int) (k1 : List Int → Prop) : Prop :=
  (bif (decide ((Int.ofNat (q + 16)) < 0)) then (k1 ([] : List Int)) else (bif (decide ((Int.ofNat (q + 16)) > 15)) then (k1 ([] : List Int)) else (bif (decide ((Int.ofNat (q + 16)) ≥ 8)) then (bif (sz == 8) then False else (bif (sz == 4) then False else (bif (sz == 1) then False else (k1 ([] : List Int))))) else (bif ((decide (0 ≤ (Int.ofNat (q + 16)))) && (decide ((Int.ofNat (q + 16)) < 8))) then (bif (sz == 8) then (bif (decide (((1 : Nat) + (List.length (List.getD ([([97, 120] : List Int), ([99, 120] : List Int), ([100, 120] : List Int), ([98, 120] : List Int), ([115, 112] : List Int), ([98, 112] : List Int), ([115, 105] : List Int), ([100, 105] : List Int)] : List (List Int)) (Int.toNat (Int.ofNat (q + 16))) ([] : List Int)))) ≤ (4611686018427387904 : Nat))) then (k1 (([114] : List Int) ++ (List.getD ([([97, 120] : List Int), ([99, 120] : List Int), ([100, 120] : List Int), ([98, 120] : List Int), ([115, 112] : List Int), ([98, 112] : List Int), ([115, 105] : List Int), ([100, 105] : List Int)] : List (List Int)) (Int.toNat (Int.ofNat (q + 16))) ([] : List Int)))) else False) else (bif (sz == 4) then (bif (decide (((1 : Nat) + (List.length (List.getD ([([97, 120] : List Int), ([99, 120] : List Int), ([100, 120] : List Int), ([98, 120] : List Int), ([115, 112] : List Int), ([98, 112] : List Int), ([115, 105] : List Int), ([100, 105] : List Int)] : List (List Int)) (Int.toNat (Int.ofNat (q + 16))) ([] : List Int)))) ≤ (4611686018427387904 : Nat))) then (k1 (([101] : List Int) ++ (List.getD ([([97, 120] : List Int), ([99, 120] : List Int), ([100, 120] : List Int), ([98, 120] : List Int), ([115, 112] : List Int), ([98, 112] : List Int), ([115, 105] : List Int), ([100, 105] : List Int)] : List (List Int)) (Int.toNat (Int.ofNat (q + 16))) ([] : List Int)))) else False) else (bif (sz == 1) then (bif (decide ((Int.ofNat (q + 16)) < 4)) then (bif (decide ((1 : Nat) ≤ (List.length (List.getD ([([97, 120] : List Int), ([99, 120] : List Int), ([100, 120] : List Int), ([98, 120] : List Int), ([115, 112] : List Int), ([98, 112] : List Int), ([115, 105] : List Int), ([100, 105] : List Int)] : List (List Int)) (Int.toNat (Int.ofNat (q + 16))) ([] : List Int))))) then (bif (decide (((List.length (List.take (1 : Nat) (List.getD ([([97, 120] : List Int), ([99, 120] : List Int), ([100, 120] : List Int), ([98, 120] : List Int), ([115, 112] : List Int), ([98, 112] : List Int), ([115, 105] : List Int), ([100, 105] : List Int)] : List (List Int)) (Int.toNat (Int.ofNat (q + 16))) ([] : List Int)))) + (1 : Nat)) ≤ (4611686018427387904 : Nat))) then (k1 ((List.take (1 : Nat) (List.getD ([([97, 120] : List Int), ([99, 120] : List Int), ([100, 120] : List Int), ([98, 120] : List Int), ([115, 112] : List Int), ([98, 112] : List Int), ([115, 105] : List Int), ([100, 105] : List Int)] : List (List Int)) (Int.toNat (Int.ofNat (q + 16))) ([] : List Int))) ++ ([108] : List Int))) else False) else False) else (bif (sz == 1) then (bif (decide (((List.length (List.getD ([([97, 120] : List Int), ([99, 120] : List Int), ([100, 120] : List Int), ([98, 120] : List Int), ([115, 112] : List Int), ([98, 112] : List Int), ([115, 105] : List Int), ([100, 105] : List Int)] : List (List Int)) (Int.toNat (Int.ofNat (q + 16))) ([] : List Int))) + (1 : Nat)) ≤ (4611686018427387904 : Nat))) then (k1 ((List.getD ([([97, 120] : List Int), ([99, 120] : List Int), ([100, 120] : List Int), ([98, 120] : List Int), ([115, 112] : List Int), ([98, 112] : List Int), ([115, 105] : List Int), ([100, 105] : List Int)] : List (List Int)) (Int.toNat (Int.ofNat (q + 16))) ([] : List Int)) ++ ([108] : List Int))) else False) else (k1 ([] : List Int)))) else (bif (sz == 1) then (bif (decide (((List.length (List.getD ([([97, 120] : List Int), ([99, 120] : List Int), ([100, 120] : List Int), ([98, 120] : List Int), ([115, 112] : List Int), ([98, 112] : List Int), ([115, 105] : List Int), ([100, 105] : List Int)] : List (List Int)) (Int.toNat (Int.ofNat (q + 16))) ([] : List Int))) + (1 : Nat)) ≤ (4611686018427387904 : Nat))) then (k1 ((List.getD ([([97, 120] : List Int), ([99, 120] : List Int), ([100, 120] : List Int), ([98, 120] : List Int), ([115, 112] : List Int), ([98, 112] : List Int), ([115, 105] : List Int), ([100, 105] : List Int)] : List (List Int)) (Int.toNat (Int.ofNat (q + 16))) ([] : List Int)) ++ ([108] : List Int))) else False) else (k1 ([] : List Int)))))) else False))))
theorem F25_b_ok (q : Nat) (sz : Int) (K : V → Mem → Prop) : cbody Tryz.prog Cz (fun _ => none) 1000 (fnOf Tryz.prog 25) [(.I .i64 (Int.ofNat (q + 16))), (.I .i64 sz)] [] K = F25_b q sz (fun u => K (.S u) []) := by kernel_rfl
theorem h25_b (q : Nat) (sz : Int) (k1 : List Int → Prop) (h : k1 (regI (Int.ofNat (q + 16)) sz)) : F25_b q sz k1 := by
  rw [regI_out (by right; simp only [Int.ofNat_eq_natCast]; omega)] at h
  have e1 : decide (Int.ofNat (q + 16) > 15) = true := by simp only [Int.ofNat_eq_natCast, decide_eq_true_eq]; omega
  have e0 : decide (Int.ofNat (q + 16) < 0) = false := by simp only [Int.ofNat_eq_natCast, decide_eq_false_iff_not]; omega
  unfold F25_b
  rw [e0, cond_false, e1, cond_true]
  exact h
def F25_0 (sz : Int) (k1 : List Int → Prop) : Prop :=
  (bif (sz == 8) then (k1 ([114, 97, 120] : List Int)) else (bif (sz == 4) then (k1 ([101, 97, 120] : List Int)) else (bif (sz == 1) then (k1 ([97, 108] : List Int)) else (bif (sz == 1) then (k1 ([97, 120, 108] : List Int)) else (k1 ([] : List Int))))))
theorem F25_0_ok (sz : Int) (K : V → Mem → Prop) : cbody Tryz.prog C0 (fun _ => none) 1000 (fnOf Tryz.prog 25) [(.I .i64 (0 : Int)), (.I .i64 sz)] [] K = F25_0 sz (fun u => K (.S u) []) := by kernel_rfl
theorem h25_0 (sz : Int) (k1 : List Int → Prop) (h : k1 (regI 0 sz)) : F25_0 sz k1 := by
  have e : regI 0 sz = rgR [([97, 108], 1), ([101, 97, 120], 4), ([114, 97, 120], 8)] sz := rfl
  rw [e] at h
  clear e
  cases a1 : (sz == 1) <;> cases a4 : (sz == 4) <;> cases a8 : (sz == 8) <;> simp_all [-beq_eq_false_iff_ne, F25_0, rgR, bne]
def F25_1 (sz : Int) (k1 : List Int → Prop) : Prop :=
  (bif (sz == 8) then (k1 ([114, 99, 120] : List Int)) else (bif (sz == 4) then (k1 ([101, 99, 120] : List Int)) else (bif (sz == 1) then (k1 ([99, 108] : List Int)) else (bif (sz == 1) then (k1 ([99, 120, 108] : List Int)) else (k1 ([] : List Int))))))
theorem F25_1_ok (sz : Int) (K : V → Mem → Prop) : cbody Tryz.prog C0 (fun _ => none) 1000 (fnOf Tryz.prog 25) [(.I .i64 (1 : Int)), (.I .i64 sz)] [] K = F25_1 sz (fun u => K (.S u) []) := by kernel_rfl
theorem h25_1 (sz : Int) (k1 : List Int → Prop) (h : k1 (regI 1 sz)) : F25_1 sz k1 := by
  have e : regI 1 sz = rgR [([99, 108], 1), ([101, 99, 120], 4), ([114, 99, 120], 8)] sz := rfl
  rw [e] at h
  clear e
  cases a1 : (sz == 1) <;> cases a4 : (sz == 4) <;> cases a8 : (sz == 8) <;> simp_all [-beq_eq_false_iff_ne, F25_1, rgR, bne]
def F25_2 (sz : Int) (k1 : List Int → Prop) : Prop :=
  (bif (sz == 8) then (k1 ([114, 100, 120] : List Int)) else (bif (sz == 4) then (k1 ([101, 100, 120] : List Int)) else (bif (sz == 1) then (k1 ([100, 108] : List Int)) else (bif (sz == 1) then (k1 ([100, 120, 108] : List Int)) else (k1 ([] : List Int))))))
theorem F25_2_ok (sz : Int) (K : V → Mem → Prop) : cbody Tryz.prog C0 (fun _ => none) 1000 (fnOf Tryz.prog 25) [(.I .i64 (2 : Int)), (.I .i64 sz)] [] K = F25_2 sz (fun u => K (.S u) []) := by kernel_rfl
theorem h25_2 (sz : Int) (k1 : List Int → Prop) (h : k1 (regI 2 sz)) : F25_2 sz k1 := by
  have e : regI 2 sz = rgR [([100, 108], 1), ([101, 100, 120], 4), ([114, 100, 120], 8)] sz := rfl
  rw [e] at h
  clear e
  cases a1 : (sz == 1) <;> cases a4 : (sz == 4) <;> cases a8 : (sz == 8) <;> simp_all [-beq_eq_false_iff_ne, F25_2, rgR, bne]
def F25_3 (sz : Int) (k1 : List Int → Prop) : Prop :=
  (bif (sz == 8) then (k1 ([114, 98, 120] : List Int)) else (bif (sz == 4) then (k1 ([101, 98, 120] : List Int)) else (bif (sz == 1) then (k1 ([98, 108] : List Int)) else (bif (sz == 1) then (k1 ([98, 120, 108] : List Int)) else (k1 ([] : List Int))))))
theorem F25_3_ok (sz : Int) (K : V → Mem → Prop) : cbody Tryz.prog C0 (fun _ => none) 1000 (fnOf Tryz.prog 25) [(.I .i64 (3 : Int)), (.I .i64 sz)] [] K = F25_3 sz (fun u => K (.S u) []) := by kernel_rfl
theorem h25_3 (sz : Int) (k1 : List Int → Prop) (h : k1 (regI 3 sz)) : F25_3 sz k1 := by
  have e : regI 3 sz = rgR [([98, 108], 1), ([101, 98, 120], 4), ([114, 98, 120], 8)] sz := rfl
  rw [e] at h
  clear e
  cases a1 : (sz == 1) <;> cases a4 : (sz == 4) <;> cases a8 : (sz == 8) <;> simp_all [-beq_eq_false_iff_ne, F25_3, rgR, bne]
def F25_4 (sz : Int) (k1 : List Int → Prop) : Prop :=
  (bif (sz == 8) then (k1 ([114, 115, 112] : List Int)) else (bif (sz == 4) then (k1 ([101, 115, 112] : List Int)) else (bif (sz == 1) then (bif (sz == 1) then (k1 ([115, 112, 108] : List Int)) else (k1 ([] : List Int))) else (bif (sz == 1) then (k1 ([115, 112, 108] : List Int)) else (k1 ([] : List Int))))))
theorem F25_4_ok (sz : Int) (K : V → Mem → Prop) : cbody Tryz.prog C0 (fun _ => none) 1000 (fnOf Tryz.prog 25) [(.I .i64 (4 : Int)), (.I .i64 sz)] [] K = F25_4 sz (fun u => K (.S u) []) := by kernel_rfl
theorem h25_4 (sz : Int) (k1 : List Int → Prop) (h : k1 (regI 4 sz)) : F25_4 sz k1 := by
  have e : regI 4 sz = rgR [([115, 112, 108], 1), ([101, 115, 112], 4), ([114, 115, 112], 8)] sz := rfl
  rw [e] at h
  clear e
  cases a1 : (sz == 1) <;> cases a4 : (sz == 4) <;> cases a8 : (sz == 8) <;> simp_all [-beq_eq_false_iff_ne, F25_4, rgR, bne]
def F25_5 (sz : Int) (k1 : List Int → Prop) : Prop :=
  (bif (sz == 8) then (k1 ([114, 98, 112] : List Int)) else (bif (sz == 4) then (k1 ([101, 98, 112] : List Int)) else (bif (sz == 1) then (bif (sz == 1) then (k1 ([98, 112, 108] : List Int)) else (k1 ([] : List Int))) else (bif (sz == 1) then (k1 ([98, 112, 108] : List Int)) else (k1 ([] : List Int))))))
theorem F25_5_ok (sz : Int) (K : V → Mem → Prop) : cbody Tryz.prog C0 (fun _ => none) 1000 (fnOf Tryz.prog 25) [(.I .i64 (5 : Int)), (.I .i64 sz)] [] K = F25_5 sz (fun u => K (.S u) []) := by kernel_rfl
theorem h25_5 (sz : Int) (k1 : List Int → Prop) (h : k1 (regI 5 sz)) : F25_5 sz k1 := by
  have e : regI 5 sz = rgR [([98, 112, 108], 1), ([101, 98, 112], 4), ([114, 98, 112], 8)] sz := rfl
  rw [e] at h
  clear e
  cases a1 : (sz == 1) <;> cases a4 : (sz == 4) <;> cases a8 : (sz == 8) <;> simp_all [-beq_eq_false_iff_ne, F25_5, rgR, bne]
def F25_6 (sz : Int) (k1 : List Int → Prop) : Prop :=
  (bif (sz == 8) then (k1 ([114, 115, 105] : List Int)) else (bif (sz == 4) then (k1 ([101, 115, 105] : List Int)) else (bif (sz == 1) then (bif (sz == 1) then (k1 ([115, 105, 108] : List Int)) else (k1 ([] : List Int))) else (bif (sz == 1) then (k1 ([115, 105, 108] : List Int)) else (k1 ([] : List Int))))))
theorem F25_6_ok (sz : Int) (K : V → Mem → Prop) : cbody Tryz.prog C0 (fun _ => none) 1000 (fnOf Tryz.prog 25) [(.I .i64 (6 : Int)), (.I .i64 sz)] [] K = F25_6 sz (fun u => K (.S u) []) := by kernel_rfl
theorem h25_6 (sz : Int) (k1 : List Int → Prop) (h : k1 (regI 6 sz)) : F25_6 sz k1 := by
  have e : regI 6 sz = rgR [([115, 105, 108], 1), ([101, 115, 105], 4), ([114, 115, 105], 8)] sz := rfl
  rw [e] at h
  clear e
  cases a1 : (sz == 1) <;> cases a4 : (sz == 4) <;> cases a8 : (sz == 8) <;> simp_all [-beq_eq_false_iff_ne, F25_6, rgR, bne]
def F25_7 (sz : Int) (k1 : List Int → Prop) : Prop :=
  (bif (sz == 8) then (k1 ([114, 100, 105] : List Int)) else (bif (sz == 4) then (k1 ([101, 100, 105] : List Int)) else (bif (sz == 1) then (bif (sz == 1) then (k1 ([100, 105, 108] : List Int)) else (k1 ([] : List Int))) else (bif (sz == 1) then (k1 ([100, 105, 108] : List Int)) else (k1 ([] : List Int))))))
theorem F25_7_ok (sz : Int) (K : V → Mem → Prop) : cbody Tryz.prog C0 (fun _ => none) 1000 (fnOf Tryz.prog 25) [(.I .i64 (7 : Int)), (.I .i64 sz)] [] K = F25_7 sz (fun u => K (.S u) []) := by kernel_rfl
theorem h25_7 (sz : Int) (k1 : List Int → Prop) (h : k1 (regI 7 sz)) : F25_7 sz k1 := by
  have e : regI 7 sz = rgR [([100, 105, 108], 1), ([101, 100, 105], 4), ([114, 100, 105], 8)] sz := rfl
  rw [e] at h
  clear e
  cases a1 : (sz == 1) <;> cases a4 : (sz == 4) <;> cases a8 : (sz == 8) <;> simp_all [-beq_eq_false_iff_ne, F25_7, rgR, bne]
def F25_8 (sz : Int) (k1 : List Int → Prop) : Prop :=
  (bif (sz == 8) then (k1 ([114, 56] : List Int)) else (bif (sz == 4) then (k1 ([114, 56, 100] : List Int)) else (bif (sz == 1) then (k1 ([114, 56, 98] : List Int)) else (k1 ([] : List Int)))))
theorem F25_8_ok (sz : Int) (K : V → Mem → Prop) : cbody Tryz.prog C0 (fun _ => none) 1000 (fnOf Tryz.prog 25) [(.I .i64 (8 : Int)), (.I .i64 sz)] [] K = F25_8 sz (fun u => K (.S u) []) := by kernel_rfl
theorem h25_8 (sz : Int) (k1 : List Int → Prop) (h : k1 (regI 8 sz)) : F25_8 sz k1 := by
  have e : regI 8 sz = rgR [([114, 56, 98], 1), ([114, 56, 100], 4), ([114, 56], 8)] sz := rfl
  rw [e] at h
  clear e
  cases a1 : (sz == 1) <;> cases a4 : (sz == 4) <;> cases a8 : (sz == 8) <;> simp_all [-beq_eq_false_iff_ne, F25_8, rgR, bne]
def F25_9 (sz : Int) (k1 : List Int → Prop) : Prop :=
  (bif (sz == 8) then (k1 ([114, 57] : List Int)) else (bif (sz == 4) then (k1 ([114, 57, 100] : List Int)) else (bif (sz == 1) then (k1 ([114, 57, 98] : List Int)) else (k1 ([] : List Int)))))
theorem F25_9_ok (sz : Int) (K : V → Mem → Prop) : cbody Tryz.prog C0 (fun _ => none) 1000 (fnOf Tryz.prog 25) [(.I .i64 (9 : Int)), (.I .i64 sz)] [] K = F25_9 sz (fun u => K (.S u) []) := by kernel_rfl
theorem h25_9 (sz : Int) (k1 : List Int → Prop) (h : k1 (regI 9 sz)) : F25_9 sz k1 := by
  have e : regI 9 sz = rgR [([114, 57, 98], 1), ([114, 57, 100], 4), ([114, 57], 8)] sz := rfl
  rw [e] at h
  clear e
  cases a1 : (sz == 1) <;> cases a4 : (sz == 4) <;> cases a8 : (sz == 8) <;> simp_all [-beq_eq_false_iff_ne, F25_9, rgR, bne]
def F25_10 (sz : Int) (k1 : List Int → Prop) : Prop :=
  (bif (sz == 8) then (k1 ([114, 49, 48] : List Int)) else (bif (sz == 4) then (k1 ([114, 49, 48, 100] : List Int)) else (bif (sz == 1) then (k1 ([114, 49, 48, 98] : List Int)) else (k1 ([] : List Int)))))
theorem F25_10_ok (sz : Int) (K : V → Mem → Prop) : cbody Tryz.prog C0 (fun _ => none) 1000 (fnOf Tryz.prog 25) [(.I .i64 (10 : Int)), (.I .i64 sz)] [] K = F25_10 sz (fun u => K (.S u) []) := by kernel_rfl
theorem h25_10 (sz : Int) (k1 : List Int → Prop) (h : k1 (regI 10 sz)) : F25_10 sz k1 := by
  have e : regI 10 sz = rgR [([114, 49, 48, 98], 1), ([114, 49, 48, 100], 4), ([114, 49, 48], 8)] sz := rfl
  rw [e] at h
  clear e
  cases a1 : (sz == 1) <;> cases a4 : (sz == 4) <;> cases a8 : (sz == 8) <;> simp_all [-beq_eq_false_iff_ne, F25_10, rgR, bne]
def F25_11 (sz : Int) (k1 : List Int → Prop) : Prop :=
  (bif (sz == 8) then (k1 ([114, 49, 49] : List Int)) else (bif (sz == 4) then (k1 ([114, 49, 49, 100] : List Int)) else (bif (sz == 1) then (k1 ([114, 49, 49, 98] : List Int)) else (k1 ([] : List Int)))))
theorem F25_11_ok (sz : Int) (K : V → Mem → Prop) : cbody Tryz.prog C0 (fun _ => none) 1000 (fnOf Tryz.prog 25) [(.I .i64 (11 : Int)), (.I .i64 sz)] [] K = F25_11 sz (fun u => K (.S u) []) := by kernel_rfl
theorem h25_11 (sz : Int) (k1 : List Int → Prop) (h : k1 (regI 11 sz)) : F25_11 sz k1 := by
  have e : regI 11 sz = rgR [([114, 49, 49, 98], 1), ([114, 49, 49, 100], 4), ([114, 49, 49], 8)] sz := rfl
  rw [e] at h
  clear e
  cases a1 : (sz == 1) <;> cases a4 : (sz == 4) <;> cases a8 : (sz == 8) <;> simp_all [-beq_eq_false_iff_ne, F25_11, rgR, bne]
def F25_12 (sz : Int) (k1 : List Int → Prop) : Prop :=
  (bif (sz == 8) then (k1 ([114, 49, 50] : List Int)) else (bif (sz == 4) then (k1 ([114, 49, 50, 100] : List Int)) else (bif (sz == 1) then (k1 ([114, 49, 50, 98] : List Int)) else (k1 ([] : List Int)))))
theorem F25_12_ok (sz : Int) (K : V → Mem → Prop) : cbody Tryz.prog C0 (fun _ => none) 1000 (fnOf Tryz.prog 25) [(.I .i64 (12 : Int)), (.I .i64 sz)] [] K = F25_12 sz (fun u => K (.S u) []) := by kernel_rfl
theorem h25_12 (sz : Int) (k1 : List Int → Prop) (h : k1 (regI 12 sz)) : F25_12 sz k1 := by
  have e : regI 12 sz = rgR [([114, 49, 50, 98], 1), ([114, 49, 50, 100], 4), ([114, 49, 50], 8)] sz := rfl
  rw [e] at h
  clear e
  cases a1 : (sz == 1) <;> cases a4 : (sz == 4) <;> cases a8 : (sz == 8) <;> simp_all [-beq_eq_false_iff_ne, F25_12, rgR, bne]
def F25_13 (sz : Int) (k1 : List Int → Prop) : Prop :=
  (bif (sz == 8) then (k1 ([114, 49, 51] : List Int)) else (bif (sz == 4) then (k1 ([114, 49, 51, 100] : List Int)) else (bif (sz == 1) then (k1 ([114, 49, 51, 98] : List Int)) else (k1 ([] : List Int)))))
theorem F25_13_ok (sz : Int) (K : V → Mem → Prop) : cbody Tryz.prog C0 (fun _ => none) 1000 (fnOf Tryz.prog 25) [(.I .i64 (13 : Int)), (.I .i64 sz)] [] K = F25_13 sz (fun u => K (.S u) []) := by kernel_rfl
theorem h25_13 (sz : Int) (k1 : List Int → Prop) (h : k1 (regI 13 sz)) : F25_13 sz k1 := by
  have e : regI 13 sz = rgR [([114, 49, 51, 98], 1), ([114, 49, 51, 100], 4), ([114, 49, 51], 8)] sz := rfl
  rw [e] at h
  clear e
  cases a1 : (sz == 1) <;> cases a4 : (sz == 4) <;> cases a8 : (sz == 8) <;> simp_all [-beq_eq_false_iff_ne, F25_13, rgR, bne]
def F25_14 (sz : Int) (k1 : List Int → Prop) : Prop :=
  (bif (sz == 8) then (k1 ([114, 49, 52] : List Int)) else (bif (sz == 4) then (k1 ([114, 49, 52, 100] : List Int)) else (bif (sz == 1) then (k1 ([114, 49, 52, 98] : List Int)) else (k1 ([] : List Int)))))
theorem F25_14_ok (sz : Int) (K : V → Mem → Prop) : cbody Tryz.prog C0 (fun _ => none) 1000 (fnOf Tryz.prog 25) [(.I .i64 (14 : Int)), (.I .i64 sz)] [] K = F25_14 sz (fun u => K (.S u) []) := by kernel_rfl
theorem h25_14 (sz : Int) (k1 : List Int → Prop) (h : k1 (regI 14 sz)) : F25_14 sz k1 := by
  have e : regI 14 sz = rgR [([114, 49, 52, 98], 1), ([114, 49, 52, 100], 4), ([114, 49, 52], 8)] sz := rfl
  rw [e] at h
  clear e
  cases a1 : (sz == 1) <;> cases a4 : (sz == 4) <;> cases a8 : (sz == 8) <;> simp_all [-beq_eq_false_iff_ne, F25_14, rgR, bne]
def F25_15 (sz : Int) (k1 : List Int → Prop) : Prop :=
  (bif (sz == 8) then (k1 ([114, 49, 53] : List Int)) else (bif (sz == 4) then (k1 ([114, 49, 53, 100] : List Int)) else (bif (sz == 1) then (k1 ([114, 49, 53, 98] : List Int)) else (k1 ([] : List Int)))))
theorem F25_15_ok (sz : Int) (K : V → Mem → Prop) : cbody Tryz.prog C0 (fun _ => none) 1000 (fnOf Tryz.prog 25) [(.I .i64 (15 : Int)), (.I .i64 sz)] [] K = F25_15 sz (fun u => K (.S u) []) := by kernel_rfl
theorem h25_15 (sz : Int) (k1 : List Int → Prop) (h : k1 (regI 15 sz)) : F25_15 sz k1 := by
  have e : regI 15 sz = rgR [([114, 49, 53, 98], 1), ([114, 49, 53, 100], 4), ([114, 49, 53], 8)] sz := rfl
  rw [e] at h
  clear e
  cases a1 : (sz == 1) <;> cases a4 : (sz == 4) <;> cases a8 : (sz == 8) <;> simp_all [-beq_eq_false_iff_ne, F25_15, rgR, bne]
theorem H25 (r : Int) (sz : Int) {E : Wh} {w' : World} {cargs : Array Value} {K : V → Mem → Prop} (hS : Sim E [] w') (ha : VsRel E [.I .i64 r, .I .i64 sz] cargs.toList) (h : K (.S (regI r sz)) []) :
    ((∃ fn, Tryz.prog.funcs[25]? = some fn ∧ fn.body.isSome = true) ∧ Calls Tryz.prog 25 cargs w' (Ret K E [] w')) ∨ ∃ cv w1, (callFunc 25 cargs).run Tryz.prog w' = .ok (.value cv) w1 ∧ Ret K E [] w' (.returned cv) w1 := by
  by_cases h1 : r < -1
  · obtain ⟨q, rfl⟩ : ∃ q : Nat, r = Int.negSucc (q + 1) := ⟨(-r - 2).toNat, by omega⟩
    exact cbody_use named C0_ok at25 (l := 0) rfl (LoopsOk.none _ _) (F25_n_ok q sz K) hS ha (by rw [regI_out (by omega)] at h; exact h)
  by_cases h2 : r > 15
  · obtain ⟨q, rfl⟩ : ∃ q : Nat, r = Int.ofNat (q + 16) := ⟨(r - 16).toNat, by simp only [Int.ofNat_eq_natCast]; omega⟩
    exact cbody_use named Cz_ok at25 (l := 0) rfl (LoopsOk.none _ _) (F25_b_ok q sz K) hS ha (h25_b q sz (fun u => K (.S u) []) h)
  have ho : r = -1 ∨ r = 0 ∨ r = 1 ∨ r = 2 ∨ r = 3 ∨ r = 4 ∨ r = 5 ∨ r = 6 ∨ r = 7 ∨ r = 8 ∨ r = 9 ∨ r = 10 ∨ r = 11 ∨ r = 12 ∨ r = 13 ∨ r = 14 ∨ r = 15 := by omega
  rcases ho with rfl | rfl | rfl | rfl | rfl | rfl | rfl | rfl | rfl | rfl | rfl | rfl | rfl | rfl | rfl | rfl | rfl
  · exact cbody_use named C0_ok at25 (l := 0) rfl (LoopsOk.none _ _) (F25_m_ok sz K) hS ha (by rw [regI_out (by omega)] at h; exact h)
  · exact cbody_use named C0_ok at25 (l := 0) rfl (LoopsOk.none _ _) (F25_0_ok sz K) hS ha (h25_0 sz (fun u => K (.S u) []) h)
  · exact cbody_use named C0_ok at25 (l := 0) rfl (LoopsOk.none _ _) (F25_1_ok sz K) hS ha (h25_1 sz (fun u => K (.S u) []) h)
  · exact cbody_use named C0_ok at25 (l := 0) rfl (LoopsOk.none _ _) (F25_2_ok sz K) hS ha (h25_2 sz (fun u => K (.S u) []) h)
  · exact cbody_use named C0_ok at25 (l := 0) rfl (LoopsOk.none _ _) (F25_3_ok sz K) hS ha (h25_3 sz (fun u => K (.S u) []) h)
  · exact cbody_use named C0_ok at25 (l := 0) rfl (LoopsOk.none _ _) (F25_4_ok sz K) hS ha (h25_4 sz (fun u => K (.S u) []) h)
  · exact cbody_use named C0_ok at25 (l := 0) rfl (LoopsOk.none _ _) (F25_5_ok sz K) hS ha (h25_5 sz (fun u => K (.S u) []) h)
  · exact cbody_use named C0_ok at25 (l := 0) rfl (LoopsOk.none _ _) (F25_6_ok sz K) hS ha (h25_6 sz (fun u => K (.S u) []) h)
  · exact cbody_use named C0_ok at25 (l := 0) rfl (LoopsOk.none _ _) (F25_7_ok sz K) hS ha (h25_7 sz (fun u => K (.S u) []) h)
  · exact cbody_use named C0_ok at25 (l := 0) rfl (LoopsOk.none _ _) (F25_8_ok sz K) hS ha (h25_8 sz (fun u => K (.S u) []) h)
  · exact cbody_use named C0_ok at25 (l := 0) rfl (LoopsOk.none _ _) (F25_9_ok sz K) hS ha (h25_9 sz (fun u => K (.S u) []) h)
  · exact cbody_use named C0_ok at25 (l := 0) rfl (LoopsOk.none _ _) (F25_10_ok sz K) hS ha (h25_10 sz (fun u => K (.S u) []) h)
  · exact cbody_use named C0_ok at25 (l := 0) rfl (LoopsOk.none _ _) (F25_11_ok sz K) hS ha (h25_11 sz (fun u => K (.S u) []) h)
  · exact cbody_use named C0_ok at25 (l := 0) rfl (LoopsOk.none _ _) (F25_12_ok sz K) hS ha (h25_12 sz (fun u => K (.S u) []) h)
  · exact cbody_use named C0_ok at25 (l := 0) rfl (LoopsOk.none _ _) (F25_13_ok sz K) hS ha (h25_13 sz (fun u => K (.S u) []) h)
  · exact cbody_use named C0_ok at25 (l := 0) rfl (LoopsOk.none _ _) (F25_14_ok sz K) hS ha (h25_14 sz (fun u => K (.S u) []) h)
  · exact cbody_use named C0_ok at25 (l := 0) rfl (LoopsOk.none _ _) (F25_15_ok sz K) hS ha (h25_15 sz (fun u => K (.S u) []) h)

def P25 : Prim := fun args m K =>
  let F := False
  (seeCons args F fun a1 q2 => (seeI .i64 a1 F fun r => (seeCons q2 F fun a3 q4 => (seeI .i64 a3 F fun sz => (seeNil q4 F (seeNil m F (K (.S (regI r sz)) [])))))))
theorem P25_ok : PrimOk Tryz.prog 25 P25 := by
  intro args m K E w cargs hS ha h
  unfold P25 at h
  dsimp only at h
  replace h := seeCons_use h
  rcases h with h | ⟨a1, q2, rfl, h⟩
  · exact h.elim
  replace h := seeI_use h
  rcases h with h | ⟨r, rfl, h⟩
  · exact h.elim
  replace h := seeCons_use h
  rcases h with h | ⟨a3, q4, rfl, h⟩
  · exact h.elim
  replace h := seeI_use h
  rcases h with h | ⟨sz, rfl, h⟩
  · exact h.elim
  replace h := seeNil_use h
  rcases h with h | ⟨rfl, h⟩
  · exact h.elim
  replace h := seeNil_use h
  rcases h with h | ⟨rfl, h⟩
  · exact h.elim
  exact H25 r sz hS ha h
end Go.Proofs.YtkbijhfikkjhpaaGreatDoor.frm
