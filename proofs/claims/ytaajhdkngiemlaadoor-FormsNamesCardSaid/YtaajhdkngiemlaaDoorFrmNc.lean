import Derived.Test.YtaajhdkngiemlaaDoorFrmNs
set_option linter.unusedVariables false
set_option linter.unusedSimpArgs false
set_option maxHeartbeats 4000000
set_option maxRecDepth 100000
namespace Go.Proofs.YtaajhdkngiemlaaDoor.frm
open Go Go.Ab
def F20_n (q : Nat) (sz : Int) (k1 : List Int → Prop) : Prop :=
  (k1 ([] : List Int))
theorem F20_n_ok (q : Nat) (sz : Int) (K : V → Mem → Prop) : cbody Tryd.prog C0 (fun _ => none) 1000 (fnOf Tryd.prog 20) [(.I .i64 (Int.negSucc (q + 1))), (.I .i64 sz)] [] K = F20_n q sz (fun u => K (.S u) []) := by kernel_rfl
def F20_m (sz : Int) (k1 : List Int → Prop) : Prop :=
  (k1 ([] : List Int))
theorem F20_m_ok (sz : Int) (K : V → Mem → Prop) : cbody Tryd.prog C0 (fun _ => none) 1000 (fnOf Tryd.prog 20) [(.I .i64 (-1 : Int)), (.I .i64 sz)] [] K = F20_m sz (fun u => K (.S u) []) := by kernel_rfl
def F20_b (q : Nat) (sz : Int) (k1 : List Int → Prop) : Prop :=
  (bif (decide ((Int.ofNat (q + 16)) < 0)) then (k1 ([] : List Int)) else (bif (decide ((Int.ofNat (q + 16)) > 15)) then (k1 ([] : List Int)) else (bif (decide ((Int.ofNat (q + 16)) ≥ 8)) then (bif (sz == 8) then False else (bif (sz == 4) then False else (bif (sz == 1) then False else (k1 ([] : List Int))))) else (bif ((decide (0 ≤ (Int.ofNat (q + 16)))) && (decide ((Int.ofNat (q + 16)) < 8))) then (bif (sz == 8) then (bif (decide (((1 : Nat) + (List.length (List.getD ([([97, 120] : List Int), ([99, 120] : List Int), ([100, 120] : List Int), ([98, 120] : List Int), ([115, 112] : List Int), ([98, 112] : List Int), ([115, 105] : List Int), ([100, 105] : List Int)] : List (List Int)) (Int.toNat (Int.ofNat (q + 16))) ([] : List Int)))) ≤ (4611686018427387904 : Nat))) then (k1 (([114] : List Int) ++ (List.getD ([([97, 120] : List Int), ([99, 120] : List Int), ([100, 120] : List Int), ([98, 120] : List Int), ([115, 112] : List Int), ([98, 112] : List Int), ([115, 105] : List Int), ([100, 105] : List Int)] : List (List Int)) (Int.toNat (Int.ofNat (q + 16))) ([] : List Int)))) else False) else (bif (sz == 4) then (bif (decide (((1 : Nat) + (List.length (List.getD ([([97, 120] : List Int), ([99, 120] : List Int), ([100, 120] : List Int), ([98, 120] : List Int), ([115, 112] : List Int), ([98, 112] : List Int), ([115, 105] : List Int), ([100, 105] : List Int)] : List (List Int)) (Int.toNat (Int.ofNat (q + 16))) ([] : List Int)))) ≤ (4611686018427387904 : Nat))) then (k1 (([101] : List Int) ++ (List.getD ([([97, 120] : List Int), ([99, 120] : List Int), ([100, 120] : List Int), ([98, 120] : List Int), ([115, 112] : List Int), ([98, 112] : List Int), ([115, 105] : List Int), ([100, 105] : List Int)] : List (List Int)) (Int.toNat (Int.ofNat (q + 16))) ([] : List Int)))) else False) else (bif (sz == 1) then (bif (decide ((Int.ofNat (q + 16)) < 4)) then (bif (decide ((1 : Nat) ≤ (List.length (List.getD ([([97, 120] : List Int), ([99, 120] : List Int), ([100, 120] : List Int), ([98, 120] : List Int), ([115, 112] : List Int), ([98, 112] : List Int), ([115, 105] : List Int), ([100, 105] : List Int)] : List (List Int)) (Int.toNat (Int.ofNat (q + 16))) ([] : List Int))))) then (bif (decide (((List.length (List.take (1 : Nat) (List.getD ([([97, 120] : List Int), ([99, 120] : List Int), ([100, 120] : List Int), ([98, 120] : List Int), ([115, 112] : List Int), ([98, 112] : List Int), ([115, 105] : List Int), ([100, 105] : List Int)] : List (List Int)) (Int.toNat (Int.ofNat (q + 16))) ([] : List Int)))) + (1 : Nat)) ≤ (4611686018427387904 : Nat))) then (k1 ((List.take (1 : Nat) (List.getD ([([97, 120] : List Int), ([99, 120] : List Int), ([100, 120] : List Int), ([98, 120] : List Int), ([115, 112] : List Int), ([98, 112] : List Int), ([115, 105] : List Int), ([100, 105] : List Int)] : List (List Int)) (Int.toNat (Int.ofNat (q + 16))) ([] : List Int))) ++ ([108] : List Int))) else False) else False) else (bif (sz == 1) then (bif (decide (((List.length (List.getD ([([97, 120] : List Int), ([99, 120] : List Int), ([100, 120] : List Int), ([98, 120] : List Int), ([115, 112] : List Int), ([98, 112] : List Int), ([115, 105] : List Int), ([100, 105] : List Int)] : List (List Int)) (Int.toNat (Int.ofNat (q + 16))) ([] : List Int))) + (1 : Nat)) ≤ (4611686018427387904 : Nat))) then (k1 ((List.getD ([([97, 120] : List Int), ([99, 120] : List Int), ([100, 120] : List Int), ([98, 120] : List Int), ([115, 112] : List Int), ([98, 112] : List Int), ([115, 105] : List Int), ([100, 105] : List Int)] : List (List Int)) (Int.toNat (Int.ofNat (q + 16))) ([] : List Int)) ++ ([108] : List Int))) else False) else (k1 ([] : List Int)))) else (bif (sz == 1) then (bif (decide (((List.length (List.getD ([([97, 120] : List Int), ([99, 120] : List Int), ([100, 120] : List Int), ([98, 120] : List Int), ([115, 112] : List Int), ([98, 112] : List Int), ([115, 105] : List Int), ([100, 105] : List Int)] : List (List Int)) (Int.toNat (Int.ofNat (q + 16))) ([] : List Int))) + (1 : Nat)) ≤ (4611686018427387904 : Nat))) then (k1 ((List.getD ([([97, 120] : List Int), ([99, 120] : List Int), ([100, 120] : List Int), ([98, 120] : List Int), ([115, 112] : List Int), ([98, 112] : List Int), ([115, 105] : List Int), ([100, 105] : List Int)] : List (List Int)) (Int.toNat (Int.ofNat (q + 16))) ([] : List Int)) ++ ([108] : List Int))) else False) else (k1 ([] : List Int)))))) else False))))
theorem F20_b_ok (q : Nat) (sz : Int) (K : V → Mem → Prop) : cbody Tryd.prog Cz (fun _ => none) 1000 (fnOf Tryd.prog 20) [(.I .i64 (Int.ofNat (q + 16))), (.I .i64 sz)] [] K = F20_b q sz (fun u => K (.S u) []) := by kernel_rfl
theorem h20_b (q : Nat) (sz : Int) (k1 : List Int → Prop) (h : k1 (regI (Int.ofNat (q + 16)) sz)) : F20_b q sz k1 := by
  rw [regI_out (by right; simp only [Int.ofNat_eq_natCast]; omega)] at h
  have e1 : decide (Int.ofNat (q + 16) > 15) = true := by simp only [Int.ofNat_eq_natCast, decide_eq_true_eq]; omega
  have e0 : decide (Int.ofNat (q + 16) < 0) = false := by simp only [Int.ofNat_eq_natCast, decide_eq_false_iff_not]; omega
  unfold F20_b
  rw [e0, cond_false, e1, cond_true]
  exact h
def F20_0 (sz : Int) (k1 : List Int → Prop) : Prop :=
  (bif (sz == 8) then (k1 ([114, 97, 120] : List Int)) else (bif (sz == 4) then (k1 ([101, 97, 120] : List Int)) else (bif (sz == 1) then (k1 ([97, 108] : List Int)) else (bif (sz == 1) then (k1 ([97, 120, 108] : List Int)) else (k1 ([] : List Int))))))
theorem F20_0_ok (sz : Int) (K : V → Mem → Prop) : cbody Tryd.prog C0 (fun _ => none) 1000 (fnOf Tryd.prog 20) [(.I .i64 (0 : Int)), (.I .i64 sz)] [] K = F20_0 sz (fun u => K (.S u) []) := by kernel_rfl
theorem h20_0 (sz : Int) (k1 : List Int → Prop) (h : k1 (regI 0 sz)) : F20_0 sz k1 := by
  have e : regI 0 sz = rgR [([97, 108], 1), ([101, 97, 120], 4), ([114, 97, 120], 8)] sz := rfl
  rw [e] at h
  clear e
  cases a1 : (sz == 1) <;> cases a4 : (sz == 4) <;> cases a8 : (sz == 8) <;> simp_all [-beq_eq_false_iff_ne, F20_0, rgR, bne]
def F20_1 (sz : Int) (k1 : List Int → Prop) : Prop :=
  (bif (sz == 8) then (k1 ([114, 99, 120] : List Int)) else (bif (sz == 4) then (k1 ([101, 99, 120] : List Int)) else (bif (sz == 1) then (k1 ([99, 108] : List Int)) else (bif (sz == 1) then (k1 ([99, 120, 108] : List Int)) else (k1 ([] : List Int))))))
theorem F20_1_ok (sz : Int) (K : V → Mem → Prop) : cbody Tryd.prog C0 (fun _ => none) 1000 (fnOf Tryd.prog 20) [(.I .i64 (1 : Int)), (.I .i64 sz)] [] K = F20_1 sz (fun u => K (.S u) []) := by kernel_rfl
theorem h20_1 (sz : Int) (k1 : List Int → Prop) (h : k1 (regI 1 sz)) : F20_1 sz k1 := by
  have e : regI 1 sz = rgR [([99, 108], 1), ([101, 99, 120], 4), ([114, 99, 120], 8)] sz := rfl
  rw [e] at h
  clear e
  cases a1 : (sz == 1) <;> cases a4 : (sz == 4) <;> cases a8 : (sz == 8) <;> simp_all [-beq_eq_false_iff_ne, F20_1, rgR, bne]
def F20_2 (sz : Int) (k1 : List Int → Prop) : Prop :=
  (bif (sz == 8) then (k1 ([114, 100, 120] : List Int)) else (bif (sz == 4) then (k1 ([101, 100, 120] : List Int)) else (bif (sz == 1) then (k1 ([100, 108] : List Int)) else (bif (sz == 1) then (k1 ([100, 120, 108] : List Int)) else (k1 ([] : List Int))))))
theorem F20_2_ok (sz : Int) (K : V → Mem → Prop) : cbody Tryd.prog C0 (fun _ => none) 1000 (fnOf Tryd.prog 20) [(.I .i64 (2 : Int)), (.I .i64 sz)] [] K = F20_2 sz (fun u => K (.S u) []) := by kernel_rfl
theorem h20_2 (sz : Int) (k1 : List Int → Prop) (h : k1 (regI 2 sz)) : F20_2 sz k1 := by
  have e : regI 2 sz = rgR [([100, 108], 1), ([101, 100, 120], 4), ([114, 100, 120], 8)] sz := rfl
  rw [e] at h
  clear e
  cases a1 : (sz == 1) <;> cases a4 : (sz == 4) <;> cases a8 : (sz == 8) <;> simp_all [-beq_eq_false_iff_ne, F20_2, rgR, bne]
def F20_3 (sz : Int) (k1 : List Int → Prop) : Prop :=
  (bif (sz == 8) then (k1 ([114, 98, 120] : List Int)) else (bif (sz == 4) then (k1 ([101, 98, 120] : List Int)) else (bif (sz == 1) then (k1 ([98, 108] : List Int)) else (bif (sz == 1) then (k1 ([98, 120, 108] : List Int)) else (k1 ([] : List Int))))))
theorem F20_3_ok (sz : Int) (K : V → Mem → Prop) : cbody Tryd.prog C0 (fun _ => none) 1000 (fnOf Tryd.prog 20) [(.I .i64 (3 : Int)), (.I .i64 sz)] [] K = F20_3 sz (fun u => K (.S u) []) := by kernel_rfl
theorem h20_3 (sz : Int) (k1 : List Int → Prop) (h : k1 (regI 3 sz)) : F20_3 sz k1 := by
  have e : regI 3 sz = rgR [([98, 108], 1), ([101, 98, 120], 4), ([114, 98, 120], 8)] sz := rfl
  rw [e] at h
  clear e
  cases a1 : (sz == 1) <;> cases a4 : (sz == 4) <;> cases a8 : (sz == 8) <;> simp_all [-beq_eq_false_iff_ne, F20_3, rgR, bne]
def F20_4 (sz : Int) (k1 : List Int → Prop) : Prop :=
  (bif (sz == 8) then (k1 ([114, 115, 112] : List Int)) else (bif (sz == 4) then (k1 ([101, 115, 112] : List Int)) else (bif (sz == 1) then (bif (sz == 1) then (k1 ([115, 112, 108] : List Int)) else (k1 ([] : List Int))) else (bif (sz == 1) then (k1 ([115, 112, 108] : List Int)) else (k1 ([] : List Int))))))
theorem F20_4_ok (sz : Int) (K : V → Mem → Prop) : cbody Tryd.prog C0 (fun _ => none) 1000 (fnOf Tryd.prog 20) [(.I .i64 (4 : Int)), (.I .i64 sz)] [] K = F20_4 sz (fun u => K (.S u) []) := by kernel_rfl
theorem h20_4 (sz : Int) (k1 : List Int → Prop) (h : k1 (regI 4 sz)) : F20_4 sz k1 := by
  have e : regI 4 sz = rgR [([115, 112, 108], 1), ([101, 115, 112], 4), ([114, 115, 112], 8)] sz := rfl
  rw [e] at h
  clear e
  cases a1 : (sz == 1) <;> cases a4 : (sz == 4) <;> cases a8 : (sz == 8) <;> simp_all [-beq_eq_false_iff_ne, F20_4, rgR, bne]
def F20_5 (sz : Int) (k1 : List Int → Prop) : Prop :=
  (bif (sz == 8) then (k1 ([114, 98, 112] : List Int)) else (bif (sz == 4) then (k1 ([101, 98, 112] : List Int)) else (bif (sz == 1) then (bif (sz == 1) then (k1 ([98, 112, 108] : List Int)) else (k1 ([] : List Int))) else (bif (sz == 1) then (k1 ([98, 112, 108] : List Int)) else (k1 ([] : List Int))))))
theorem F20_5_ok (sz : Int) (K : V → Mem → Prop) : cbody Tryd.prog C0 (fun _ => none) 1000 (fnOf Tryd.prog 20) [(.I .i64 (5 : Int)), (.I .i64 sz)] [] K = F20_5 sz (fun u => K (.S u) []) := by kernel_rfl
theorem h20_5 (sz : Int) (k1 : List Int → Prop) (h : k1 (regI 5 sz)) : F20_5 sz k1 := by
  have e : regI 5 sz = rgR [([98, 112, 108], 1), ([101, 98, 112], 4), ([114, 98, 112], 8)] sz := rfl
  rw [e] at h
  clear e
  cases a1 : (sz == 1) <;> cases a4 : (sz == 4) <;> cases a8 : (sz == 8) <;> simp_all [-beq_eq_false_iff_ne, F20_5, rgR, bne]
def F20_6 (sz : Int) (k1 : List Int → Prop) : Prop :=
  (bif (sz == 8) then (k1 ([114, 115, 105] : List Int)) else (bif (sz == 4) then (k1 ([101, 115, 105] : List Int)) else (bif (sz == 1) then (bif (sz == 1) then (k1 ([115, 105, 108] : List Int)) else (k1 ([] : List Int))) else (bif (sz == 1) then (k1 ([115, 105, 108] : List Int)) else (k1 ([] : List Int))))))
theorem F20_6_ok (sz : Int) (K : V → Mem → Prop) : cbody Tryd.prog C0 (fun _ => none) 1000 (fnOf Tryd.prog 20) [(.I .i64 (6 : Int)), (.I .i64 sz)] [] K = F20_6 sz (fun u => K (.S u) []) := by kernel_rfl
theorem h20_6 (sz : Int) (k1 : List Int → Prop) (h : k1 (regI 6 sz)) : F20_6 sz k1 := by
  have e : regI 6 sz = rgR [([115, 105, 108], 1), ([101, 115, 105], 4), ([114, 115, 105], 8)] sz := rfl
  rw [e] at h
  clear e
  cases a1 : (sz == 1) <;> cases a4 : (sz == 4) <;> cases a8 : (sz == 8) <;> simp_all [-beq_eq_false_iff_ne, F20_6, rgR, bne]
def F20_7 (sz : Int) (k1 : List Int → Prop) : Prop :=
  (bif (sz == 8) then (k1 ([114, 100, 105] : List Int)) else (bif (sz == 4) then (k1 ([101, 100, 105] : List Int)) else (bif (sz == 1) then (bif (sz == 1) then (k1 ([100, 105, 108] : List Int)) else (k1 ([] : List Int))) else (bif (sz == 1) then (k1 ([100, 105, 108] : List Int)) else (k1 ([] : List Int))))))
theorem F20_7_ok (sz : Int) (K : V → Mem → Prop) : cbody Tryd.prog C0 (fun _ => none) 1000 (fnOf Tryd.prog 20) [(.I .i64 (7 : Int)), (.I .i64 sz)] [] K = F20_7 sz (fun u => K (.S u) []) := by kernel_rfl
theorem h20_7 (sz : Int) (k1 : List Int → Prop) (h : k1 (regI 7 sz)) : F20_7 sz k1 := by
  have e : regI 7 sz = rgR [([100, 105, 108], 1), ([101, 100, 105], 4), ([114, 100, 105], 8)] sz := rfl
  rw [e] at h
  clear e
  cases a1 : (sz == 1) <;> cases a4 : (sz == 4) <;> cases a8 : (sz == 8) <;> simp_all [-beq_eq_false_iff_ne, F20_7, rgR, bne]
def F20_8 (sz : Int) (k1 : List Int → Prop) : Prop :=
  (bif (sz == 8) then (k1 ([114, 56] : List Int)) else (bif (sz == 4) then (k1 ([114, 56, 100] : List Int)) else (bif (sz == 1) then (k1 ([114, 56, 98] : List Int)) else (k1 ([] : List Int)))))
theorem F20_8_ok (sz : Int) (K : V → Mem → Prop) : cbody Tryd.prog C0 (fun _ => none) 1000 (fnOf Tryd.prog 20) [(.I .i64 (8 : Int)), (.I .i64 sz)] [] K = F20_8 sz (fun u => K (.S u) []) := by kernel_rfl
theorem h20_8 (sz : Int) (k1 : List Int → Prop) (h : k1 (regI 8 sz)) : F20_8 sz k1 := by
  have e : regI 8 sz = rgR [([114, 56, 98], 1), ([114, 56, 100], 4), ([114, 56], 8)] sz := rfl
  rw [e] at h
  clear e
  cases a1 : (sz == 1) <;> cases a4 : (sz == 4) <;> cases a8 : (sz == 8) <;> simp_all [-beq_eq_false_iff_ne, F20_8, rgR, bne]
def F20_9 (sz : Int) (k1 : List Int → Prop) : Prop :=
  (bif (sz == 8) then (k1 ([114, 57] : List Int)) else (bif (sz == 4) then (k1 ([114, 57, 100] : List Int)) else (bif (sz == 1) then (k1 ([114, 57, 98] : List Int)) else (k1 ([] : List Int)))))
theorem F20_9_ok (sz : Int) (K : V → Mem → Prop) : cbody Tryd.prog C0 (fun _ => none) 1000 (fnOf Tryd.prog 20) [(.I .i64 (9 : Int)), (.I .i64 sz)] [] K = F20_9 sz (fun u => K (.S u) []) := by kernel_rfl
theorem h20_9 (sz : Int) (k1 : List Int → Prop) (h : k1 (regI 9 sz)) : F20_9 sz k1 := by
  have e : regI 9 sz = rgR [([114, 57, 98], 1), ([114, 57, 100], 4), ([114, 57], 8)] sz := rfl
  rw [e] at h
  clear e
  cases a1 : (sz == 1) <;> cases a4 : (sz == 4) <;> cases a8 : (sz == 8) <;> simp_all [-beq_eq_false_iff_ne, F20_9, rgR, bne]
def F20_10 (sz : Int) (k1 : List Int → Prop) : Prop :=
  (bif (sz == 8) then (k1 ([114, 49, 48] : List Int)) else (bif (sz == 4) then (k1 ([114, 49, 48, 100] : List Int)) else (bif (sz == 1) then (k1 ([114, 49, 48, 98] : List Int)) else (k1 ([] : List Int)))))
theorem F20_10_ok (sz : Int) (K : V → Mem → Prop) : cbody Tryd.prog C0 (fun _ => none) 1000 (fnOf Tryd.prog 20) [(.I .i64 (10 : Int)), (.I .i64 sz)] [] K = F20_10 sz (fun u => K (.S u) []) := by kernel_rfl
theorem h20_10 (sz : Int) (k1 : List Int → Prop) (h : k1 (regI 10 sz)) : F20_10 sz k1 := by
  have e : regI 10 sz = rgR [([114, 49, 48, 98], 1), ([114, 49, 48, 100], 4), ([114, 49, 48], 8)] sz := rfl
  rw [e] at h
  clear e
  cases a1 : (sz == 1) <;> cases a4 : (sz == 4) <;> cases a8 : (sz == 8) <;> simp_all [-beq_eq_false_iff_ne, F20_10, rgR, bne]
def F20_11 (sz : Int) (k1 : List Int → Prop) : Prop :=
  (bif (sz == 8) then (k1 ([114, 49, 49] : List Int)) else (bif (sz == 4) then (k1 ([114, 49, 49, 100] : List Int)) else (bif (sz == 1) then (k1 ([114, 49, 49, 98] : List Int)) else (k1 ([] : List Int)))))
theorem F20_11_ok (sz : Int) (K : V → Mem → Prop) : cbody Tryd.prog C0 (fun _ => none) 1000 (fnOf Tryd.prog 20) [(.I .i64 (11 : Int)), (.I .i64 sz)] [] K = F20_11 sz (fun u => K (.S u) []) := by kernel_rfl
theorem h20_11 (sz : Int) (k1 : List Int → Prop) (h : k1 (regI 11 sz)) : F20_11 sz k1 := by
  have e : regI 11 sz = rgR [([114, 49, 49, 98], 1), ([114, 49, 49, 100], 4), ([114, 49, 49], 8)] sz := rfl
  rw [e] at h
  clear e
  cases a1 : (sz == 1) <;> cases a4 : (sz == 4) <;> cases a8 : (sz == 8) <;> simp_all [-beq_eq_false_iff_ne, F20_11, rgR, bne]
def F20_12 (sz : Int) (k1 : List Int → Prop) : Prop :=
  (bif (sz == 8) then (k1 ([114, 49, 50] : List Int)) else (bif (sz == 4) then (k1 ([114, 49, 50, 100] : List Int)) else (bif (sz == 1) then (k1 ([114, 49, 50, 98] : List Int)) else (k1 ([] : List Int)))))
theorem F20_12_ok (sz : Int) (K : V → Mem → Prop) : cbody Tryd.prog C0 (fun _ => none) 1000 (fnOf Tryd.prog 20) [(.I .i64 (12 : Int)), (.I .i64 sz)] [] K = F20_12 sz (fun u => K (.S u) []) := by kernel_rfl
theorem h20_12 (sz : Int) (k1 : List Int → Prop) (h : k1 (regI 12 sz)) : F20_12 sz k1 := by
  have e : regI 12 sz = rgR [([114, 49, 50, 98], 1), ([114, 49, 50, 100], 4), ([114, 49, 50], 8)] sz := rfl
  rw [e] at h
  clear e
  cases a1 : (sz == 1) <;> cases a4 : (sz == 4) <;> cases a8 : (sz == 8) <;> simp_all [-beq_eq_false_iff_ne, F20_12, rgR, bne]
def F20_13 (sz : Int) (k1 : List Int → Prop) : Prop :=
  (bif (sz == 8) then (k1 ([114, 49, 51] : List Int)) else (bif (sz == 4) then (k1 ([114, 49, 51, 100] : List Int)) else (bif (sz == 1) then (k1 ([114, 49, 51, 98] : List Int)) else (k1 ([] : List Int)))))
theorem F20_13_ok (sz : Int) (K : V → Mem → Prop) : cbody Tryd.prog C0 (fun _ => none) 1000 (fnOf Tryd.prog 20) [(.I .i64 (13 : Int)), (.I .i64 sz)] [] K = F20_13 sz (fun u => K (.S u) []) := by kernel_rfl
theorem h20_13 (sz : Int) (k1 : List Int → Prop) (h : k1 (regI 13 sz)) : F20_13 sz k1 := by
  have e : regI 13 sz = rgR [([114, 49, 51, 98], 1), ([114, 49, 51, 100], 4), ([114, 49, 51], 8)] sz := rfl
  rw [e] at h
  clear e
  cases a1 : (sz == 1) <;> cases a4 : (sz == 4) <;> cases a8 : (sz == 8) <;> simp_all [-beq_eq_false_iff_ne, F20_13, rgR, bne]
def F20_14 (sz : Int) (k1 : List Int → Prop) : Prop :=
  (bif (sz == 8) then (k1 ([114, 49, 52] : List Int)) else (bif (sz == 4) then (k1 ([114, 49, 52, 100] : List Int)) else (bif (sz == 1) then (k1 ([114, 49, 52, 98] : List Int)) else (k1 ([] : List Int)))))
theorem F20_14_ok (sz : Int) (K : V → Mem → Prop) : cbody Tryd.prog C0 (fun _ => none) 1000 (fnOf Tryd.prog 20) [(.I .i64 (14 : Int)), (.I .i64 sz)] [] K = F20_14 sz (fun u => K (.S u) []) := by kernel_rfl
theorem h20_14 (sz : Int) (k1 : List Int → Prop) (h : k1 (regI 14 sz)) : F20_14 sz k1 := by
  have e : regI 14 sz = rgR [([114, 49, 52, 98], 1), ([114, 49, 52, 100], 4), ([114, 49, 52], 8)] sz := rfl
  rw [e] at h
  clear e
  cases a1 : (sz == 1) <;> cases a4 : (sz == 4) <;> cases a8 : (sz == 8) <;> simp_all [-beq_eq_false_iff_ne, F20_14, rgR, bne]
def F20_15 (sz : Int) (k1 : List Int → Prop) : Prop :=
  (bif (sz == 8) then (k1 ([114, 49, 53] : List Int)) else (bif (sz == 4) then (k1 ([114, 49, 53, 100] : List Int)) else (bif (sz == 1) then (k1 ([114, 49, 53, 98] : List Int)) else (k1 ([] : List Int)))))
theorem F20_15_ok (sz : Int) (K : V → Mem → Prop) : cbody Tryd.prog C0 (fun _ => none) 1000 (fnOf Tryd.prog 20) [(.I .i64 (15 : Int)), (.I .i64 sz)] [] K = F20_15 sz (fun u => K (.S u) []) := by kernel_rfl
theorem h20_15 (sz : Int) (k1 : List Int → Prop) (h : k1 (regI 15 sz)) : F20_15 sz k1 := by
  have e : regI 15 sz = rgR [([114, 49, 53, 98], 1), ([114, 49, 53, 100], 4), ([114, 49, 53], 8)] sz := rfl
  rw [e] at h
  clear e
  cases a1 : (sz == 1) <;> cases a4 : (sz == 4) <;> cases a8 : (sz == 8) <;> simp_all [-beq_eq_false_iff_ne, F20_15, rgR, bne]
theorem H20 (r : Int) (sz : Int) {E : Wh} {w' : World} {cargs : Array Value} {K : V → Mem → Prop} (hS : Sim E [] w') (ha : VsRel E [.I .i64 r, .I .i64 sz] cargs.toList) (h : K (.S (regI r sz)) []) :
    ((∃ fn, Tryd.prog.funcs[20]? = some fn ∧ fn.body.isSome = true) ∧ Calls Tryd.prog 20 cargs w' (Ret K E [] w')) ∨ ∃ cv w1, (callFunc 20 cargs).run Tryd.prog w' = .ok (.value cv) w1 ∧ Ret K E [] w' (.returned cv) w1 := by
  by_cases h1 : r < -1
  · obtain ⟨q, rfl⟩ : ∃ q : Nat, r = Int.negSucc (q + 1) := ⟨(-r - 2).toNat, by omega⟩
    exact cbody_use named C0_ok at20 (l := 0) rfl (LoopsOk.none _ _) (F20_n_ok q sz K) hS ha (by rw [regI_out (by omega)] at h; exact h)
  by_cases h2 : r > 15
  · obtain ⟨q, rfl⟩ : ∃ q : Nat, r = Int.ofNat (q + 16) := ⟨(r - 16).toNat, by simp only [Int.ofNat_eq_natCast]; omega⟩
    exact cbody_use named Cz_ok at20 (l := 0) rfl (LoopsOk.none _ _) (F20_b_ok q sz K) hS ha (h20_b q sz (fun u => K (.S u) []) h)
  have ho : r = -1 ∨ r = 0 ∨ r = 1 ∨ r = 2 ∨ r = 3 ∨ r = 4 ∨ r = 5 ∨ r = 6 ∨ r = 7 ∨ r = 8 ∨ r = 9 ∨ r = 10 ∨ r = 11 ∨ r = 12 ∨ r = 13 ∨ r = 14 ∨ r = 15 := by omega
  rcases ho with rfl | rfl | rfl | rfl | rfl | rfl | rfl | rfl | rfl | rfl | rfl | rfl | rfl | rfl | rfl | rfl | rfl
  · exact cbody_use named C0_ok at20 (l := 0) rfl (LoopsOk.none _ _) (F20_m_ok sz K) hS ha (by rw [regI_out (by omega)] at h; exact h)
  · exact cbody_use named C0_ok at20 (l := 0) rfl (LoopsOk.none _ _) (F20_0_ok sz K) hS ha (h20_0 sz (fun u => K (.S u) []) h)
  · exact cbody_use named C0_ok at20 (l := 0) rfl (LoopsOk.none _ _) (F20_1_ok sz K) hS ha (h20_1 sz (fun u => K (.S u) []) h)
  · exact cbody_use named C0_ok at20 (l := 0) rfl (LoopsOk.none _ _) (F20_2_ok sz K) hS ha (h20_2 sz (fun u => K (.S u) []) h)
  · exact cbody_use named C0_ok at20 (l := 0) rfl (LoopsOk.none _ _) (F20_3_ok sz K) hS ha (h20_3 sz (fun u => K (.S u) []) h)
  · exact cbody_use named C0_ok at20 (l := 0) rfl (LoopsOk.none _ _) (F20_4_ok sz K) hS ha (h20_4 sz (fun u => K (.S u) []) h)
  · exact cbody_use named C0_ok at20 (l := 0) rfl (LoopsOk.none _ _) (F20_5_ok sz K) hS ha (h20_5 sz (fun u => K (.S u) []) h)
  · exact cbody_use named C0_ok at20 (l := 0) rfl (LoopsOk.none _ _) (F20_6_ok sz K) hS ha (h20_6 sz (fun u => K (.S u) []) h)
  · exact cbody_use named C0_ok at20 (l := 0) rfl (LoopsOk.none _ _) (F20_7_ok sz K) hS ha (h20_7 sz (fun u => K (.S u) []) h)
  · exact cbody_use named C0_ok at20 (l := 0) rfl (LoopsOk.none _ _) (F20_8_ok sz K) hS ha (h20_8 sz (fun u => K (.S u) []) h)
  · exact cbody_use named C0_ok at20 (l := 0) rfl (LoopsOk.none _ _) (F20_9_ok sz K) hS ha (h20_9 sz (fun u => K (.S u) []) h)
  · exact cbody_use named C0_ok at20 (l := 0) rfl (LoopsOk.none _ _) (F20_10_ok sz K) hS ha (h20_10 sz (fun u => K (.S u) []) h)
  · exact cbody_use named C0_ok at20 (l := 0) rfl (LoopsOk.none _ _) (F20_11_ok sz K) hS ha (h20_11 sz (fun u => K (.S u) []) h)
  · exact cbody_use named C0_ok at20 (l := 0) rfl (LoopsOk.none _ _) (F20_12_ok sz K) hS ha (h20_12 sz (fun u => K (.S u) []) h)
  · exact cbody_use named C0_ok at20 (l := 0) rfl (LoopsOk.none _ _) (F20_13_ok sz K) hS ha (h20_13 sz (fun u => K (.S u) []) h)
  · exact cbody_use named C0_ok at20 (l := 0) rfl (LoopsOk.none _ _) (F20_14_ok sz K) hS ha (h20_14 sz (fun u => K (.S u) []) h)
  · exact cbody_use named C0_ok at20 (l := 0) rfl (LoopsOk.none _ _) (F20_15_ok sz K) hS ha (h20_15 sz (fun u => K (.S u) []) h)

def P20 : Prim := fun args m K =>
  let F := False
  (seeCons args F fun a1 q2 => (seeI .i64 a1 F fun r => (seeCons q2 F fun a3 q4 => (seeI .i64 a3 F fun sz => (seeNil q4 F (seeNil m F (K (.S (regI r sz)) [])))))))
theorem P20_ok : PrimOk Tryd.prog 20 P20 := by
  intro args m K E w cargs hS ha h
  unfold P20 at h
  dsimp only at h
  replace h := seeCons_use h
  rcases h with h | ⟨a1, q2, rfl, h⟩
  · exact h.elim
  replace h := seeI_use h
  rcases h with h | ⟨r, rfl, h⟩
  · exact h.elim
  replace h := seeCons_use h
  rcases h with h | ⟨a3, q4, rfl, h⟩
  · exact h.elim
  replace h := seeI_use h
  rcases h with h | ⟨sz, rfl, h⟩
  · exact h.elim
  replace h := seeNil_use h
  rcases h with h | ⟨rfl, h⟩
  · exact h.elim
  replace h := seeNil_use h
  rcases h with h | ⟨rfl, h⟩
  · exact h.elim
  exact H20 r sz hS ha h
def F21_n (q : Nat) (sz : Int) (k1 : List Int → Prop) : Prop :=
  (k1 ([] : List Int))
theorem F21_n_ok (q : Nat) (sz : Int) (K : V → Mem → Prop) : cbody Tryd.prog C0 (fun _ => none) 1000 (fnOf Tryd.prog 21) [(.I .i64 (Int.negSucc (q + 1))), (.I .i64 sz)] [] K = F21_n q sz (fun u => K (.S u) []) := by kernel_rfl
def F21_m (sz : Int) (k1 : List Int → Prop) : Prop :=
  (k1 ([] : List Int))
theorem F21_m_ok (sz : Int) (K : V → Mem → Prop) : cbody Tryd.prog C0 (fun _ => none) 1000 (fnOf Tryd.prog 21) [(.I .i64 (-1 : Int)), (.I .i64 sz)] [] K = F21_m sz (fun u => K (.S u) []) := by kernel_rfl
def F21_b (q : Nat) (sz : Int) (k1 : List Int → Prop) : Prop :=
  (bif (decide ((Int.ofNat (q + 16)) < 0)) then (k1 ([] : List Int)) else (bif (decide ((Int.ofNat (q + 16)) > 15)) then (k1 ([] : List Int)) else (bif (sz != 1) then (bif (sz != 4) then (bif (sz != 8) then (k1 ([] : List Int)) else (bif (decide ((Int.ofNat (q + 16)) ≥ 8)) then (bif (sz == 1) then False else (bif (sz == 4) then False else False)) else (bif (sz == 1) then (bif ((decide (0 ≤ (Int.ofNat (q + 16)))) && (decide ((Int.ofNat (q + 16)) < 8))) then (k1 (List.getD ([([97, 108] : List Int), ([99, 108] : List Int), ([100, 108] : List Int), ([98, 108] : List Int), ([115, 112, 108] : List Int), ([98, 112, 108] : List Int), ([115, 105, 108] : List Int), ([100, 105, 108] : List Int)] : List (List Int)) (Int.toNat (Int.ofNat (q + 16))) ([] : List Int))) else False) else (bif (sz == 4) then (bif ((decide (0 ≤ (Int.ofNat (q + 16)))) && (decide ((Int.ofNat (q + 16)) < 8))) then (bif (decide ((1 : Nat) ≤ (List.length (List.getD ([([114, 97, 120] : List Int), ([114, 99, 120] : List Int), ([114, 100, 120] : List Int), ([114, 98, 120] : List Int), ([114, 115, 112] : List Int), ([114, 98, 112] : List Int), ([114, 115, 105] : List Int), ([114, 100, 105] : List Int)] : List (List Int)) (Int.toNat (Int.ofNat (q + 16))) ([] : List Int))))) then (bif (decide (((1 : Nat) + (List.length (List.drop (1 : Nat) (List.getD ([([114, 97, 120] : List Int), ([114, 99, 120] : List Int), ([114, 100, 120] : List Int), ([114, 98, 120] : List Int), ([114, 115, 112] : List Int), ([114, 98, 112] : List Int), ([114, 115, 105] : List Int), ([114, 100, 105] : List Int)] : List (List Int)) (Int.toNat (Int.ofNat (q + 16))) ([] : List Int))))) ≤ (4611686018427387904 : Nat))) then (k1 (([101] : List Int) ++ (List.drop (1 : Nat) (List.getD ([([114, 97, 120] : List Int), ([114, 99, 120] : List Int), ([114, 100, 120] : List Int), ([114, 98, 120] : List Int), ([114, 115, 112] : List Int), ([114, 98, 112] : List Int), ([114, 115, 105] : List Int), ([114, 100, 105] : List Int)] : List (List Int)) (Int.toNat (Int.ofNat (q + 16))) ([] : List Int))))) else False) else False) else False) else (bif ((decide (0 ≤ (Int.ofNat (q + 16)))) && (decide ((Int.ofNat (q + 16)) < 8))) then (k1 (List.getD ([([114, 97, 120] : List Int), ([114, 99, 120] : List Int), ([114, 100, 120] : List Int), ([114, 98, 120] : List Int), ([114, 115, 112] : List Int), ([114, 98, 112] : List Int), ([114, 115, 105] : List Int), ([114, 100, 105] : List Int)] : List (List Int)) (Int.toNat (Int.ofNat (q + 16))) ([] : List Int))) else False))))) else (bif (decide ((Int.ofNat (q + 16)) ≥ 8)) then (bif (sz == 1) then False else (bif (sz == 4) then False else False)) else (bif (sz == 1) then (bif ((decide (0 ≤ (Int.ofNat (q + 16)))) && (decide ((Int.ofNat (q + 16)) < 8))) then (k1 (List.getD ([([97, 108] : List Int), ([99, 108] : List Int), ([100, 108] : List Int), ([98, 108] : List Int), ([115, 112, 108] : List Int), ([98, 112, 108] : List Int), ([115, 105, 108] : List Int), ([100, 105, 108] : List Int)] : List (List Int)) (Int.toNat (Int.ofNat (q + 16))) ([] : List Int))) else False) else (bif (sz == 4) then (bif ((decide (0 ≤ (Int.ofNat (q + 16)))) && (decide ((Int.ofNat (q + 16)) < 8))) then (bif (decide ((1 : Nat) ≤ (List.length (List.getD ([([114, 97, 120] : List Int), ([114, 99, 120] : List Int), ([114, 100, 120] : List Int), ([114, 98, 120] : List Int), ([114, 115, 112] : List Int), ([114, 98, 112] : List Int), ([114, 115, 105] : List Int), ([114, 100, 105] : List Int)] : List (List Int)) (Int.toNat (Int.ofNat (q + 16))) ([] : List Int))))) then (bif (decide (((1 : Nat) + (List.length (List.drop (1 : Nat) (List.getD ([([114, 97, 120] : List Int), ([114, 99, 120] : List Int), ([114, 100, 120] : List Int), ([114, 98, 120] : List Int), ([114, 115, 112] : List Int), ([114, 98, 112] : List Int), ([114, 115, 105] : List Int), ([114, 100, 105] : List Int)] : List (List Int)) (Int.toNat (Int.ofNat (q + 16))) ([] : List Int))))) ≤ (4611686018427387904 : Nat))) then (k1 (([101] : List Int) ++ (List.drop (1 : Nat) (List.getD ([([114, 97, 120] : List Int), ([114, 99, 120] : List Int), ([114, 100, 120] : List Int), ([114, 98, 120] : List Int), ([114, 115, 112] : List Int), ([114, 98, 112] : List Int), ([114, 115, 105] : List Int), ([114, 100, 105] : List Int)] : List (List Int)) (Int.toNat (Int.ofNat (q + 16))) ([] : List Int))))) else False) else False) else False) else (bif ((decide (0 ≤ (Int.ofNat (q + 16)))) && (decide ((Int.ofNat (q + 16)) < 8))) then (k1 (List.getD ([([114, 97, 120] : List Int), ([114, 99, 120] : List Int), ([114, 100, 120] : List Int), ([114, 98, 120] : List Int), ([114, 115, 112] : List Int), ([114, 98, 112] : List Int), ([114, 115, 105] : List Int), ([114, 100, 105] : List Int)] : List (List Int)) (Int.toNat (Int.ofNat (q + 16))) ([] : List Int))) else False))))) else (bif (decide ((Int.ofNat (q + 16)) ≥ 8)) then (bif (sz == 1) then False else (bif (sz == 4) then False else False)) else (bif (sz == 1) then (bif ((decide (0 ≤ (Int.ofNat (q + 16)))) && (decide ((Int.ofNat (q + 16)) < 8))) then (k1 (List.getD ([([97, 108] : List Int), ([99, 108] : List Int), ([100, 108] : List Int), ([98, 108] : List Int), ([115, 112, 108] : List Int), ([98, 112, 108] : List Int), ([115, 105, 108] : List Int), ([100, 105, 108] : List Int)] : List (List Int)) (Int.toNat (Int.ofNat (q + 16))) ([] : List Int))) else False) else (bif (sz == 4) then (bif ((decide (0 ≤ (Int.ofNat (q + 16)))) && (decide ((Int.ofNat (q + 16)) < 8))) then (bif (decide ((1 : Nat) ≤ (List.length (List.getD ([([114, 97, 120] : List Int), ([114, 99, 120] : List Int), ([114, 100, 120] : List Int), ([114, 98, 120] : List Int), ([114, 115, 112] : List Int), ([114, 98, 112] : List Int), ([114, 115, 105] : List Int), ([114, 100, 105] : List Int)] : List (List Int)) (Int.toNat (Int.ofNat (q + 16))) ([] : List Int))))) then (bif (decide (((1 : Nat) + (List.length (List.drop (1 : Nat) (List.getD ([([114, 97, 120] : List Int), ([114, 99, 120] : List Int), ([114, 100, 120] : List Int), ([114, 98, 120] : List Int), ([114, 115, 112] : List Int), ([114, 98, 112] : List Int), ([114, 115, 105] : List Int), ([114, 100, 105] : List Int)] : List (List Int)) (Int.toNat (Int.ofNat (q + 16))) ([] : List Int))))) ≤ (4611686018427387904 : Nat))) then (k1 (([101] : List Int) ++ (List.drop (1 : Nat) (List.getD ([([114, 97, 120] : List Int), ([114, 99, 120] : List Int), ([114, 100, 120] : List Int), ([114, 98, 120] : List Int), ([114, 115, 112] : List Int), ([114, 98, 112] : List Int), ([114, 115, 105] : List Int), ([114, 100, 105] : List Int)] : List (List Int)) (Int.toNat (Int.ofNat (q + 16))) ([] : List Int))))) else False) else False) else False) else (bif ((decide (0 ≤ (Int.ofNat (q + 16)))) && (decide ((Int.ofNat (q + 16)) < 8))) then (k1 (List.getD ([([114, 97, 120] : List Int), ([114, 99, 120] : List Int), ([114, 100, 120] : List Int), ([114, 98, 120] : List Int), ([114, 115, 112] : List Int), ([114, 98, 112] : List Int), ([114, 115, 105] : List Int), ([114, 100, 105] : List Int)] : List (List Int)) (Int.toNat (Int.ofNat (q + 16))) ([] : List Int))) else False)))))))
theorem F21_b_ok (q : Nat) (sz : Int) (K : V → Mem → Prop) : cbody Tryd.prog Cz (fun _ => none) 1000 (fnOf Tryd.prog 21) [(.I .i64 (Int.ofNat (q + 16))), (.I .i64 sz)] [] K = F21_b q sz (fun u => K (.S u) []) := by kernel_rfl
theorem h21_b (q : Nat) (sz : Int) (k1 : List Int → Prop) (h : k1 (regI (Int.ofNat (q + 16)) sz)) : F21_b q sz k1 := by
  rw [regI_out (by right; simp only [Int.ofNat_eq_natCast]; omega)] at h
  have e1 : decide (Int.ofNat (q + 16) > 15) = true := by simp only [Int.ofNat_eq_natCast, decide_eq_true_eq]; omega
  have e0 : decide (Int.ofNat (q + 16) < 0) = false := by simp only [Int.ofNat_eq_natCast, decide_eq_false_iff_not]; omega
  unfold F21_b
  rw [e0, cond_false, e1, cond_true]
  exact h
def F21_0 (sz : Int) (k1 : List Int → Prop) : Prop :=
  (bif (sz != 1) then (bif (sz != 4) then (bif (sz != 8) then (k1 ([] : List Int)) else (bif (sz == 1) then (k1 ([97, 108] : List Int)) else (bif (sz == 4) then (k1 ([101, 97, 120] : List Int)) else (k1 ([114, 97, 120] : List Int))))) else (bif (sz == 1) then (k1 ([97, 108] : List Int)) else (bif (sz == 4) then (k1 ([101, 97, 120] : List Int)) else (k1 ([114, 97, 120] : List Int))))) else (bif (sz == 1) then (k1 ([97, 108] : List Int)) else (bif (sz == 4) then (k1 ([101, 97, 120] : List Int)) else (k1 ([114, 97, 120] : List Int)))))
theorem F21_0_ok (sz : Int) (K : V → Mem → Prop) : cbody Tryd.prog C0 (fun _ => none) 1000 (fnOf Tryd.prog 21) [(.I .i64 (0 : Int)), (.I .i64 sz)] [] K = F21_0 sz (fun u => K (.S u) []) := by kernel_rfl
theorem h21_0 (sz : Int) (k1 : List Int → Prop) (h : k1 (regI 0 sz)) : F21_0 sz k1 := by
  have e : regI 0 sz = rgR [([97, 108], 1), ([101, 97, 120], 4), ([114, 97, 120], 8)] sz := rfl
  rw [e] at h
  clear e
  cases a1 : (sz == 1) <;> cases a4 : (sz == 4) <;> cases a8 : (sz == 8) <;> simp_all [-beq_eq_false_iff_ne, F21_0, rgR, bne]
def F21_1 (sz : Int) (k1 : List Int → Prop) : Prop :=
  (bif (sz != 1) then (bif (sz != 4) then (bif (sz != 8) then (k1 ([] : List Int)) else (bif (sz == 1) then (k1 ([99, 108] : List Int)) else (bif (sz == 4) then (k1 ([101, 99, 120] : List Int)) else (k1 ([114, 99, 120] : List Int))))) else (bif (sz == 1) then (k1 ([99, 108] : List Int)) else (bif (sz == 4) then (k1 ([101, 99, 120] : List Int)) else (k1 ([114, 99, 120] : List Int))))) else (bif (sz == 1) then (k1 ([99, 108] : List Int)) else (bif (sz == 4) then (k1 ([101, 99, 120] : List Int)) else (k1 ([114, 99, 120] : List Int)))))
theorem F21_1_ok (sz : Int) (K : V → Mem → Prop) : cbody Tryd.prog C0 (fun _ => none) 1000 (fnOf Tryd.prog 21) [(.I .i64 (1 : Int)), (.I .i64 sz)] [] K = F21_1 sz (fun u => K (.S u) []) := by kernel_rfl
theorem h21_1 (sz : Int) (k1 : List Int → Prop) (h : k1 (regI 1 sz)) : F21_1 sz k1 := by
  have e : regI 1 sz = rgR [([99, 108], 1), ([101, 99, 120], 4), ([114, 99, 120], 8)] sz := rfl
  rw [e] at h
  clear e
  cases a1 : (sz == 1) <;> cases a4 : (sz == 4) <;> cases a8 : (sz == 8) <;> simp_all [-beq_eq_false_iff_ne, F21_1, rgR, bne]
def F21_2 (sz : Int) (k1 : List Int → Prop) : Prop :=
  (bif (sz != 1) then (bif (sz != 4) then (bif (sz != 8) then (k1 ([] : List Int)) else (bif (sz == 1) then (k1 ([100, 108] : List Int)) else (bif (sz == 4) then (k1 ([101, 100, 120] : List Int)) else (k1 ([114, 100, 120] : List Int))))) else (bif (sz == 1) then (k1 ([100, 108] : List Int)) else (bif (sz == 4) then (k1 ([101, 100, 120] : List Int)) else (k1 ([114, 100, 120] : List Int))))) else (bif (sz == 1) then (k1 ([100, 108] : List Int)) else (bif (sz == 4) then (k1 ([101, 100, 120] : List Int)) else (k1 ([114, 100, 120] : List Int)))))
theorem F21_2_ok (sz : Int) (K : V → Mem → Prop) : cbody Tryd.prog C0 (fun _ => none) 1000 (fnOf Tryd.prog 21) [(.I .i64 (2 : Int)), (.I .i64 sz)] [] K = F21_2 sz (fun u => K (.S u) []) := by kernel_rfl
theorem h21_2 (sz : Int) (k1 : List Int → Prop) (h : k1 (regI 2 sz)) : F21_2 sz k1 := by
  have e : regI 2 sz = rgR [([100, 108], 1), ([101, 100, 120], 4), ([114, 100, 120], 8)] sz := rfl
  rw [e] at h
  clear e
  cases a1 : (sz == 1) <;> cases a4 : (sz == 4) <;> cases a8 : (sz == 8) <;> simp_all [-beq_eq_false_iff_ne, F21_2, rgR, bne]
def F21_3 (sz : Int) (k1 : List Int → Prop) : Prop :=
  (bif (sz != 1) then (bif (sz != 4) then (bif (sz != 8) then (k1 ([] : List Int)) else (bif (sz == 1) then (k1 ([98, 108] : List Int)) else (bif (sz == 4) then (k1 ([101, 98, 120] : List Int)) else (k1 ([114, 98, 120] : List Int))))) else (bif (sz == 1) then (k1 ([98, 108] : List Int)) else (bif (sz == 4) then (k1 ([101, 98, 120] : List Int)) else (k1 ([114, 98, 120] : List Int))))) else (bif (sz == 1) then (k1 ([98, 108] : List Int)) else (bif (sz == 4) then (k1 ([101, 98, 120] : List Int)) else (k1 ([114, 98, 120] : List Int)))))
theorem F21_3_ok (sz : Int) (K : V → Mem → Prop) : cbody Tryd.prog C0 (fun _ => none) 1000 (fnOf Tryd.prog 21) [(.I .i64 (3 : Int)), (.I .i64 sz)] [] K = F21_3 sz (fun u => K (.S u) []) := by kernel_rfl
theorem h21_3 (sz : Int) (k1 : List Int → Prop) (h : k1 (regI 3 sz)) : F21_3 sz k1 := by
  have e : regI 3 sz = rgR [([98, 108], 1), ([101, 98, 120], 4), ([114, 98, 120], 8)] sz := rfl
  rw [e] at h
  clear e
  cases a1 : (sz == 1) <;> cases a4 : (sz == 4) <;> cases a8 : (sz == 8) <;> simp_all [-beq_eq_false_iff_ne, F21_3, rgR, bne]
def F21_4 (sz : Int) (k1 : List Int → Prop) : Prop :=
  (bif (sz != 1) then (bif (sz != 4) then (bif (sz != 8) then (k1 ([] : List Int)) else (bif (sz == 1) then (k1 ([115, 112, 108] : List Int)) else (bif (sz == 4) then (k1 ([101, 115, 112] : List Int)) else (k1 ([114, 115, 112] : List Int))))) else (bif (sz == 1) then (k1 ([115, 112, 108] : List Int)) else (bif (sz == 4) then (k1 ([101, 115, 112] : List Int)) else (k1 ([114, 115, 112] : List Int))))) else (bif (sz == 1) then (k1 ([115, 112, 108] : List Int)) else (bif (sz == 4) then (k1 ([101, 115, 112] : List Int)) else (k1 ([114, 115, 112] : List Int)))))
theorem F21_4_ok (sz : Int) (K : V → Mem → Prop) : cbody Tryd.prog C0 (fun _ => none) 1000 (fnOf Tryd.prog 21) [(.I .i64 (4 : Int)), (.I .i64 sz)] [] K = F21_4 sz (fun u => K (.S u) []) := by kernel_rfl
theorem h21_4 (sz : Int) (k1 : List Int → Prop) (h : k1 (regI 4 sz)) : F21_4 sz k1 := by
  have e : regI 4 sz = rgR [([115, 112, 108], 1), ([101, 115, 112], 4), ([114, 115, 112], 8)] sz := rfl
  rw [e] at h
  clear e
  cases a1 : (sz == 1) <;> cases a4 : (sz == 4) <;> cases a8 : (sz == 8) <;> simp_all [-beq_eq_false_iff_ne, F21_4, rgR, bne]
def F21_5 (sz : Int) (k1 : List Int → Prop) : Prop :=
  (bif (sz != 1) then (bif (sz != 4) then (bif (sz != 8) then (k1 ([] : List Int)) else (bif (sz == 1) then (k1 ([98, 112, 108] : List Int)) else (bif (sz == 4) then (k1 ([101, 98, 112] : List Int)) else (k1 ([114, 98, 112] : List Int))))) else (bif (sz == 1) then (k1 ([98, 112, 108] : List Int)) else (bif (sz == 4) then (k1 ([101, 98, 112] : List Int)) else (k1 ([114, 98, 112] : List Int))))) else (bif (sz == 1) then (k1 ([98, 112, 108] : List Int)) else (bif (sz == 4) then (k1 ([101, 98, 112] : List Int)) else (k1 ([114, 98, 112] : List Int)))))
theorem F21_5_ok (sz : Int) (K : V → Mem → Prop) : cbody Tryd.prog C0 (fun _ => none) 1000 (fnOf Tryd.prog 21) [(.I .i64 (5 : Int)), (.I .i64 sz)] [] K = F21_5 sz (fun u => K (.S u) []) := by kernel_rfl
theorem h21_5 (sz : Int) (k1 : List Int → Prop) (h : k1 (regI 5 sz)) : F21_5 sz k1 := by
  have e : regI 5 sz = rgR [([98, 112, 108], 1), ([101, 98, 112], 4), ([114, 98, 112], 8)] sz := rfl
  rw [e] at h
  clear e
  cases a1 : (sz == 1) <;> cases a4 : (sz == 4) <;> cases a8 : (sz == 8) <;> simp_all [-beq_eq_false_iff_ne, F21_5, rgR, bne]
def F21_6 (sz : Int) (k1 : List Int → Prop) : Prop :=
  (bif (sz != 1) then (bif (sz != 4) then (bif (sz != 8) then (k1 ([] : List Int)) else (bif (sz == 1) then (k1 ([115, 105, 108] : List Int)) else (bif (sz == 4) then (k1 ([101, 115, 105] : List Int)) else (k1 ([114, 115, 105] : List Int))))) else (bif (sz == 1) then (k1 ([115, 105, 108] : List Int)) else (bif (sz == 4) then (k1 ([101, 115, 105] : List Int)) else (k1 ([114, 115, 105] : List Int))))) else (bif (sz == 1) then (k1 ([115, 105, 108] : List Int)) else (bif (sz == 4) then (k1 ([101, 115, 105] : List Int)) else (k1 ([114, 115, 105] : List Int)))))
theorem F21_6_ok (sz : Int) (K : V → Mem → Prop) : cbody Tryd.prog C0 (fun _ => none) 1000 (fnOf Tryd.prog 21) [(.I .i64 (6 : Int)), (.I .i64 sz)] [] K = F21_6 sz (fun u => K (.S u) []) := by kernel_rfl
theorem h21_6 (sz : Int) (k1 : List Int → Prop) (h : k1 (regI 6 sz)) : F21_6 sz k1 := by
  have e : regI 6 sz = rgR [([115, 105, 108], 1), ([101, 115, 105], 4), ([114, 115, 105], 8)] sz := rfl
  rw [e] at h
  clear e
  cases a1 : (sz == 1) <;> cases a4 : (sz == 4) <;> cases a8 : (sz == 8) <;> simp_all [-beq_eq_false_iff_ne, F21_6, rgR, bne]
def F21_7 (sz : Int) (k1 : List Int → Prop) : Prop :=
  (bif (sz != 1) then (bif (sz != 4) then (bif (sz != 8) then (k1 ([] : List Int)) else (bif (sz == 1) then (k1 ([100, 105, 108] : List Int)) else (bif (sz == 4) then (k1 ([101, 100, 105] : List Int)) else (k1 ([114, 100, 105] : List Int))))) else (bif (sz == 1) then (k1 ([100, 105, 108] : List Int)) else (bif (sz == 4) then (k1 ([101, 100, 105] : List Int)) else (k1 ([114, 100, 105] : List Int))))) else (bif (sz == 1) then (k1 ([100, 105, 108] : List Int)) else (bif (sz == 4) then (k1 ([101, 100, 105] : List Int)) else (k1 ([114, 100, 105] : List Int)))))
theorem F21_7_ok (sz : Int) (K : V → Mem → Prop) : cbody Tryd.prog C0 (fun _ => none) 1000 (fnOf Tryd.prog 21) [(.I .i64 (7 : Int)), (.I .i64 sz)] [] K = F21_7 sz (fun u => K (.S u) []) := by kernel_rfl
theorem h21_7 (sz : Int) (k1 : List Int → Prop) (h : k1 (regI 7 sz)) : F21_7 sz k1 := by
  have e : regI 7 sz = rgR [([100, 105, 108], 1), ([101, 100, 105], 4), ([114, 100, 105], 8)] sz := rfl
  rw [e] at h
  clear e
  cases a1 : (sz == 1) <;> cases a4 : (sz == 4) <;> cases a8 : (sz == 8) <;> simp_all [-beq_eq_false_iff_ne, F21_7, rgR, bne]
def F21_8 (sz : Int) (k1 : List Int → Prop) : Prop :=
  (bif (sz != 1) then (bif (sz != 4) then (bif (sz != 8) then (k1 ([] : List Int)) else (bif (sz == 1) then (k1 ([114, 56, 98] : List Int)) else (bif (sz == 4) then (k1 ([114, 56, 100] : List Int)) else (k1 ([114, 56] : List Int))))) else (bif (sz == 1) then (k1 ([114, 56, 98] : List Int)) else (bif (sz == 4) then (k1 ([114, 56, 100] : List Int)) else (k1 ([114, 56] : List Int))))) else (bif (sz == 1) then (k1 ([114, 56, 98] : List Int)) else (bif (sz == 4) then (k1 ([114, 56, 100] : List Int)) else (k1 ([114, 56] : List Int)))))
theorem F21_8_ok (sz : Int) (K : V → Mem → Prop) : cbody Tryd.prog C0 (fun _ => none) 1000 (fnOf Tryd.prog 21) [(.I .i64 (8 : Int)), (.I .i64 sz)] [] K = F21_8 sz (fun u => K (.S u) []) := by kernel_rfl
theorem h21_8 (sz : Int) (k1 : List Int → Prop) (h : k1 (regI 8 sz)) : F21_8 sz k1 := by
  have e : regI 8 sz = rgR [([114, 56, 98], 1), ([114, 56, 100], 4), ([114, 56], 8)] sz := rfl
  rw [e] at h
  clear e
  cases a1 : (sz == 1) <;> cases a4 : (sz == 4) <;> cases a8 : (sz == 8) <;> simp_all [-beq_eq_false_iff_ne, F21_8, rgR, bne]
def F21_9 (sz : Int) (k1 : List Int → Prop) : Prop :=
  (bif (sz != 1) then (bif (sz != 4) then (bif (sz != 8) then (k1 ([] : List Int)) else (bif (sz == 1) then (k1 ([114, 57, 98] : List Int)) else (bif (sz == 4) then (k1 ([114, 57, 100] : List Int)) else (k1 ([114, 57] : List Int))))) else (bif (sz == 1) then (k1 ([114, 57, 98] : List Int)) else (bif (sz == 4) then (k1 ([114, 57, 100] : List Int)) else (k1 ([114, 57] : List Int))))) else (bif (sz == 1) then (k1 ([114, 57, 98] : List Int)) else (bif (sz == 4) then (k1 ([114, 57, 100] : List Int)) else (k1 ([114, 57] : List Int)))))
theorem F21_9_ok (sz : Int) (K : V → Mem → Prop) : cbody Tryd.prog C0 (fun _ => none) 1000 (fnOf Tryd.prog 21) [(.I .i64 (9 : Int)), (.I .i64 sz)] [] K = F21_9 sz (fun u => K (.S u) []) := by kernel_rfl
theorem h21_9 (sz : Int) (k1 : List Int → Prop) (h : k1 (regI 9 sz)) : F21_9 sz k1 := by
  have e : regI 9 sz = rgR [([114, 57, 98], 1), ([114, 57, 100], 4), ([114, 57], 8)] sz := rfl
  rw [e] at h
  clear e
  cases a1 : (sz == 1) <;> cases a4 : (sz == 4) <;> cases a8 : (sz == 8) <;> simp_all [-beq_eq_false_iff_ne, F21_9, rgR, bne]
def F21_10 (sz : Int) (k1 : List Int → Prop) : Prop :=
  (bif (sz != 1) then (bif (sz != 4) then (bif (sz != 8) then (k1 ([] : List Int)) else (bif (sz == 1) then (k1 ([114, 49, 48, 98] : List Int)) else (bif (sz == 4) then (k1 ([114, 49, 48, 100] : List Int)) else (k1 ([114, 49, 48] : List Int))))) else (bif (sz == 1) then (k1 ([114, 49, 48, 98] : List Int)) else (bif (sz == 4) then (k1 ([114, 49, 48, 100] : List Int)) else (k1 ([114, 49, 48] : List Int))))) else (bif (sz == 1) then (k1 ([114, 49, 48, 98] : List Int)) else (bif (sz == 4) then (k1 ([114, 49, 48, 100] : List Int)) else (k1 ([114, 49, 48] : List Int)))))
theorem F21_10_ok (sz : Int) (K : V → Mem → Prop) : cbody Tryd.prog C0 (fun _ => none) 1000 (fnOf Tryd.prog 21) [(.I .i64 (10 : Int)), (.I .i64 sz)] [] K = F21_10 sz (fun u => K (.S u) []) := by kernel_rfl
theorem h21_10 (sz : Int) (k1 : List Int → Prop) (h : k1 (regI 10 sz)) : F21_10 sz k1 := by
  have e : regI 10 sz = rgR [([114, 49, 48, 98], 1), ([114, 49, 48, 100], 4), ([114, 49, 48], 8)] sz := rfl
  rw [e] at h
  clear e
  cases a1 : (sz == 1) <;> cases a4 : (sz == 4) <;> cases a8 : (sz == 8) <;> simp_all [-beq_eq_false_iff_ne, F21_10, rgR, bne]
def F21_11 (sz : Int) (k1 : List Int → Prop) : Prop :=
  (bif (sz != 1) then (bif (sz != 4) then (bif (sz != 8) then (k1 ([] : List Int)) else (bif (sz == 1) then (k1 ([114, 49, 49, 98] : List Int)) else (bif (sz == 4) then (k1 ([114, 49, 49, 100] : List Int)) else (k1 ([114, 49, 49] : List Int))))) else (bif (sz == 1) then (k1 ([114, 49, 49, 98] : List Int)) else (bif (sz == 4) then (k1 ([114, 49, 49, 100] : List Int)) else (k1 ([114, 49, 49] : List Int))))) else (bif (sz == 1) then (k1 ([114, 49, 49, 98] : List Int)) else (bif (sz == 4) then (k1 ([114, 49, 49, 100] : List Int)) else (k1 ([114, 49, 49] : List Int)))))
theorem F21_11_ok (sz : Int) (K : V → Mem → Prop) : cbody Tryd.prog C0 (fun _ => none) 1000 (fnOf Tryd.prog 21) [(.I .i64 (11 : Int)), (.I .i64 sz)] [] K = F21_11 sz (fun u => K (.S u) []) := by kernel_rfl
theorem h21_11 (sz : Int) (k1 : List Int → Prop) (h : k1 (regI 11 sz)) : F21_11 sz k1 := by
  have e : regI 11 sz = rgR [([114, 49, 49, 98], 1), ([114, 49, 49, 100], 4), ([114, 49, 49], 8)] sz := rfl
  rw [e] at h
  clear e
  cases a1 : (sz == 1) <;> cases a4 : (sz == 4) <;> cases a8 : (sz == 8) <;> simp_all [-beq_eq_false_iff_ne, F21_11, rgR, bne]
def F21_12 (sz : Int) (k1 : List Int → Prop) : Prop :=
  (bif (sz != 1) then (bif (sz != 4) then (bif (sz != 8) then (k1 ([] : List Int)) else (bif (sz == 1) then (k1 ([114, 49, 50, 98] : List Int)) else (bif (sz == 4) then (k1 ([114, 49, 50, 100] : List Int)) else (k1 ([114, 49, 50] : List Int))))) else (bif (sz == 1) then (k1 ([114, 49, 50, 98] : List Int)) else (bif (sz == 4) then (k1 ([114, 49, 50, 100] : List Int)) else (k1 ([114, 49, 50] : List Int))))) else (bif (sz == 1) then (k1 ([114, 49, 50, 98] : List Int)) else (bif (sz == 4) then (k1 ([114, 49, 50, 100] : List Int)) else (k1 ([114, 49, 50] : List Int)))))
theorem F21_12_ok (sz : Int) (K : V → Mem → Prop) : cbody Tryd.prog C0 (fun _ => none) 1000 (fnOf Tryd.prog 21) [(.I .i64 (12 : Int)), (.I .i64 sz)] [] K = F21_12 sz (fun u => K (.S u) []) := by kernel_rfl
theorem h21_12 (sz : Int) (k1 : List Int → Prop) (h : k1 (regI 12 sz)) : F21_12 sz k1 := by
  have e : regI 12 sz = rgR [([114, 49, 50, 98], 1), ([114, 49, 50, 100], 4), ([114, 49, 50], 8)] sz := rfl
  rw [e] at h
  clear e
  cases a1 : (sz == 1) <;> cases a4 : (sz == 4) <;> cases a8 : (sz == 8) <;> simp_all [-beq_eq_false_iff_ne, F21_12, rgR, bne]
def F21_13 (sz : Int) (k1 : List Int → Prop) : Prop :=
  (bif (sz != 1) then (bif (sz != 4) then (bif (sz != 8) then (k1 ([] : List Int)) else (bif (sz == 1) then (k1 ([114, 49, 51, 98] : List Int)) else (bif (sz == 4) then (k1 ([114, 49, 51, 100] : List Int)) else (k1 ([114, 49, 51] : List Int))))) else (bif (sz == 1) then (k1 ([114, 49, 51, 98] : List Int)) else (bif (sz == 4) then (k1 ([114, 49, 51, 100] : List Int)) else (k1 ([114, 49, 51] : List Int))))) else (bif (sz == 1) then (k1 ([114, 49, 51, 98] : List Int)) else (bif (sz == 4) then (k1 ([114, 49, 51, 100] : List Int)) else (k1 ([114, 49, 51] : List Int)))))
theorem F21_13_ok (sz : Int) (K : V → Mem → Prop) : cbody Tryd.prog C0 (fun _ => none) 1000 (fnOf Tryd.prog 21) [(.I .i64 (13 : Int)), (.I .i64 sz)] [] K = F21_13 sz (fun u => K (.S u) []) := by kernel_rfl
theorem h21_13 (sz : Int) (k1 : List Int → Prop) (h : k1 (regI 13 sz)) : F21_13 sz k1 := by
  have e : regI 13 sz = rgR [([114, 49, 51, 98], 1), ([114, 49, 51, 100], 4), ([114, 49, 51], 8)] sz := rfl
  rw [e] at h
  clear e
  cases a1 : (sz == 1) <;> cases a4 : (sz == 4) <;> cases a8 : (sz == 8) <;> simp_all [-beq_eq_false_iff_ne, F21_13, rgR, bne]
def F21_14 (sz : Int) (k1 : List Int → Prop) : Prop :=
  (bif (sz != 1) then (bif (sz != 4) then (bif (sz != 8) then (k1 ([] : List Int)) else (bif (sz == 1) then (k1 ([114, 49, 52, 98] : List Int)) else (bif (sz == 4) then (k1 ([114, 49, 52, 100] : List Int)) else (k1 ([114, 49, 52] : List Int))))) else (bif (sz == 1) then (k1 ([114, 49, 52, 98] : List Int)) else (bif (sz == 4) then (k1 ([114, 49, 52, 100] : List Int)) else (k1 ([114, 49, 52] : List Int))))) else (bif (sz == 1) then (k1 ([114, 49, 52, 98] : List Int)) else (bif (sz == 4) then (k1 ([114, 49, 52, 100] : List Int)) else (k1 ([114, 49, 52] : List Int)))))
theorem F21_14_ok (sz : Int) (K : V → Mem → Prop) : cbody Tryd.prog C0 (fun _ => none) 1000 (fnOf Tryd.prog 21) [(.I .i64 (14 : Int)), (.I .i64 sz)] [] K = F21_14 sz (fun u => K (.S u) []) := by kernel_rfl
theorem h21_14 (sz : Int) (k1 : List Int → Prop) (h : k1 (regI 14 sz)) : F21_14 sz k1 := by
  have e : regI 14 sz = rgR [([114, 49, 52, 98], 1), ([114, 49, 52, 100], 4), ([114, 49, 52], 8)] sz := rfl
  rw [e] at h
  clear e
  cases a1 : (sz == 1) <;> cases a4 : (sz == 4) <;> cases a8 : (sz == 8) <;> simp_all [-beq_eq_false_iff_ne, F21_14, rgR, bne]
def F21_15 (sz : Int) (k1 : List Int → Prop) : Prop :=
  (bif (sz != 1) then (bif (sz != 4) then (bif (sz != 8) then (k1 ([] : List Int)) else (bif (sz == 1) then (k1 ([114, 49, 53, 98] : List Int)) else (bif (sz == 4) then (k1 ([114, 49, 53, 100] : List Int)) else (k1 ([114, 49, 53] : List Int))))) else (bif (sz == 1) then (k1 ([114, 49, 53, 98] : List Int)) else (bif (sz == 4) then (k1 ([114, 49, 53, 100] : List Int)) else (k1 ([114, 49, 53] : List Int))))) else (bif (sz == 1) then (k1 ([114, 49, 53, 98] : List Int)) else (bif (sz == 4) then (k1 ([114, 49, 53, 100] : List Int)) else (k1 ([114, 49, 53] : List Int)))))
theorem F21_15_ok (sz : Int) (K : V → Mem → Prop) : cbody Tryd.prog C0 (fun _ => none) 1000 (fnOf Tryd.prog 21) [(.I .i64 (15 : Int)), (.I .i64 sz)] [] K = F21_15 sz (fun u => K (.S u) []) := by kernel_rfl
theorem h21_15 (sz : Int) (k1 : List Int → Prop) (h : k1 (regI 15 sz)) : F21_15 sz k1 := by
  have e : regI 15 sz = rgR [([114, 49, 53, 98], 1), ([114, 49, 53, 100], 4), ([114, 49, 53], 8)] sz := rfl
  rw [e] at h
  clear e
  cases a1 : (sz == 1) <;> cases a4 : (sz == 4) <;> cases a8 : (sz == 8) <;> simp_all [-beq_eq_false_iff_ne, F21_15, rgR, bne]
theorem H21 (op : Int) (sz : Int) {E : Wh} {w' : World} {cargs : Array Value} {K : V → Mem → Prop} (hS : Sim E [] w') (ha : VsRel E [.I .i64 op, .I .i64 sz] cargs.toList) (h : K (.S (regI op sz)) []) :
    ((∃ fn, Tryd.prog.funcs[21]? = some fn ∧ fn.body.isSome = true) ∧ Calls Tryd.prog 21 cargs w' (Ret K E [] w')) ∨ ∃ cv w1, (callFunc 21 cargs).run Tryd.prog w' = .ok (.value cv) w1 ∧ Ret K E [] w' (.returned cv) w1 := by
  by_cases h1 : op < -1
  · obtain ⟨q, rfl⟩ : ∃ q : Nat, op = Int.negSucc (q + 1) := ⟨(-op - 2).toNat, by omega⟩
    exact cbody_use named C0_ok at21 (l := 0) rfl (LoopsOk.none _ _) (F21_n_ok q sz K) hS ha (by rw [regI_out (by omega)] at h; exact h)
  by_cases h2 : op > 15
  · obtain ⟨q, rfl⟩ : ∃ q : Nat, op = Int.ofNat (q + 16) := ⟨(op - 16).toNat, by simp only [Int.ofNat_eq_natCast]; omega⟩
    exact cbody_use named Cz_ok at21 (l := 0) rfl (LoopsOk.none _ _) (F21_b_ok q sz K) hS ha (h21_b q sz (fun u => K (.S u) []) h)
  have ho : op = -1 ∨ op = 0 ∨ op = 1 ∨ op = 2 ∨ op = 3 ∨ op = 4 ∨ op = 5 ∨ op = 6 ∨ op = 7 ∨ op = 8 ∨ op = 9 ∨ op = 10 ∨ op = 11 ∨ op = 12 ∨ op = 13 ∨ op = 14 ∨ op = 15 := by omega
  rcases ho with rfl | rfl | rfl | rfl | rfl | rfl | rfl | rfl | rfl | rfl | rfl | rfl | rfl | rfl | rfl | rfl | rfl
  · exact cbody_use named C0_ok at21 (l := 0) rfl (LoopsOk.none _ _) (F21_m_ok sz K) hS ha (by rw [regI_out (by omega)] at h; exact h)
  · exact cbody_use named C0_ok at21 (l := 0) rfl (LoopsOk.none _ _) (F21_0_ok sz K) hS ha (h21_0 sz (fun u => K (.S u) []) h)
  · exact cbody_use named C0_ok at21 (l := 0) rfl (LoopsOk.none _ _) (F21_1_ok sz K) hS ha (h21_1 sz (fun u => K (.S u) []) h)
  · exact cbody_use named C0_ok at21 (l := 0) rfl (LoopsOk.none _ _) (F21_2_ok sz K) hS ha (h21_2 sz (fun u => K (.S u) []) h)
  · exact cbody_use named C0_ok at21 (l := 0) rfl (LoopsOk.none _ _) (F21_3_ok sz K) hS ha (h21_3 sz (fun u => K (.S u) []) h)
  · exact cbody_use named C0_ok at21 (l := 0) rfl (LoopsOk.none _ _) (F21_4_ok sz K) hS ha (h21_4 sz (fun u => K (.S u) []) h)
  · exact cbody_use named C0_ok at21 (l := 0) rfl (LoopsOk.none _ _) (F21_5_ok sz K) hS ha (h21_5 sz (fun u => K (.S u) []) h)
  · exact cbody_use named C0_ok at21 (l := 0) rfl (LoopsOk.none _ _) (F21_6_ok sz K) hS ha (h21_6 sz (fun u => K (.S u) []) h)
  · exact cbody_use named C0_ok at21 (l := 0) rfl (LoopsOk.none _ _) (F21_7_ok sz K) hS ha (h21_7 sz (fun u => K (.S u) []) h)
  · exact cbody_use named C0_ok at21 (l := 0) rfl (LoopsOk.none _ _) (F21_8_ok sz K) hS ha (h21_8 sz (fun u => K (.S u) []) h)
  · exact cbody_use named C0_ok at21 (l := 0) rfl (LoopsOk.none _ _) (F21_9_ok sz K) hS ha (h21_9 sz (fun u => K (.S u) []) h)
  · exact cbody_use named C0_ok at21 (l := 0) rfl (LoopsOk.none _ _) (F21_10_ok sz K) hS ha (h21_10 sz (fun u => K (.S u) []) h)
  · exact cbody_use named C0_ok at21 (l := 0) rfl (LoopsOk.none _ _) (F21_11_ok sz K) hS ha (h21_11 sz (fun u => K (.S u) []) h)
  · exact cbody_use named C0_ok at21 (l := 0) rfl (LoopsOk.none _ _) (F21_12_ok sz K) hS ha (h21_12 sz (fun u => K (.S u) []) h)
  · exact cbody_use named C0_ok at21 (l := 0) rfl (LoopsOk.none _ _) (F21_13_ok sz K) hS ha (h21_13 sz (fun u => K (.S u) []) h)
  · exact cbody_use named C0_ok at21 (l := 0) rfl (LoopsOk.none _ _) (F21_14_ok sz K) hS ha (h21_14 sz (fun u => K (.S u) []) h)
  · exact cbody_use named C0_ok at21 (l := 0) rfl (LoopsOk.none _ _) (F21_15_ok sz K) hS ha (h21_15 sz (fun u => K (.S u) []) h)

def P21 : Prim := fun args m K =>
  let F := False
  (seeCons args F fun a1 q2 => (seeI .i64 a1 F fun op => (seeCons q2 F fun a3 q4 => (seeI .i64 a3 F fun sz => (seeNil q4 F (seeNil m F (K (.S (regI op sz)) [])))))))
theorem P21_ok : PrimOk Tryd.prog 21 P21 := by
  intro args m K E w cargs hS ha h
  unfold P21 at h
  dsimp only at h
  replace h := seeCons_use h
  rcases h with h | ⟨a1, q2, rfl, h⟩
  · exact h.elim
  replace h := seeI_use h
  rcases h with h | ⟨op, rfl, h⟩
  · exact h.elim
  replace h := seeCons_use h
  rcases h with h | ⟨a3, q4, rfl, h⟩
  · exact h.elim
  replace h := seeI_use h
  rcases h with h | ⟨sz, rfl, h⟩
  · exact h.elim
  replace h := seeNil_use h
  rcases h with h | ⟨rfl, h⟩
  · exact h.elim
  replace h := seeNil_use h
  rcases h with h | ⟨rfl, h⟩
  · exact h.elim
  exact H21 op sz hS ha h
end Go.Proofs.YtaajhdkngiemlaaDoor.frm
