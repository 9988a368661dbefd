import Derived.Test.YtkbijhfikkjhpaaGreatDoorFrmNs
set_option linter.unusedVariables false
set_option linter.unusedSimpArgs false
set_option maxHeartbeats 4000000
set_option maxRecDepth 100000
namespace Go.Proofs.YtkbijhfikkjhpaaGreatDoor.frm
open Go Go.Ab
def F34_n (q : Nat) (sz : Int) (k1 : List Int → Prop) : Prop :=
  (k1 ([] : List Int))
theorem F34_n_ok (q : Nat) (sz : Int) (K : V → Mem → Prop) : cbody Tryz.prog C0 (fun _ => none) 1000 (fnOf Tryz.prog 34) [(.I .i64 (Int.negSucc (q + 1))), (.I .i64 sz)] [] K = F34_n q sz (fun u => K (.S u) []) := by kernel_rfl
def F34_m (sz : Int) (k1 : List Int → Prop) : Prop :=
  (k1 ([] : List Int))
theorem F34_m_ok (sz : Int) (K : V → Mem → Prop) : cbody Tryz.prog C0 (fun _ => none) 1000 (fnOf Tryz.prog 34) [(.I .i64 (-1 : Int)), (.I .i64 sz)] [] K = F34_m sz (fun u => K (.S u) []) := by kernel_rfl
def F34_b (q : Nat) (sz : Int) (k1 : List Int → Prop) : Prop :=
  (bif (decide ((Int.ofNat (q + 16)) < 0)) then (k1 ([] : List Int)) else (bif (decide ((Int.ofNat (q + 16)) > 15)) then (k1 ([] : List Int)) else (bif (sz != 1) then (bif (sz != 4) then (bif (sz != 8) then (k1 ([] : List Int)) else (bif (decide ((Int.ofNat (q + 16)) ≥ 8)) then (bif (sz == 1) then False else (bif (sz == 4) then False else False)) else (bif (sz == 1) then (bif ((decide (0 ≤ (Int.ofNat (q + 16)))) && (decide ((Int.ofNat (q + 16)) < 8))) then (k1 (List.getD ([([97, 108] : List Int), ([99, 108] : List Int), ([100, 108] : List Int), ([98, 108] : List Int), ([115, 112, 108] : List Int), ([98, 112, 108] : List Int), ([115, 105, 108] : List Int), ([100, 105, 108] : List Int)] : List (List Int)) (Int.toNat (Int.ofNat (q + 16))) ([] : List Int))) else False) else (bif (sz == 4) then (bif ((decide (0 ≤ (Int.ofNat (q + 16)))) && (decide ((Int.ofNat (q + 16)) < 8))) then (bif (decide ((1 : Nat) ≤ (List.length (List.getD ([([114, 97, 120] : List Int), ([114, 99, 120] : List Int), ([114, 100, 120] : List Int), ([114, 98, 120] : List Int), ([114, 115, 112] : List Int), ([114, 98, 112] : List Int), ([114, 115, 105] : List Int), ([114, 100, 105] : List Int)] : List (List Int)) (Int.toNat (Int.ofNat (q + 16))) ([] : List Int))))) then (bif (decide (((1 : Nat) + (List.length (List.drop (1 : Nat) (List.getD ([([114, 97, 120] : List Int), ([114, 99, 120] : List Int), ([114, 100, 120] : List Int), ([114, 98, 120] : List Int), ([114, 115, 112] : List Int), ([114, 98, 112] : List Int), ([114, 115, 105] : List Int), ([114, 100, 105] : List Int)] : List (List Int)) (Int.toNat (Int.ofNat (q + 16))) ([] : List Int))))) ≤ (4611686018427387904 : Nat))) then (k1 (([101] : List Int) ++ (List.drop (1 : Nat) (List.getD ([([114, 97, 120] : List Int), ([114, 99, 120] : List Int), ([114, 100, 120] : List Int), ([114, 98, 120] : List Int), ([114, 115, 112] : List Int), ([114, 98, 112] : List Int), ([114, 115, 105] : List Int), ([114, 100, 105] : List Int)] : List (List Int)) (Int.toNat (Int.ofNat (q + 16))) ([] : List Int))))) else False) else False) else False) else (bif ((decide (0 ≤ (Int.ofNat (q + 16)))) && (decide ((Int.ofNat (q + 16)) < 8))) then (k1 (List.getD ([([114, 97, 120] : List Int), ([114, 99, 120] : List Int), ([114, 100, 120] : List Int), ([114, 98, 120] : List Int), ([114, 115, 112] : List Int), ([114, 98, 112] : List Int), ([114, 115, 105] : List Int), ([114, 100, 105] : List Int)] : List (List Int)) (Int.toNat (Int.ofNat (q + 16))) ([] : List Int))) else False))))) else (bif (decide ((Int.ofNat (q + 16)) ≥ 8)) then (bif (sz == 1) then False else (bif (sz == 4) then False else False)) else (bif (sz == 1) then (bif ((decide (0 ≤ (Int.ofNat (q + 16)))) && (decide ((Int.ofNat (q + 16)) < 8))) then (k1 (List.getD ([([97, 108] : List Int), ([99, 108] : List Int), ([100, 108] : List Int), ([98, 108] : List Int), ([115, 112, 108] : List Int), ([98, 112, 108] : List Int), ([115, 105, 108] : List Int), ([100, 105, 108] : List Int)] : List (List Int)) (Int.toNat (Int.ofNat (q + 16))) ([] : List Int))) else False) else (bif (sz == 4) then (bif ((decide (0 ≤ (Int.ofNat (q + 16)))) && (decide ((Int.ofNat (q + 16)) < 8))) then (bif (decide ((1 : Nat) ≤ (List.length (List.getD ([([114, 97, 120] : List Int), ([114, 99, 120] : List Int), ([114, 100, 120] : List Int), ([114, 98, 120] : List Int), ([114, 115, 112] : List Int), ([114, 98, 112] : List Int), ([114, 115, 105] : List Int), ([114, 100, 105] : List Int)] : List (List Int)) (Int.toNat (Int.ofNat (q + 16))) ([] : List Int))))) then (bif (decide (((1 : Nat) + (List.length (List.drop (1 : Nat) (List.getD ([([114, 97, 120] : List Int), ([114, 99, 120] : List Int), ([114, 100, 120] : List Int), ([114, 98, 120] : List Int), ([114, 115, 112] : List Int), ([114, 98, 112] : List Int), ([114, 115, 105] : List Int), ([114, 100, 105] : List Int)] : List (List Int)) (Int.toNat (Int.ofNat (q + 16))) ([] : List Int))))) ≤ (4611686018427387904 : Nat))) then (k1 (([101] : List Int) ++ (List.drop (1 : Nat) (List.getD ([([114, 97, 120] : List Int), ([114, 99, 120] : List Int), ([114, 100, 120] : List Int), ([114, 98, 120] : List Int), ([114, 115, 112] : List Int), ([114, 98, 112] : List Int), ([114, 115, 105] : List Int), ([114, 100, 105] : List Int)] : List (List Int)) (Int.toNat (Int.ofNat (q + 16))) ([] : List Int))))) else False) else False) else False) else (bif ((decide (0 ≤ (Int.ofNat (q + 16)))) && (decide ((Int.ofNat (q + 16)) < 8))) then (k1 (List.getD ([([114, 97, 120] : List Int), ([114, 99, 120] : List Int), ([114, 100, 120] : List Int), ([114, 98, 120] : List Int), ([114, 115, 112] : List Int), ([114, 98, 112] : List Int), ([114, 115, 105] : List Int), ([114, 100, 105] : List Int)] : List (List Int)) (Int.toNat (Int.ofNat (q + 16))) ([] : List Int))) else False))))) else (bif (decide ((Int.ofNat (q + 16)) ≥ 8)) then (bif (sz == 1) then False else (bif (sz == 4) then False else False)) else (bif (sz == 1) then (bif ((decide (0 ≤ (Int.ofNat (q + 16)))) && (decide ((Int.ofNat (q + 16)) < 8))) then (k1 (List.getD ([([97, 108] : List Int), ([99, 108] : List Int), ([100, 108] : List Int), ([98, 108] : List Int), ([115, 112, 108] : List Int), ([98, 112, 108] : List Int), ([115, 105, 108] : List Int), ([100, 105, 108] : List Int)] : List (List Int)) (Int.toNat (Int.ofNat (q + 16))) ([] : List Int))) else False) else (bif (sz == 4) then (bif ((decide (0 ≤ (Int.ofNat (q + 16)))) && (decide ((Int.ofNat (q + 16)) < 8))) then (bif (decide ((1 : Nat) ≤ (List.length (List.getD ([([114, 97, 120] : List Int), ([114, 99, 120] : List Int), ([114, 100, 120] : List Int), ([114, 98, 120] : List Int), ([114, 115, 112] : List Int), ([114, 98, 112] : List Int), ([114, 115, 105] : List Int), ([114, 100, 105] : List Int)] : List (List Int)) (Int.toNat (Int.ofNat (q + 16))) ([] : List Int))))) then (bif (decide (((1 : Nat) + (List.length (List.drop (1 : Nat) (List.getD ([([114, 97, 120] : List Int), ([114, 99, 120] : List Int), ([114, 100, 120] : List Int), ([114, 98, 120] : List Int), ([114, 115, 112] : List Int), ([114, 98, 112] : List Int), ([114, 115, 105] : List Int), ([114, 100, 105] : List Int)] : List (List Int)) (Int.toNat (Int.ofNat (q + 16))) ([] : List Int))))) ≤ (4611686018427387904 : Nat))) then (k1 (([101] : List Int) ++ (List.drop (1 : Nat) (List.getD ([([114, 97, 120] : List Int), ([114, 99, 120] : List Int), ([114, 100, 120] : List Int), ([114, 98, 120] : List Int), ([114, 115, 112] : List Int), ([114, 98, 112] : List Int), ([114, 115, 105] : List Int), ([114, 100, 105] : List Int)] : List (List Int)) (Int.toNat (Int.ofNat (q + 16))) ([] : List Int))))) else False) else False) else False) else (bif ((decide (0 ≤ (Int.ofNat (q + 16)))) && (decide ((Int.ofNat (q + 16)) < 8))) then (k1 (List.getD ([([114, 97, 120] : List Int), ([114, 99, 120] : List Int), ([114, 100, 120] : List Int), ([114, 98, 120] : List Int), ([114, 115, 112] : List Int), ([114, 98, 112] : List Int), ([114, 115, 105] : List Int), ([114, 100, 105] : List Int)] : List (List Int)) (Int.toNat (Int.ofNat (q + 16))) ([] : List Int))) else False)))))))
theorem F34_b_ok (q : Nat) (sz : Int) (K : V → Mem → Prop) : cbody Tryz.prog Cz (fun _ => none) 1000 (fnOf Tryz.prog 34) [(.I .i64 (Int.ofNat (q + 16))), (.I .i64 sz)] [] K = F34_b q sz (fun u => K (.S u) []) := by kernel_rfl
theorem h34_b (q : Nat) (sz : Int) (k1 : List Int → Prop) (h : k1 (regI (Int.ofNat (q + 16)) sz)) : F34_b q sz k1 := by
  rw [regI_out (by right; simp only [Int.ofNat_eq_natCast]; omega)] at h
  have e1 : decide (Int.ofNat (q + 16) > 15) = true := by simp only [Int.ofNat_eq_natCast, decide_eq_true_eq]; omega
  have e0 : decide (Int.ofNat (q + 16) < 0) = false := by simp only [Int.ofNat_eq_natCast, decide_eq_false_iff_not]; omega
  unfold F34_b
  rw [e0, cond_false, e1, cond_true]
  exact h
def F34_0 (sz : Int) (k1 : List Int → Prop) : Prop :=
  (bif (sz != 1) then (bif (sz != 4) then (bif (sz != 8) then (k1 ([] : List Int)) else (bif (sz == 1) then (k1 ([97, 108] : List Int)) else (bif (sz == 4) then (k1 ([101, 97, 120] : List Int)) else (k1 ([114, 97, 120] : List Int))))) else (bif (sz == 1) then (k1 ([97, 108] : List Int)) else (bif (sz == 4) then (k1 ([101, 97, 120] : List Int)) else (k1 ([114, 97, 120] : List Int))))) else (bif (sz == 1) then (k1 ([97, 108] : List Int)) else (bif (sz == 4) then (k1 ([101, 97, 120] : List Int)) else (k1 ([114, 97, 120] : List Int)))))
theorem F34_0_ok (sz : Int) (K : V → Mem → Prop) : cbody Tryz.prog C0 (fun _ => none) 1000 (fnOf Tryz.prog 34) [(.I .i64 (0 : Int)), (.I .i64 sz)] [] K = F34_0 sz (fun u => K (.S u) []) := by kernel_rfl
theorem h34_0 (sz : Int) (k1 : List Int → Prop) (h : k1 (regI 0 sz)) : F34_0 sz k1 := by
  have e : regI 0 sz = rgR [([97, 108], 1), ([101, 97, 120], 4), ([114, 97, 120], 8)] sz := rfl
  rw [e] at h
  clear e
  cases a1 : (sz == 1) <;> cases a4 : (sz == 4) <;> cases a8 : (sz == 8) <;> simp_all [-beq_eq_false_iff_ne, F34_0, rgR, bne]
def F34_1 (sz : Int) (k1 : List Int → Prop) : Prop :=
  (bif (sz != 1) then (bif (sz != 4) then (bif (sz != 8) then (k1 ([] : List Int)) else (bif (sz == 1) then (k1 ([99, 108] : List Int)) else (bif (sz == 4) then (k1 ([101, 99, 120] : List Int)) else (k1 ([114, 99, 120] : List Int))))) else (bif (sz == 1) then (k1 ([99, 108] : List Int)) else (bif (sz == 4) then (k1 ([101, 99, 120] : List Int)) else (k1 ([114, 99, 120] : List Int))))) else (bif (sz == 1) then (k1 ([99, 108] : List Int)) else (bif (sz == 4) then (k1 ([101, 99, 120] : List Int)) else (k1 ([114, 99, 120] : List Int)))))
theorem F34_1_ok (sz : Int) (K : V → Mem → Prop) : cbody Tryz.prog C0 (fun _ => none) 1000 (fnOf Tryz.prog 34) [(.I .i64 (1 : Int)), (.I .i64 sz)] [] K = F34_1 sz (fun u => K (.S u) []) := by kernel_rfl
theorem h34_1 (sz : Int) (k1 : List Int → Prop) (h : k1 (regI 1 sz)) : F34_1 sz k1 := by
  have e : regI 1 sz = rgR [([99, 108], 1), ([101, 99, 120], 4), ([114, 99, 120], 8)] sz := rfl
  rw [e] at h
  clear e
  cases a1 : (sz == 1) <;> cases a4 : (sz == 4) <;> cases a8 : (sz == 8) <;> simp_all [-beq_eq_false_iff_ne, F34_1, rgR, bne]
def F34_2 (sz : Int) (k1 : List Int → Prop) : Prop :=
  (bif (sz != 1) then (bif (sz != 4) then (bif (sz != 8) then (k1 ([] : List Int)) else (bif (sz == 1) then (k1 ([100, 108] : List Int)) else (bif (sz == 4) then (k1 ([101, 100, 120] : List Int)) else (k1 ([114, 100, 120] : List Int))))) else (bif (sz == 1) then (k1 ([100, 108] : List Int)) else (bif (sz == 4) then (k1 ([101, 100, 120] : List Int)) else (k1 ([114, 100, 120] : List Int))))) else (bif (sz == 1) then (k1 ([100, 108] : List Int)) else (bif (sz == 4) then (k1 ([101, 100, 120] : List Int)) else (k1 ([114, 100, 120] : List Int)))))
theorem F34_2_ok (sz : Int) (K : V → Mem → Prop) : cbody Tryz.prog C0 (fun _ => none) 1000 (fnOf Tryz.prog 34) [(.I .i64 (2 : Int)), (.I .i64 sz)] [] K = F34_2 sz (fun u => K (.S u) []) := by kernel_rfl
theorem h34_2 (sz : Int) (k1 : List Int → Prop) (h : k1 (regI 2 sz)) : F34_2 sz k1 := by
  have e : regI 2 sz = rgR [([100, 108], 1), ([101, 100, 120], 4), ([114, 100, 120], 8)] sz := rfl
  rw [e] at h
  clear e
  cases a1 : (sz == 1) <;> cases a4 : (sz == 4) <;> cases a8 : (sz == 8) <;> simp_all [-beq_eq_false_iff_ne, F34_2, rgR, bne]
def F34_3 (sz : Int) (k1 : List Int → Prop) : Prop :=
  (bif (sz != 1) then (bif (sz != 4) then (bif (sz != 8) then (k1 ([] : List Int)) else (bif (sz == 1) then (k1 ([98, 108] : List Int)) else (bif (sz == 4) then (k1 ([101, 98, 120] : List Int)) else (k1 ([114, 98, 120] : List Int))))) else (bif (sz == 1) then (k1 ([98, 108] : List Int)) else (bif (sz == 4) then (k1 ([101, 98, 120] : List Int)) else (k1 ([114, 98, 120] : List Int))))) else (bif (sz == 1) then (k1 ([98, 108] : List Int)) else (bif (sz == 4) then (k1 ([101, 98, 120] : List Int)) else (k1 ([114, 98, 120] : List Int)))))
theorem F34_3_ok (sz : Int) (K : V → Mem → Prop) : cbody Tryz.prog C0 (fun _ => none) 1000 (fnOf Tryz.prog 34) [(.I .i64 (3 : Int)), (.I .i64 sz)] [] K = F34_3 sz (fun u => K (.S u) []) := by kernel_rfl
theorem h34_3 (sz : Int) (k1 : List Int → Prop) (h : k1 (regI 3 sz)) : F34_3 sz k1 := by
  have e : regI 3 sz = rgR [([98, 108], 1), ([101, 98, 120], 4), ([114, 98, 120], 8)] sz := rfl
  rw [e] at h
  clear e
  cases a1 : (sz == 1) <;> cases a4 : (sz == 4) <;> cases a8 : (sz == 8) <;> simp_all [-beq_eq_false_iff_ne, F34_3, rgR, bne]
def F34_4 (sz : Int) (k1 : List Int → Prop) : Prop :=
  (bif (sz != 1) then (bif (sz != 4) then (bif (sz != 8) then (k1 ([] : List Int)) else (bif (sz == 1) then (k1 ([115, 112, 108] : List Int)) else (bif (sz == 4) then (k1 ([101, 115, 112] : List Int)) else (k1 ([114, 115, 112] : List Int))))) else (bif (sz == 1) then (k1 ([115, 112, 108] : List Int)) else (bif (sz == 4) then (k1 ([101, 115, 112] : List Int)) else (k1 ([114, 115, 112] : List Int))))) else (bif (sz == 1) then (k1 ([115, 112, 108] : List Int)) else (bif (sz == 4) then (k1 ([101, 115, 112] : List Int)) else (k1 ([114, 115, 112] : List Int)))))
theorem F34_4_ok (sz : Int) (K : V → Mem → Prop) : cbody Tryz.prog C0 (fun _ => none) 1000 (fnOf Tryz.prog 34) [(.I .i64 (4 : Int)), (.I .i64 sz)] [] K = F34_4 sz (fun u => K (.S u) []) := by kernel_rfl
theorem h34_4 (sz : Int) (k1 : List Int → Prop) (h : k1 (regI 4 sz)) : F34_4 sz k1 := by
  have e : regI 4 sz = rgR [([115, 112, 108], 1), ([101, 115, 112], 4), ([114, 115, 112], 8)] sz := rfl
  rw [e] at h
  clear e
  cases a1 : (sz == 1) <;> cases a4 : (sz == 4) <;> cases a8 : (sz == 8) <;> simp_all [-beq_eq_false_iff_ne, F34_4, rgR, bne]
def F34_5 (sz : Int) (k1 : List Int → Prop) : Prop :=
  (bif (sz != 1) then (bif (sz != 4) then (bif (sz != 8) then (k1 ([] : List Int)) else (bif (sz == 1) then (k1 ([98, 112, 108] : List Int)) else (bif (sz == 4) then (k1 ([101, 98, 112] : List Int)) else (k1 ([114, 98, 112] : List Int))))) else (bif (sz == 1) then (k1 ([98, 112, 108] : List Int)) else (bif (sz == 4) then (k1 ([101, 98, 112] : List Int)) else (k1 ([114, 98, 112] : List Int))))) else (bif (sz == 1) then (k1 ([98, 112, 108] : List Int)) else (bif (sz == 4) then (k1 ([101, 98, 112] : List Int)) else (k1 ([114, 98, 112] : List Int)))))
theorem F34_5_ok (sz : Int) (K : V → Mem → Prop) : cbody Tryz.prog C0 (fun _ => none) 1000 (fnOf Tryz.prog 34) [(.I .i64 (5 : Int)), (.I .i64 sz)] [] K = F34_5 sz (fun u => K (.S u) []) := by kernel_rfl
theorem h34_5 (sz : Int) (k1 : List Int → Prop) (h : k1 (regI 5 sz)) : F34_5 sz k1 := by
  have e : regI 5 sz = rgR [([98, 112, 108], 1), ([101, 98, 112], 4), ([114, 98, 112], 8)] sz := rfl
  rw [e] at h
  clear e
  cases a1 : (sz == 1) <;> cases a4 : (sz == 4) <;> cases a8 : (sz == 8) <;> simp_all [-beq_eq_false_iff_ne, F34_5, rgR, bne]
def F34_6 (sz : Int) (k1 : List Int → Prop) : Prop :=
  (bif (sz != 1) then (bif (sz != 4) then (bif (sz != 8) then (k1 ([] : List Int)) else (bif (sz == 1) then (k1 ([115, 105, 108] : List Int)) else (bif (sz == 4) then (k1 ([101, 115, 105] : List Int)) else (k1 ([114, 115, 105] : List Int))))) else (bif (sz == 1) then (k1 ([115, 105, 108] : List Int)) else (bif (sz == 4) then (k1 ([101, 115, 105] : List Int)) else (k1 ([114, 115, 105] : List Int))))) else (bif (sz == 1) then (k1 ([115, 105, 108] : List Int)) else (bif (sz == 4) then (k1 ([101, 115, 105] : List Int)) else (k1 ([114, 115, 105] : List Int)))))
theorem F34_6_ok (sz : Int) (K : V → Mem → Prop) : cbody Tryz.prog C0 (fun _ => none) 1000 (fnOf Tryz.prog 34) [(.I .i64 (6 : Int)), (.I .i64 sz)] [] K = F34_6 sz (fun u => K (.S u) []) := by kernel_rfl
theorem h34_6 (sz : Int) (k1 : List Int → Prop) (h : k1 (regI 6 sz)) : F34_6 sz k1 := by
  have e : regI 6 sz = rgR [([115, 105, 108], 1), ([101, 115, 105], 4), ([114, 115, 105], 8)] sz := rfl
  rw [e] at h
  clear e
  cases a1 : (sz == 1) <;> cases a4 : (sz == 4) <;> cases a8 : (sz == 8) <;> simp_all [-beq_eq_false_iff_ne, F34_6, rgR, bne]
def F34_7 (sz : Int) (k1 : List Int → Prop) : Prop :=
  (bif (sz != 1) then (bif (sz != 4) then (bif (sz != 8) then (k1 ([] : List Int)) else (bif (sz == 1) then (k1 ([100, 105, 108] : List Int)) else (bif (sz == 4) then (k1 ([101, 100, 105] : List Int)) else (k1 ([114, 100, 105] : List Int))))) else (bif (sz == 1) then (k1 ([100, 105, 108] : List Int)) else (bif (sz == 4) then (k1 ([101, 100, 105] : List Int)) else (k1 ([114, 100, 105] : List Int))))) else (bif (sz == 1) then (k1 ([100, 105, 108] : List Int)) else (bif (sz == 4) then (k1 ([101, 100, 105] : List Int)) else (k1 ([114, 100, 105] : List Int)))))
theorem F34_7_ok (sz : Int) (K : V → Mem → Prop) : cbody Tryz.prog C0 (fun _ => none) 1000 (fnOf Tryz.prog 34) [(.I .i64 (7 : Int)), (.I .i64 sz)] [] K = F34_7 sz (fun u => K (.S u) []) := by kernel_rfl
theorem h34_7 (sz : Int) (k1 : List Int → Prop) (h : k1 (regI 7 sz)) : F34_7 sz k1 := by
  have e : regI 7 sz = rgR [([100, 105, 108], 1), ([101, 100, 105], 4), ([114, 100, 105], 8)] sz := rfl
  rw [e] at h
  clear e
  cases a1 : (sz == 1) <;> cases a4 : (sz == 4) <;> cases a8 : (sz == 8) <;> simp_all [-beq_eq_false_iff_ne, F34_7, rgR, bne]
def F34_8 (sz : Int) (k1 : List Int → Prop) : Prop :=
  (bif (sz != 1) then (bif (sz != 4) then (bif (sz != 8) then (k1 ([] : List Int)) else (bif (sz == 1) then (k1 ([114, 56, 98] : List Int)) else (bif (sz == 4) then (k1 ([114, 56, 100] : List Int)) else (k1 ([114, 56] : List Int))))) else (bif (sz == 1) then (k1 ([114, 56, 98] : List Int)) else (bif (sz == 4) then (k1 ([114, 56, 100] : List Int)) else (k1 ([114, 56] : List Int))))) else (bif (sz == 1) then (k1 ([114, 56, 98] : List Int)) else (bif (sz == 4) then (k1 ([114, 56, 100] : List Int)) else (k1 ([114, 56] : List Int)))))
theorem F34_8_ok (sz : Int) (K : V → Mem → Prop) : cbody Tryz.prog C0 (fun _ => none) 1000 (fnOf Tryz.prog 34) [(.I .i64 (8 : Int)), (.I .i64 sz)] [] K = F34_8 sz (fun u => K (.S u) []) := by kernel_rfl
theorem h34_8 (sz : Int) (k1 : List Int → Prop) (h : k1 (regI 8 sz)) : F34_8 sz k1 := by
  have e : regI 8 sz = rgR [([114, 56, 98], 1), ([114, 56, 100], 4), ([114, 56], 8)] sz := rfl
  rw [e] at h
  clear e
  cases a1 : (sz == 1) <;> cases a4 : (sz == 4) <;> cases a8 : (sz == 8) <;> simp_all [-beq_eq_false_iff_ne, F34_8, rgR, bne]
def F34_9 (sz : Int) (k1 : List Int → Prop) : Prop :=
  (bif (sz != 1) then (bif (sz != 4) then (bif (sz != 8) then (k1 ([] : List Int)) else (bif (sz == 1) then (k1 ([114, 57, 98] : List Int)) else (bif (sz == 4) then (k1 ([114, 57, 100] : List Int)) else (k1 ([114, 57] : List Int))))) else (bif (sz == 1) then (k1 ([114, 57, 98] : List Int)) else (bif (sz == 4) then (k1 ([114, 57, 100] : List Int)) else (k1 ([114, 57] : List Int))))) else (bif (sz == 1) then (k1 ([114, 57, 98] : List Int)) else (bif (sz == 4) then (k1 ([114, 57, 100] : List Int)) else (k1 ([114, 57] : List Int)))))
theorem F34_9_ok (sz : Int) (K : V → Mem → Prop) : cbody Tryz.prog C0 (fun _ => none) 1000 (fnOf Tryz.prog 34) [(.I .i64 (9 : Int)), (.I .i64 sz)] [] K = F34_9 sz (fun u => K (.S u) []) := by kernel_rfl
theorem h34_9 (sz : Int) (k1 : List Int → Prop) (h : k1 (regI 9 sz)) : F34_9 sz k1 := by
  have e : regI 9 sz = rgR [([114, 57, 98], 1), ([114, 57, 100], 4), ([114, 57], 8)] sz := rfl
  rw [e] at h
  clear e
  cases a1 : (sz == 1) <;> cases a4 : (sz == 4) <;> cases a8 : (sz == 8) <;> simp_all [-beq_eq_false_iff_ne, F34_9, rgR, bne]
def F34_10 (sz : Int) (k1 : List Int → Prop) : Prop :=
  (bif (sz != 1) then (bif (sz != 4) then (bif (sz != 8) then (k1 ([] : List Int)) else (bif (sz == 1) then (k1 ([114, 49, 48, 98] : List Int)) else (bif (sz == 4) then (k1 ([114, 49, 48, 100] : List Int)) else (k1 ([114, 49, 48] : List Int))))) else (bif (sz == 1) then (k1 ([114, 49, 48, 98] : List Int)) else (bif (sz == 4) then (k1 ([114, 49, 48, 100] : List Int)) else (k1 ([114, 49, 48] : List Int))))) else (bif (sz == 1) then (k1 ([114, 49, 48, 98] : List Int)) else (bif (sz == 4) then (k1 ([114, 49, 48, 100] : List Int)) else (k1 ([114, 49, 48] : List Int)))))
theorem F34_10_ok (sz : Int) (K : V → Mem → Prop) : cbody Tryz.prog C0 (fun _ => none) 1000 (fnOf Tryz.prog 34) [(.I .i64 (10 : Int)), (.I .i64 sz)] [] K = F34_10 sz (fun u => K (.S u) []) := by kernel_rfl
theorem h34_10 (sz : Int) (k1 : List Int → Prop) (h : k1 (regI 10 sz)) : F34_10 sz k1 := by
  have e : regI 10 sz = rgR [([114, 49, 48, 98], 1), ([114, 49, 48, 100], 4), ([114, 49, 48], 8)] sz := rfl
  rw [e] at h
  clear e
  cases a1 : (sz == 1) <;> cases a4 : (sz == 4) <;> cases a8 : (sz == 8) <;> simp_all [-beq_eq_false_iff_ne, F34_10, rgR, bne]
def F34_11 (sz : Int) (k1 : List Int → Prop) : Prop :=
  (bif (sz != 1) then (bif (sz != 4) then (bif (sz != 8) then (k1 ([] : List Int)) else (bif (sz == 1) then (k1 ([114, 49, 49, 98] : List Int)) else (bif (sz == 4) then (k1 ([114, 49, 49, 100] : List Int)) else (k1 ([114, 49, 49] : List Int))))) else (bif (sz == 1) then (k1 ([114, 49, 49, 98] : List Int)) else (bif (sz == 4) then (k1 ([114, 49, 49, 100] : List Int)) else (k1 ([114, 49, 49] : List Int))))) else (bif (sz == 1) then (k1 ([114, 49, 49, 98] : List Int)) else (bif (sz == 4) then (k1 ([114, 49, 49, 100] : List Int)) else (k1 ([114, 49, 49] : List Int)))))
theorem F34_11_ok (sz : Int) (K : V → Mem → Prop) : cbody Tryz.prog C0 (fun _ => none) 1000 (fnOf Tryz.prog 34) [(.I .i64 (11 : Int)), (.I .i64 sz)] [] K = F34_11 sz (fun u => K (.S u) []) := by kernel_rfl
theorem h34_11 (sz : Int) (k1 : List Int → Prop) (h : k1 (regI 11 sz)) : F34_11 sz k1 := by
  have e : regI 11 sz = rgR [([114, 49, 49, 98], 1), ([114, 49, 49, 100], 4), ([114, 49, 49], 8)] sz := rfl
  rw [e] at h
  clear e
  cases a1 : (sz == 1) <;> cases a4 : (sz == 4) <;> cases a8 : (sz == 8) <;> simp_all [-beq_eq_false_iff_ne, F34_11, rgR, bne]
def F34_12 (sz : Int) (k1 : List Int → Prop) : Prop :=
  (bif (sz != 1) then (bif (sz != 4) then (bif (sz != 8) then (k1 ([] : List Int)) else (bif (sz == 1) then (k1 ([114, 49, 50, 98] : List Int)) else (bif (sz == 4) then (k1 ([114, 49, 50, 100] : List Int)) else (k1 ([114, 49, 50] : List Int))))) else (bif (sz == 1) then (k1 ([114, 49, 50, 98] : List Int)) else (bif (sz == 4) then (k1 ([114, 49, 50, 100] : List Int)) else (k1 ([114, 49, 50] : List Int))))) else (bif (sz == 1) then (k1 ([114, 49, 50, 98] : List Int)) else (bif (sz == 4) then (k1 ([114, 49, 50, 100] : List Int)) else (k1 ([114, 49, 50] : List Int)))))
theorem F34_12_ok (sz : Int) (K : V → Mem → Prop) : cbody Tryz.prog C0 (fun _ => none) 1000 (fnOf Tryz.prog 34) [(.I .i64 (12 : Int)), (.I .i64 sz)] [] K = F34_12 sz (fun u => K (.S u) []) := by kernel_rfl
theorem h34_12 (sz : Int) (k1 : List Int → Prop) (h : k1 (regI 12 sz)) : F34_12 sz k1 := by
  have e : regI 12 sz = rgR [([114, 49, 50, 98], 1), ([114, 49, 50, 100], 4), ([114, 49, 50], 8)] sz := rfl
  rw [e] at h
  clear e
  cases a1 : (sz == 1) <;> cases a4 : (sz == 4) <;> cases a8 : (sz == 8) <;> simp_all [-beq_eq_false_iff_ne, F34_12, rgR, bne]
def F34_13 (sz : Int) (k1 : List Int → Prop) : Prop :=
  (bif (sz != 1) then (bif (sz != 4) then (bif (sz != 8) then (k1 ([] : List Int)) else (bif (sz == 1) then (k1 ([114, 49, 51, 98] : List Int)) else (bif (sz == 4) then (k1 ([114, 49, 51, 100] : List Int)) else (k1 ([114, 49, 51] : List Int))))) else (bif (sz == 1) then (k1 ([114, 49, 51, 98] : List Int)) else (bif (sz == 4) then (k1 ([114, 49, 51, 100] : List Int)) else (k1 ([114, 49, 51] : List Int))))) else (bif (sz == 1) then (k1 ([114, 49, 51, 98] : List Int)) else (bif (sz == 4) then (k1 ([114, 49, 51, 100] : List Int)) else (k1 ([114, 49, 51] : List Int)))))
theorem F34_13_ok (sz : Int) (K : V → Mem → Prop) : cbody Tryz.prog C0 (fun _ => none) 1000 (fnOf Tryz.prog 34) [(.I .i64 (13 : Int)), (.I .i64 sz)] [] K = F34_13 sz (fun u => K (.S u) []) := by kernel_rfl
theorem h34_13 (sz : Int) (k1 : List Int → Prop) (h : k1 (regI 13 sz)) : F34_13 sz k1 := by
  have e : regI 13 sz = rgR [([114, 49, 51, 98], 1), ([114, 49, 51, 100], 4), ([114, 49, 51], 8)] sz := rfl
  rw [e] at h
  clear e
  cases a1 : (sz == 1) <;> cases a4 : (sz == 4) <;> cases a8 : (sz == 8) <;> simp_all [-beq_eq_false_iff_ne, F34_13, rgR, bne]
def F34_14 (sz : Int) (k1 : List Int → Prop) : Prop :=
  (bif (sz != 1) then (bif (sz != 4) then (bif (sz != 8) then (k1 ([] : List Int)) else (bif (sz == 1) then (k1 ([114, 49, 52, 98] : List Int)) else (bif (sz == 4) then (k1 ([114, 49, 52, 100] : List Int)) else (k1 ([114, 49, 52] : List Int))))) else (bif (sz == 1) then (k1 ([114, 49, 52, 98] : List Int)) else (bif (sz == 4) then (k1 ([114, 49, 52, 100] : List Int)) else (k1 ([114, 49, 52] : List Int))))) else (bif (sz == 1) then (k1 ([114, 49, 52, 98] : List Int)) else (bif (sz == 4) then (k1 ([114, 49, 52, 100] : List Int)) else (k1 ([114, 49, 52] : List Int)))))
theorem F34_14_ok (sz : Int) (K : V → Mem → Prop) : cbody Tryz.prog C0 (fun _ => none) 1000 (fnOf Tryz.prog 34) [(.I .i64 (14 : Int)), (.I .i64 sz)] [] K = F34_14 sz (fun u => K (.S u) []) := by kernel_rfl
theorem h34_14 (sz : Int) (k1 : List Int → Prop) (h : k1 (regI 14 sz)) : F34_14 sz k1 := by
  have e : regI 14 sz = rgR [([114, 49, 52, 98], 1), ([114, 49, 52, 100], 4), ([114, 49, 52], 8)] sz := rfl
  rw [e] at h
  clear e
  cases a1 : (sz == 1) <;> cases a4 : (sz == 4) <;> cases a8 : (sz == 8) <;> simp_all [-beq_eq_false_iff_ne, F34_14, rgR, bne]
def F34_15 (sz : Int) (k1 : List Int → Prop) : Prop :=
  (bif (sz != 1) then (bif (sz != 4) then (bif (sz != 8) then (k1 ([] : List Int)) else (bif (sz == 1) then (k1 ([114, 49, 53, 98] : List Int)) else (bif (sz == 4) then (k1 ([114, 49, 53, 100] : List Int)) else (k1 ([114, 49, 53] : List Int))))) else (bif (sz == 1) then (k1 ([114, 49, 53, 98] : List Int)) else (bif (sz == 4) then (k1 ([114, 49, 53, 100] : List Int)) else (k1 ([114, 49, 53] : List Int))))) else (bif (sz == 1) then (k1 ([114, 49, 53, 98] : List Int)) else (bif (sz == 4) then (k1 ([114, 49, 53, 100] : List Int)) else (k1 ([114, 49, 53] : List Int)))))
theorem F34_15_ok (sz : Int) (K : V → Mem → Prop) : cbody Tryz.prog C0 (fun _ => none) 1000 (fnOf Tryz.prog 34) [(.I .i64 (15 : Int)), (.I .i64 sz)] [] K = F34_15 sz (fun u => K (.S u) []) := by kernel_rfl
theorem h34_15 (sz : Int) (k1 : List Int → Prop) (h : k1 (regI 15 sz)) : F34_15 sz k1 := by
  have e : regI 15 sz = rgR [([114, 49, 53, 98], 1), ([114, 49, 53, 100], 4), ([114, 49, 53], 8)] sz := rfl
  rw [e] at h
  clear e
  cases a1 : (sz == 1) <;> cases a4 : (sz == 4) <;> cases a8 : (sz == 8) <;> simp_all [-beq_eq_false_iff_ne, F34_15, rgR, bne]
theorem H34 (op : Int) (sz : Int) {E : Wh} {w' : World} {cargs : Array Value} {K : V → Mem → Prop} (hS : Sim E [] w') (ha : VsRel E [.I .i64 op, .I .i64 sz] cargs.toList) (h : K (.S (regI op sz)) []) :
    ((∃ fn, Tryz.prog.funcs[34]? = some fn ∧ fn.body.isSome = true) ∧ Calls Tryz.prog 34 cargs w' (Ret K E [] w')) ∨ ∃ cv w1, (callFunc 34 cargs).run Tryz.prog w' = .ok (.value cv) w1 ∧ Ret K E [] w' (.returned cv) w1 := by
  by_cases h1 : op < -1
  · obtain ⟨q, rfl⟩ : ∃ q : Nat, op = Int.negSucc (q + 1) := ⟨(-op - 2).toNat, by omega⟩
    exact cbody_use named C0_ok at34 (l := 0) rfl (LoopsOk.none _ _) (F34_n_ok q sz K) hS ha (by rw [regI_out (by omega)] at h; exact h)
  by_cases h2 : op > 15
  · obtain ⟨q, rfl⟩ : ∃ q : Nat, op = Int.ofNat (q + 16) := ⟨(op - 16).toNat, by simp only [Int.ofNat_eq_natCast]; omega⟩
    exact cbody_use named Cz_ok at34 (l := 0) rfl (LoopsOk.none _ _) (F34_b_ok q sz K) hS ha (h34_b q sz (fun u => K (.S u) []) h)
  have ho : op = -1 ∨ op = 0 ∨ op = 1 ∨ op = 2 ∨ op = 3 ∨ op = 4 ∨ op = 5 ∨ op = 6 ∨ op = 7 ∨ op = 8 ∨ op = 9 ∨ op = 10 ∨ op = 11 ∨ op = 12 ∨ op = 13 ∨ op = 14 ∨ op = 15 := by omega
  rcases ho with rfl | rfl | rfl | rfl | rfl | rfl | rfl | rfl | rfl | rfl | rfl | rfl | rfl | rfl | rfl | rfl | rfl
  · exact cbody_use named C0_ok at34 (l := 0) rfl (LoopsOk.none _ _) (F34_m_ok sz K) hS ha (by rw [regI_out (by omega)] at h; exact h)
  · exact cbody_use named C0_ok at34 (l := 0) rfl (LoopsOk.none _ _) (F34_0_ok sz K) hS ha (h34_0 sz (fun u => K (.S u) []) h)
  · exact cbody_use named C0_ok at34 (l := 0) rfl (LoopsOk.none _ _) (F34_1_ok sz K) hS ha (h34_1 sz (fun u => K (.S u) []) h)
  · exact cbody_use named C0_ok at34 (l := 0) rfl (LoopsOk.none _ _) (F34_2_ok sz K) hS ha (h34_2 sz (fun u => K (.S u) []) h)
  · exact cbody_use named C0_ok at34 (l := 0) rfl (LoopsOk.none _ _) (F34_3_ok sz K) hS ha (h34_3 sz (fun u => K (.S u) []) h)
  · exact cbody_use named C0_ok at34 (l := 0) rfl (LoopsOk.none _ _) (F34_4_ok sz K) hS ha (h34_4 sz (fun u => K (.S u) []) h)
  · exact cbody_use named C0_ok at34 (l := 0) rfl (LoopsOk.none _ _) (F34_5_ok sz K) hS ha (h34_5 sz (fun u => K (.S u) []) h)
  · exact cbody_use named C0_ok at34 (l := 0) rfl (LoopsOk.none _ _) (F34_6_ok sz K) hS ha (h34_6 sz (fun u => K (.S u) []) h)
  · exact cbody_use named C0_ok at34 (l := 0) rfl (LoopsOk.none _ _) (F34_7_ok sz K) hS ha (h34_7 sz (fun u => K (.S u) []) h)
  · exact cbody_use named C0_ok at34 (l := 0) rfl (LoopsOk.none _ _) (F34_8_ok sz K) hS ha (h34_8 sz (fun u => K (.S u) []) h)
  · exact cbody_use named C0_ok at34 (l := 0) rfl (LoopsOk.none _ _) (F34_9_ok sz K) hS ha (h34_9 sz (fun u => K (.S u) []) h)
  · exact cbody_use named C0_ok at34 (l := 0) rfl (LoopsOk.none _ _) (F34_10_ok sz K) hS ha (h34_10 sz (fun u => K (.S u) []) h)
  · exact cbody_use named C0_ok at34 (l := 0) rfl (LoopsOk.none _ _) (F34_11_ok sz K) hS ha (h34_11 sz (fun u => K (.S u) []) h)
  · exact cbody_use named C0_ok at34 (l := 0) rfl (LoopsOk.none _ _) (F34_12_ok sz K) hS ha (h34_12 sz (fun u => K (.S u) []) h)
  · exact cbody_use named C0_ok at34 (l := 0) rfl (LoopsOk.none _ _) (F34_13_ok sz K) hS ha (h34_13 sz (fun u => K (.S u) []) h)
  · exact cbody_use named C0_ok at34 (l := 0) rfl (LoopsOk.none _ _) (F34_14_ok sz K) hS ha (h34_14 sz (fun u => K (.S u) []) h)
  · exact cbody_use named C0_ok at34 (l := 0) rfl (LoopsOk.none _ _) (F34_15_ok sz K) hS ha (h34_15 sz (fun u => K (.S u) []) h)

def P34 : Prim := fun args m K =>
  let F := False
  (seeCons args F fun a1 q2 => (seeI .i64 a1 F fun op => (seeCons q2 F fun a3 q4 => (seeI .i64 a3 F fun sz => (seeNil q4 F (seeNil m F (K (.S (regI op sz)) [])))))))
theorem P34_ok : PrimOk Tryz.prog 34 P34 := by
  intro args m K E w cargs hS ha h
  unfold P34 at h
  dsimp only at h
  replace h := seeCons_use h
  rcases h with h | ⟨a1, q2, rfl, h⟩
  · exact h.elim
  replace h := seeI_use h
  rcases h with h | ⟨op, rfl, h⟩
  · exact h.elim
  replace h := seeCons_use h
  rcases h with h | ⟨a3, q4, rfl, h⟩
  · exact h.elim
  replace h := seeI_use h
  rcases h with h | ⟨sz, rfl, h⟩
  · exact h.elim
  replace h := seeNil_use h
  rcases h with h | ⟨rfl, h⟩
  · exact h.elim
  replace h := seeNil_use h
  rcases h with h | ⟨rfl, h⟩
  · exact h.elim
  exact H34 op sz hS ha h
end Go.Proofs.YtkbijhfikkjhpaaGreatDoor.frm
