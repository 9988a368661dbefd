import Derived.Test.YtkbijhfikkjhpaaGreatDoorFrmNs
set_option linter.unusedVariables false
set_option linter.unusedSimpArgs false
set_option maxHeartbeats 4000000
set_option maxRecDepth 100000
namespace Go.Proofs.YtkbijhfikkjhpaaGreatDoor.frm
open Go Go.Ab
def F10_z (op sz cd : Int) (k1 : List Int → Prop) : Prop :=
  (bif (decide (op < 1)) then (k1 ([] : List Int)) else (bif (decide (op > 35)) then (k1 ([] : List Int)) else (bif (decide (cd < 0)) then (k1 ([] : List Int)) else (bif (decide (cd > 15)) then (k1 ([] : List Int)) else False))))
theorem F10_z_ok (op sz cd : Int) (K : V → Mem → Prop) : cbody Tryz.prog Cz (fun _ => none) 1000 (fnOf Tryz.prog 10) [(.I .i64 op), (.I .i64 sz), (.I .i64 cd)] [] K = F10_z op sz cd (fun u => K (.S u) []) := by kernel_rfl
theorem h10_z (op sz cd : Int) (k1 : List Int → Prop) (hx : op < 1 ∨ op > 35 ∨ cd < 0 ∨ cd > 15) (h : k1 (nameI op sz cd)) : F10_z op sz cd k1 := by
  rw [nameI_out hx] at h
  unfold F10_z
  (repeat' refine cond_ind (fun _ => ?_) (fun _ => ?_)) <;> first | exact h | (exfalso; simp_all; omega)
def F10_1 (sz cd : Int) (k1 : List Int → Prop) : Prop :=
  (bif (decide (cd < 0)) then (k1 ([] : List Int)) else (bif (decide (cd > 15)) then (k1 ([] : List Int)) else (bif (sz == 1) then (bif (cd != 0) then (k1 ([] : List Int)) else (k1 ([109, 111, 118, 98] : List Int))) else (bif (sz == 4) then (bif (cd != 0) then (k1 ([] : List Int)) else (k1 ([109, 111, 118, 108] : List Int))) else (bif (sz == 8) then (bif (cd != 0) then (k1 ([] : List Int)) else (k1 ([109, 111, 118, 113] : List Int))) else (k1 ([] : List Int)))))))
theorem F10_1_ok (sz cd : Int) (K : V → Mem → Prop) : cbody Tryz.prog C0 (fun _ => none) 1000 (fnOf Tryz.prog 10) [(.I .i64 1), (.I .i64 sz), (.I .i64 cd)] [] K = F10_1 sz cd (fun u => K (.S u) []) := by kernel_rfl
theorem h10_1 (sz cd : Int) (k1 : List Int → Prop) (h : k1 (nameI 1 sz cd)) : F10_1 sz cd k1 := by
  have e : nameI 1 sz cd = nmR [([109, 111, 118, 98], 1, 0), ([109, 111, 118, 108], 4, 0), ([109, 111, 118, 113], 8, 0)] sz cd := rfl
  rw [e] at h
  clear e
  cases a1 : (sz == 1) <;> cases a4 : (sz == 4) <;> cases a8 : (sz == 8) <;> cases a0 : (sz == 0) <;> cases c0 : (cd == 0) <;> simp_all [-beq_eq_false_iff_ne, F10_1, nmR, bne]
def F10_2 (sz cd : Int) (k1 : List Int → Prop) : Prop :=
  (bif (decide (cd < 0)) then (k1 ([] : List Int)) else (bif (decide (cd > 15)) then (k1 ([] : List Int)) else (bif (sz == 1) then (k1 ([] : List Int)) else (bif (sz == 4) then (bif (cd != 0) then (k1 ([] : List Int)) else (k1 ([108, 101, 97, 108] : List Int))) else (bif (sz == 8) then (bif (cd != 0) then (k1 ([] : List Int)) else (k1 ([108, 101, 97, 113] : List Int))) else (k1 ([] : List Int)))))))
theorem F10_2_ok (sz cd : Int) (K : V → Mem → Prop) : cbody Tryz.prog C0 (fun _ => none) 1000 (fnOf Tryz.prog 10) [(.I .i64 2), (.I .i64 sz), (.I .i64 cd)] [] K = F10_2 sz cd (fun u => K (.S u) []) := by kernel_rfl
theorem h10_2 (sz cd : Int) (k1 : List Int → Prop) (h : k1 (nameI 2 sz cd)) : F10_2 sz cd k1 := by
  have e : nameI 2 sz cd = nmR [([108, 101, 97, 108], 4, 0), ([108, 101, 97, 113], 8, 0)] sz cd := rfl
  rw [e] at h
  clear e
  cases a1 : (sz == 1) <;> cases a4 : (sz == 4) <;> cases a8 : (sz == 8) <;> cases a0 : (sz == 0) <;> cases c0 : (cd == 0) <;> simp_all [-beq_eq_false_iff_ne, F10_2, nmR, bne]
def F10_3 (sz cd : Int) (k1 : List Int → Prop) : Prop :=
  (bif (decide (cd < 0)) then (k1 ([] : List Int)) else (bif (decide (cd > 15)) then (k1 ([] : List Int)) else (bif (sz == 1) then (bif (cd != 0) then (k1 ([] : List Int)) else (k1 ([97, 100, 100, 98] : List Int))) else (bif (sz == 4) then (bif (cd != 0) then (k1 ([] : List Int)) else (k1 ([97, 100, 100, 108] : List Int))) else (bif (sz == 8) then (bif (cd != 0) then (k1 ([] : List Int)) else (k1 ([97, 100, 100, 113] : List Int))) else (k1 ([] : List Int)))))))
theorem F10_3_ok (sz cd : Int) (K : V → Mem → Prop) : cbody Tryz.prog C0 (fun _ => none) 1000 (fnOf Tryz.prog 10) [(.I .i64 3), (.I .i64 sz), (.I .i64 cd)] [] K = F10_3 sz cd (fun u => K (.S u) []) := by kernel_rfl
theorem h10_3 (sz cd : Int) (k1 : List Int → Prop) (h : k1 (nameI 3 sz cd)) : F10_3 sz cd k1 := by
  have e : nameI 3 sz cd = nmR [([97, 100, 100, 98], 1, 0), ([97, 100, 100, 108], 4, 0), ([97, 100, 100, 113], 8, 0)] sz cd := rfl
  rw [e] at h
  clear e
  cases a1 : (sz == 1) <;> cases a4 : (sz == 4) <;> cases a8 : (sz == 8) <;> cases a0 : (sz == 0) <;> cases c0 : (cd == 0) <;> simp_all [-beq_eq_false_iff_ne, F10_3, nmR, bne]
def F10_4 (sz cd : Int) (k1 : List Int → Prop) : Prop :=
  (bif (decide (cd < 0)) then (k1 ([] : List Int)) else (bif (decide (cd > 15)) then (k1 ([] : List Int)) else (bif (sz == 1) then (bif (cd != 0) then (k1 ([] : List Int)) else (k1 ([111, 114, 98] : List Int))) else (bif (sz == 4) then (bif (cd != 0) then (k1 ([] : List Int)) else (k1 ([111, 114, 108] : List Int))) else (bif (sz == 8) then (bif (cd != 0) then (k1 ([] : List Int)) else (k1 ([111, 114, 113] : List Int))) else (k1 ([] : List Int)))))))
theorem F10_4_ok (sz cd : Int) (K : V → Mem → Prop) : cbody Tryz.prog C0 (fun _ => none) 1000 (fnOf Tryz.prog 10) [(.I .i64 4), (.I .i64 sz), (.I .i64 cd)] [] K = F10_4 sz cd (fun u => K (.S u) []) := by kernel_rfl
theorem h10_4 (sz cd : Int) (k1 : List Int → Prop) (h : k1 (nameI 4 sz cd)) : F10_4 sz cd k1 := by
  have e : nameI 4 sz cd = nmR [([111, 114, 98], 1, 0), ([111, 114, 108], 4, 0), ([111, 114, 113], 8, 0)] sz cd := rfl
  rw [e] at h
  clear e
  cases a1 : (sz == 1) <;> cases a4 : (sz == 4) <;> cases a8 : (sz == 8) <;> cases a0 : (sz == 0) <;> cases c0 : (cd == 0) <;> simp_all [-beq_eq_false_iff_ne, F10_4, nmR, bne]
def F10_5 (sz cd : Int) (k1 : List Int → Prop) : Prop :=
  (bif (decide (cd < 0)) then (k1 ([] : List Int)) else (bif (decide (cd > 15)) then (k1 ([] : List Int)) else (bif (sz == 1) then (bif (cd != 0) then (k1 ([] : List Int)) else (k1 ([97, 100, 99, 98] : List Int))) else (bif (sz == 4) then (bif (cd != 0) then (k1 ([] : List Int)) else (k1 ([97, 100, 99, 108] : List Int))) else (bif (sz == 8) then (bif (cd != 0) then (k1 ([] : List Int)) else (k1 ([97, 100, 99, 113] : List Int))) else (k1 ([] : List Int)))))))
theorem F10_5_ok (sz cd : Int) (K : V → Mem → Prop) : cbody Tryz.prog C0 (fun _ => none) 1000 (fnOf Tryz.prog 10) [(.I .i64 5), (.I .i64 sz), (.I .i64 cd)] [] K = F10_5 sz cd (fun u => K (.S u) []) := by kernel_rfl
theorem h10_5 (sz cd : Int) (k1 : List Int → Prop) (h : k1 (nameI 5 sz cd)) : F10_5 sz cd k1 := by
  have e : nameI 5 sz cd = nmR [([97, 100, 99, 98], 1, 0), ([97, 100, 99, 108], 4, 0), ([97, 100, 99, 113], 8, 0)] sz cd := rfl
  rw [e] at h
  clear e
  cases a1 : (sz == 1) <;> cases a4 : (sz == 4) <;> cases a8 : (sz == 8) <;> cases a0 : (sz == 0) <;> cases c0 : (cd == 0) <;> simp_all [-beq_eq_false_iff_ne, F10_5, nmR, bne]
def F10_6 (sz cd : Int) (k1 : List Int → Prop) : Prop :=
  (bif (decide (cd < 0)) then (k1 ([] : List Int)) else (bif (decide (cd > 15)) then (k1 ([] : List Int)) else (bif (sz == 1) then (bif (cd != 0) then (k1 ([] : List Int)) else (k1 ([115, 98, 98, 98] : List Int))) else (bif (sz == 4) then (bif (cd != 0) then (k1 ([] : List Int)) else (k1 ([115, 98, 98, 108] : List Int))) else (bif (sz == 8) then (bif (cd != 0) then (k1 ([] : List Int)) else (k1 ([115, 98, 98, 113] : List Int))) else (k1 ([] : List Int)))))))
theorem F10_6_ok (sz cd : Int) (K : V → Mem → Prop) : cbody Tryz.prog C0 (fun _ => none) 1000 (fnOf Tryz.prog 10) [(.I .i64 6), (.I .i64 sz), (.I .i64 cd)] [] K = F10_6 sz cd (fun u => K (.S u) []) := by kernel_rfl
theorem h10_6 (sz cd : Int) (k1 : List Int → Prop) (h : k1 (nameI 6 sz cd)) : F10_6 sz cd k1 := by
  have e : nameI 6 sz cd = nmR [([115, 98, 98, 98], 1, 0), ([115, 98, 98, 108], 4, 0), ([115, 98, 98, 113], 8, 0)] sz cd := rfl
  rw [e] at h
  clear e
  cases a1 : (sz == 1) <;> cases a4 : (sz == 4) <;> cases a8 : (sz == 8) <;> cases a0 : (sz == 0) <;> cases c0 : (cd == 0) <;> simp_all [-beq_eq_false_iff_ne, F10_6, nmR, bne]
def F10_7 (sz cd : Int) (k1 : List Int → Prop) : Prop :=
  (bif (decide (cd < 0)) then (k1 ([] : List Int)) else (bif (decide (cd > 15)) then (k1 ([] : List Int)) else (bif (sz == 1) then (bif (cd != 0) then (k1 ([] : List Int)) else (k1 ([97, 110, 100, 98] : List Int))) else (bif (sz == 4) then (bif (cd != 0) then (k1 ([] : List Int)) else (k1 ([97, 110, 100, 108] : List Int))) else (bif (sz == 8) then (bif (cd != 0) then (k1 ([] : List Int)) else (k1 ([97, 110, 100, 113] : List Int))) else (k1 ([] : List Int)))))))
theorem F10_7_ok (sz cd : Int) (K : V → Mem → Prop) : cbody Tryz.prog C0 (fun _ => none) 1000 (fnOf Tryz.prog 10) [(.I .i64 7), (.I .i64 sz), (.I .i64 cd)] [] K = F10_7 sz cd (fun u => K (.S u) []) := by kernel_rfl
theorem h10_7 (sz cd : Int) (k1 : List Int → Prop) (h : k1 (nameI 7 sz cd)) : F10_7 sz cd k1 := by
  have e : nameI 7 sz cd = nmR [([97, 110, 100, 98], 1, 0), ([97, 110, 100, 108], 4, 0), ([97, 110, 100, 113], 8, 0)] sz cd := rfl
  rw [e] at h
  clear e
  cases a1 : (sz == 1) <;> cases a4 : (sz == 4) <;> cases a8 : (sz == 8) <;> cases a0 : (sz == 0) <;> cases c0 : (cd == 0) <;> simp_all [-beq_eq_false_iff_ne, F10_7, nmR, bne]
def F10_8 (sz cd : Int) (k1 : List Int → Prop) : Prop :=
  (bif (decide (cd < 0)) then (k1 ([] : List Int)) else (bif (decide (cd > 15)) then (k1 ([] : List Int)) else (bif (sz == 1) then (bif (cd != 0) then (k1 ([] : List Int)) else (k1 ([115, 117, 98, 98] : List Int))) else (bif (sz == 4) then (bif (cd != 0) then (k1 ([] : List Int)) else (k1 ([115, 117, 98, 108] : List Int))) else (bif (sz == 8) then (bif (cd != 0) then (k1 ([] : List Int)) else (k1 ([115, 117, 98, 113] : List Int))) else (k1 ([] : List Int)))))))
theorem F10_8_ok (sz cd : Int) (K : V → Mem → Prop) : cbody Tryz.prog C0 (fun _ => none) 1000 (fnOf Tryz.prog 10) [(.I .i64 8), (.I .i64 sz), (.I .i64 cd)] [] K = F10_8 sz cd (fun u => K (.S u) []) := by kernel_rfl
theorem h10_8 (sz cd : Int) (k1 : List Int → Prop) (h : k1 (nameI 8 sz cd)) : F10_8 sz cd k1 := by
  have e : nameI 8 sz cd = nmR [([115, 117, 98, 98], 1, 0), ([115, 117, 98, 108], 4, 0), ([115, 117, 98, 113], 8, 0)] sz cd := rfl
  rw [e] at h
  clear e
  cases a1 : (sz == 1) <;> cases a4 : (sz == 4) <;> cases a8 : (sz == 8) <;> cases a0 : (sz == 0) <;> cases c0 : (cd == 0) <;> simp_all [-beq_eq_false_iff_ne, F10_8, nmR, bne]
def F10_9 (sz cd : Int) (k1 : List Int → Prop) : Prop :=
  (bif (decide (cd < 0)) then (k1 ([] : List Int)) else (bif (decide (cd > 15)) then (k1 ([] : List Int)) else (bif (sz == 1) then (bif (cd != 0) then (k1 ([] : List Int)) else (k1 ([120, 111, 114, 98] : List Int))) else (bif (sz == 4) then (bif (cd != 0) then (k1 ([] : List Int)) else (k1 ([120, 111, 114, 108] : List Int))) else (bif (sz == 8) then (bif (cd != 0) then (k1 ([] : List Int)) else (k1 ([120, 111, 114, 113] : List Int))) else (k1 ([] : List Int)))))))
theorem F10_9_ok (sz cd : Int) (K : V → Mem → Prop) : cbody Tryz.prog C0 (fun _ => none) 1000 (fnOf Tryz.prog 10) [(.I .i64 9), (.I .i64 sz), (.I .i64 cd)] [] K = F10_9 sz cd (fun u => K (.S u) []) := by kernel_rfl
theorem h10_9 (sz cd : Int) (k1 : List Int → Prop) (h : k1 (nameI 9 sz cd)) : F10_9 sz cd k1 := by
  have e : nameI 9 sz cd = nmR [([120, 111, 114, 98], 1, 0), ([120, 111, 114, 108], 4, 0), ([120, 111, 114, 113], 8, 0)] sz cd := rfl
  rw [e] at h
  clear e
  cases a1 : (sz == 1) <;> cases a4 : (sz == 4) <;> cases a8 : (sz == 8) <;> cases a0 : (sz == 0) <;> cases c0 : (cd == 0) <;> simp_all [-beq_eq_false_iff_ne, F10_9, nmR, bne]
def F10_10 (sz cd : Int) (k1 : List Int → Prop) : Prop :=
  (bif (decide (cd < 0)) then (k1 ([] : List Int)) else (bif (decide (cd > 15)) then (k1 ([] : List Int)) else (bif (sz == 1) then (bif (cd != 0) then (k1 ([] : List Int)) else (k1 ([99, 109, 112, 98] : List Int))) else (bif (sz == 4) then (bif (cd != 0) then (k1 ([] : List Int)) else (k1 ([99, 109, 112, 108] : List Int))) else (bif (sz == 8) then (bif (cd != 0) then (k1 ([] : List Int)) else (k1 ([99, 109, 112, 113] : List Int))) else (k1 ([] : List Int)))))))
theorem F10_10_ok (sz cd : Int) (K : V → Mem → Prop) : cbody Tryz.prog C0 (fun _ => none) 1000 (fnOf Tryz.prog 10) [(.I .i64 10), (.I .i64 sz), (.I .i64 cd)] [] K = F10_10 sz cd (fun u => K (.S u) []) := by kernel_rfl
theorem h10_10 (sz cd : Int) (k1 : List Int → Prop) (h : k1 (nameI 10 sz cd)) : F10_10 sz cd k1 := by
  have e : nameI 10 sz cd = nmR [([99, 109, 112, 98], 1, 0), ([99, 109, 112, 108], 4, 0), ([99, 109, 112, 113], 8, 0)] sz cd := rfl
  rw [e] at h
  clear e
  cases a1 : (sz == 1) <;> cases a4 : (sz == 4) <;> cases a8 : (sz == 8) <;> cases a0 : (sz == 0) <;> cases c0 : (cd == 0) <;> simp_all [-beq_eq_false_iff_ne, F10_10, nmR, bne]
def F10_11 (sz cd : Int) (k1 : List Int → Prop) : Prop :=
  (bif (decide (cd < 0)) then (k1 ([] : List Int)) else (bif (decide (cd > 15)) then (k1 ([] : List Int)) else (bif (sz == 1) then (bif (cd != 0) then (k1 ([] : List Int)) else (k1 ([116, 101, 115, 116, 98] : List Int))) else (bif (sz == 4) then (bif (cd != 0) then (k1 ([] : List Int)) else (k1 ([116, 101, 115, 116, 108] : List Int))) else (bif (sz == 8) then (bif (cd != 0) then (k1 ([] : List Int)) else (k1 ([116, 101, 115, 116, 113] : List Int))) else (k1 ([] : List Int)))))))
theorem F10_11_ok (sz cd : Int) (K : V → Mem → Prop) : cbody Tryz.prog C0 (fun _ => none) 1000 (fnOf Tryz.prog 10) [(.I .i64 11), (.I .i64 sz), (.I .i64 cd)] [] K = F10_11 sz cd (fun u => K (.S u) []) := by kernel_rfl
theorem h10_11 (sz cd : Int) (k1 : List Int → Prop) (h : k1 (nameI 11 sz cd)) : F10_11 sz cd k1 := by
  have e : nameI 11 sz cd = nmR [([116, 101, 115, 116, 98], 1, 0), ([116, 101, 115, 116, 108], 4, 0), ([116, 101, 115, 116, 113], 8, 0)] sz cd := rfl
  rw [e] at h
  clear e
  cases a1 : (sz == 1) <;> cases a4 : (sz == 4) <;> cases a8 : (sz == 8) <;> cases a0 : (sz == 0) <;> cases c0 : (cd == 0) <;> simp_all [-beq_eq_false_iff_ne, F10_11, nmR, bne]
def F10_12 (sz cd : Int) (k1 : List Int → Prop) : Prop :=
  (bif (decide (cd < 0)) then (k1 ([] : List Int)) else (bif (decide (cd > 15)) then (k1 ([] : List Int)) else (bif (sz == 1) then (k1 ([] : List Int)) else (bif (sz == 4) then (bif (cd != 0) then (k1 ([] : List Int)) else (k1 ([105, 109, 117, 108, 108] : List Int))) else (bif (sz == 8) then (bif (cd != 0) then (k1 ([] : List Int)) else (k1 ([105, 109, 117, 108, 113] : List Int))) else (k1 ([] : List Int)))))))
theorem F10_12_ok (sz cd : Int) (K : V → Mem → Prop) : cbody Tryz.prog C0 (fun _ => none) 1000 (fnOf Tryz.prog 10) [(.I .i64 12), (.I .i64 sz), (.I .i64 cd)] [] K = F10_12 sz cd (fun u => K (.S u) []) := by kernel_rfl
theorem h10_12 (sz cd : Int) (k1 : List Int → Prop) (h : k1 (nameI 12 sz cd)) : F10_12 sz cd k1 := by
  have e : nameI 12 sz cd = nmR [([105, 109, 117, 108, 108], 4, 0), ([105, 109, 117, 108, 113], 8, 0)] sz cd := rfl
  rw [e] at h
  clear e
  cases a1 : (sz == 1) <;> cases a4 : (sz == 4) <;> cases a8 : (sz == 8) <;> cases a0 : (sz == 0) <;> cases c0 : (cd == 0) <;> simp_all [-beq_eq_false_iff_ne, F10_12, nmR, bne]
def F10_13 (sz cd : Int) (k1 : List Int → Prop) : Prop :=
  (bif (decide (cd < 0)) then (k1 ([] : List Int)) else (bif (decide (cd > 15)) then (k1 ([] : List Int)) else (bif (sz == 1) then (bif (cd != 0) then (k1 ([] : List Int)) else (k1 ([110, 101, 103, 98] : List Int))) else (bif (sz == 4) then (bif (cd != 0) then (k1 ([] : List Int)) else (k1 ([110, 101, 103, 108] : List Int))) else (bif (sz == 8) then (bif (cd != 0) then (k1 ([] : List Int)) else (k1 ([110, 101, 103, 113] : List Int))) else (k1 ([] : List Int)))))))
theorem F10_13_ok (sz cd : Int) (K : V → Mem → Prop) : cbody Tryz.prog C0 (fun _ => none) 1000 (fnOf Tryz.prog 10) [(.I .i64 13), (.I .i64 sz), (.I .i64 cd)] [] K = F10_13 sz cd (fun u => K (.S u) []) := by kernel_rfl
theorem h10_13 (sz cd : Int) (k1 : List Int → Prop) (h : k1 (nameI 13 sz cd)) : F10_13 sz cd k1 := by
  have e : nameI 13 sz cd = nmR [([110, 101, 103, 98], 1, 0), ([110, 101, 103, 108], 4, 0), ([110, 101, 103, 113], 8, 0)] sz cd := rfl
  rw [e] at h
  clear e
  cases a1 : (sz == 1) <;> cases a4 : (sz == 4) <;> cases a8 : (sz == 8) <;> cases a0 : (sz == 0) <;> cases c0 : (cd == 0) <;> simp_all [-beq_eq_false_iff_ne, F10_13, nmR, bne]
def F10_14 (sz cd : Int) (k1 : List Int → Prop) : Prop :=
  (bif (decide (cd < 0)) then (k1 ([] : List Int)) else (bif (decide (cd > 15)) then (k1 ([] : List Int)) else (bif (sz == 1) then (bif (cd != 0) then (k1 ([] : List Int)) else (k1 ([110, 111, 116, 98] : List Int))) else (bif (sz == 4) then (bif (cd != 0) then (k1 ([] : List Int)) else (k1 ([110, 111, 116, 108] : List Int))) else (bif (sz == 8) then (bif (cd != 0) then (k1 ([] : List Int)) else (k1 ([110, 111, 116, 113] : List Int))) else (k1 ([] : List Int)))))))
theorem F10_14_ok (sz cd : Int) (K : V → Mem → Prop) : cbody Tryz.prog C0 (fun _ => none) 1000 (fnOf Tryz.prog 10) [(.I .i64 14), (.I .i64 sz), (.I .i64 cd)] [] K = F10_14 sz cd (fun u => K (.S u) []) := by kernel_rfl
theorem h10_14 (sz cd : Int) (k1 : List Int → Prop) (h : k1 (nameI 14 sz cd)) : F10_14 sz cd k1 := by
  have e : nameI 14 sz cd = nmR [([110, 111, 116, 98], 1, 0), ([110, 111, 116, 108], 4, 0), ([110, 111, 116, 113], 8, 0)] sz cd := rfl
  rw [e] at h
  clear e
  cases a1 : (sz == 1) <;> cases a4 : (sz == 4) <;> cases a8 : (sz == 8) <;> cases a0 : (sz == 0) <;> cases c0 : (cd == 0) <;> simp_all [-beq_eq_false_iff_ne, F10_14, nmR, bne]
def F10_15 (sz cd : Int) (k1 : List Int → Prop) : Prop :=
  (bif (decide (cd < 0)) then (k1 ([] : List Int)) else (bif (decide (cd > 15)) then (k1 ([] : List Int)) else (bif (sz == 1) then (bif (cd != 0) then (k1 ([] : List Int)) else (k1 ([105, 110, 99, 98] : List Int))) else (bif (sz == 4) then (bif (cd != 0) then (k1 ([] : List Int)) else (k1 ([105, 110, 99, 108] : List Int))) else (bif (sz == 8) then (bif (cd != 0) then (k1 ([] : List Int)) else (k1 ([105, 110, 99, 113] : List Int))) else (k1 ([] : List Int)))))))
theorem F10_15_ok (sz cd : Int) (K : V → Mem → Prop) : cbody Tryz.prog C0 (fun _ => none) 1000 (fnOf Tryz.prog 10) [(.I .i64 15), (.I .i64 sz), (.I .i64 cd)] [] K = F10_15 sz cd (fun u => K (.S u) []) := by kernel_rfl
theorem h10_15 (sz cd : Int) (k1 : List Int → Prop) (h : k1 (nameI 15 sz cd)) : F10_15 sz cd k1 := by
  have e : nameI 15 sz cd = nmR [([105, 110, 99, 98], 1, 0), ([105, 110, 99, 108], 4, 0), ([105, 110, 99, 113], 8, 0)] sz cd := rfl
  rw [e] at h
  clear e
  cases a1 : (sz == 1) <;> cases a4 : (sz == 4) <;> cases a8 : (sz == 8) <;> cases a0 : (sz == 0) <;> cases c0 : (cd == 0) <;> simp_all [-beq_eq_false_iff_ne, F10_15, nmR, bne]
def F10_16 (sz cd : Int) (k1 : List Int → Prop) : Prop :=
  (bif (decide (cd < 0)) then (k1 ([] : List Int)) else (bif (decide (cd > 15)) then (k1 ([] : List Int)) else (bif (sz == 1) then (bif (cd != 0) then (k1 ([] : List Int)) else (k1 ([100, 101, 99, 98] : List Int))) else (bif (sz == 4) then (bif (cd != 0) then (k1 ([] : List Int)) else (k1 ([100, 101, 99, 108] : List Int))) else (bif (sz == 8) then (bif (cd != 0) then (k1 ([] : List Int)) else (k1 ([100, 101, 99, 113] : List Int))) else (k1 ([] : List Int)))))))
theorem F10_16_ok (sz cd : Int) (K : V → Mem → Prop) : cbody Tryz.prog C0 (fun _ => none) 1000 (fnOf Tryz.prog 10) [(.I .i64 16), (.I .i64 sz), (.I .i64 cd)] [] K = F10_16 sz cd (fun u => K (.S u) []) := by kernel_rfl
theorem h10_16 (sz cd : Int) (k1 : List Int → Prop) (h : k1 (nameI 16 sz cd)) : F10_16 sz cd k1 := by
  have e : nameI 16 sz cd = nmR [([100, 101, 99, 98], 1, 0), ([100, 101, 99, 108], 4, 0), ([100, 101, 99, 113], 8, 0)] sz cd := rfl
  rw [e] at h
  clear e
  cases a1 : (sz == 1) <;> cases a4 : (sz == 4) <;> cases a8 : (sz == 8) <;> cases a0 : (sz == 0) <;> cases c0 : (cd == 0) <;> simp_all [-beq_eq_false_iff_ne, F10_16, nmR, bne]
def F10_17 (sz cd : Int) (k1 : List Int → Prop) : Prop :=
  (bif (decide (cd < 0)) then (k1 ([] : List Int)) else (bif (decide (cd > 15)) then (k1 ([] : List Int)) else (bif (sz == 1) then (bif (cd != 0) then (k1 ([] : List Int)) else (k1 ([115, 104, 108, 98] : List Int))) else (bif (sz == 4) then (bif (cd != 0) then (k1 ([] : List Int)) else (k1 ([115, 104, 108, 108] : List Int))) else (bif (sz == 8) then (bif (cd != 0) then (k1 ([] : List Int)) else (k1 ([115, 104, 108, 113] : List Int))) else (k1 ([] : List Int)))))))
theorem F10_17_ok (sz cd : Int) (K : V → Mem → Prop) : cbody Tryz.prog C0 (fun _ => none) 1000 (fnOf Tryz.prog 10) [(.I .i64 17), (.I .i64 sz), (.I .i64 cd)] [] K = F10_17 sz cd (fun u => K (.S u) []) := by kernel_rfl
theorem h10_17 (sz cd : Int) (k1 : List Int → Prop) (h : k1 (nameI 17 sz cd)) : F10_17 sz cd k1 := by
  have e : nameI 17 sz cd = nmR [([115, 104, 108, 98], 1, 0), ([115, 104, 108, 108], 4, 0), ([115, 104, 108, 113], 8, 0)] sz cd := rfl
  rw [e] at h
  clear e
  cases a1 : (sz == 1) <;> cases a4 : (sz == 4) <;> cases a8 : (sz == 8) <;> cases a0 : (sz == 0) <;> cases c0 : (cd == 0) <;> simp_all [-beq_eq_false_iff_ne, F10_17, nmR, bne]
def F10_18 (sz cd : Int) (k1 : List Int → Prop) : Prop :=
  (bif (decide (cd < 0)) then (k1 ([] : List Int)) else (bif (decide (cd > 15)) then (k1 ([] : List Int)) else (bif (sz == 1) then (bif (cd != 0) then (k1 ([] : List Int)) else (k1 ([115, 104, 114, 98] : List Int))) else (bif (sz == 4) then (bif (cd != 0) then (k1 ([] : List Int)) else (k1 ([115, 104, 114, 108] : List Int))) else (bif (sz == 8) then (bif (cd != 0) then (k1 ([] : List Int)) else (k1 ([115, 104, 114, 113] : List Int))) else (k1 ([] : List Int)))))))
theorem F10_18_ok (sz cd : Int) (K : V → Mem → Prop) : cbody Tryz.prog C0 (fun _ => none) 1000 (fnOf Tryz.prog 10) [(.I .i64 18), (.I .i64 sz), (.I .i64 cd)] [] K = F10_18 sz cd (fun u => K (.S u) []) := by kernel_rfl
theorem h10_18 (sz cd : Int) (k1 : List Int → Prop) (h : k1 (nameI 18 sz cd)) : F10_18 sz cd k1 := by
  have e : nameI 18 sz cd = nmR [([115, 104, 114, 98], 1, 0), ([115, 104, 114, 108], 4, 0), ([115, 104, 114, 113], 8, 0)] sz cd := rfl
  rw [e] at h
  clear e
  cases a1 : (sz == 1) <;> cases a4 : (sz == 4) <;> cases a8 : (sz == 8) <;> cases a0 : (sz == 0) <;> cases c0 : (cd == 0) <;> simp_all [-beq_eq_false_iff_ne, F10_18, nmR, bne]
def F10_19 (sz cd : Int) (k1 : List Int → Prop) : Prop :=
  (bif (decide (cd < 0)) then (k1 ([] : List Int)) else (bif (decide (cd > 15)) then (k1 ([] : List Int)) else (bif (sz == 1) then (bif (cd != 0) then (k1 ([] : List Int)) else (k1 ([115, 97, 114, 98] : List Int))) else (bif (sz == 4) then (bif (cd != 0) then (k1 ([] : List Int)) else (k1 ([115, 97, 114, 108] : List Int))) else (bif (sz == 8) then (bif (cd != 0) then (k1 ([] : List Int)) else (k1 ([115, 97, 114, 113] : List Int))) else (k1 ([] : List Int)))))))
theorem F10_19_ok (sz cd : Int) (K : V → Mem → Prop) : cbody Tryz.prog C0 (fun _ => none) 1000 (fnOf Tryz.prog 10) [(.I .i64 19), (.I .i64 sz), (.I .i64 cd)] [] K = F10_19 sz cd (fun u => K (.S u) []) := by kernel_rfl
theorem h10_19 (sz cd : Int) (k1 : List Int → Prop) (h : k1 (nameI 19 sz cd)) : F10_19 sz cd k1 := by
  have e : nameI 19 sz cd = nmR [([115, 97, 114, 98], 1, 0), ([115, 97, 114, 108], 4, 0), ([115, 97, 114, 113], 8, 0)] sz cd := rfl
  rw [e] at h
  clear e
  cases a1 : (sz == 1) <;> cases a4 : (sz == 4) <;> cases a8 : (sz == 8) <;> cases a0 : (sz == 0) <;> cases c0 : (cd == 0) <;> simp_all [-beq_eq_false_iff_ne, F10_19, nmR, bne]
def F10_20 (sz cd : Int) (k1 : List Int → Prop) : Prop :=
  (bif (decide (cd < 0)) then (k1 ([] : List Int)) else (bif (decide (cd > 15)) then (k1 ([] : List Int)) else (bif (sz == 1) then (k1 ([] : List Int)) else (bif (sz == 4) then (k1 ([] : List Int)) else (bif (sz == 8) then (bif (cd != 0) then (k1 ([] : List Int)) else (k1 ([112, 117, 115, 104, 113] : List Int))) else (k1 ([] : List Int)))))))
theorem F10_20_ok (sz cd : Int) (K : V → Mem → Prop) : cbody Tryz.prog C0 (fun _ => none) 1000 (fnOf Tryz.prog 10) [(.I .i64 20), (.I .i64 sz), (.I .i64 cd)] [] K = F10_20 sz cd (fun u => K (.S u) []) := by kernel_rfl
theorem h10_20 (sz cd : Int) (k1 : List Int → Prop) (h : k1 (nameI 20 sz cd)) : F10_20 sz cd k1 := by
  have e : nameI 20 sz cd = nmR [([112, 117, 115, 104, 113], 8, 0)] sz cd := rfl
  rw [e] at h
  clear e
  cases a1 : (sz == 1) <;> cases a4 : (sz == 4) <;> cases a8 : (sz == 8) <;> cases a0 : (sz == 0) <;> cases c0 : (cd == 0) <;> simp_all [-beq_eq_false_iff_ne, F10_20, nmR, bne]
def F10_21 (sz cd : Int) (k1 : List Int → Prop) : Prop :=
  (bif (decide (cd < 0)) then (k1 ([] : List Int)) else (bif (decide (cd > 15)) then (k1 ([] : List Int)) else (bif (sz == 1) then (k1 ([] : List Int)) else (bif (sz == 4) then (k1 ([] : List Int)) else (bif (sz == 8) then (bif (cd != 0) then (k1 ([] : List Int)) else (k1 ([112, 111, 112, 113] : List Int))) else (k1 ([] : List Int)))))))
theorem F10_21_ok (sz cd : Int) (K : V → Mem → Prop) : cbody Tryz.prog C0 (fun _ => none) 1000 (fnOf Tryz.prog 10) [(.I .i64 21), (.I .i64 sz), (.I .i64 cd)] [] K = F10_21 sz cd (fun u => K (.S u) []) := by kernel_rfl
theorem h10_21 (sz cd : Int) (k1 : List Int → Prop) (h : k1 (nameI 21 sz cd)) : F10_21 sz cd k1 := by
  have e : nameI 21 sz cd = nmR [([112, 111, 112, 113], 8, 0)] sz cd := rfl
  rw [e] at h
  clear e
  cases a1 : (sz == 1) <;> cases a4 : (sz == 4) <;> cases a8 : (sz == 8) <;> cases a0 : (sz == 0) <;> cases c0 : (cd == 0) <;> simp_all [-beq_eq_false_iff_ne, F10_21, nmR, bne]
def F10_22 (sz cd : Int) (k1 : List Int → Prop) : Prop :=
  (bif (decide (cd < 0)) then (k1 ([] : List Int)) else (bif (decide (cd > 15)) then (k1 ([] : List Int)) else (bif (!(sz == 8)) then (k1 ([] : List Int)) else (bif (cd != 0) then (k1 ([] : List Int)) else (k1 ([99, 97, 108, 108] : List Int))))))
theorem F10_22_ok (sz cd : Int) (K : V → Mem → Prop) : cbody Tryz.prog C0 (fun _ => none) 1000 (fnOf Tryz.prog 10) [(.I .i64 22), (.I .i64 sz), (.I .i64 cd)] [] K = F10_22 sz cd (fun u => K (.S u) []) := by kernel_rfl
theorem h10_22 (sz cd : Int) (k1 : List Int → Prop) (h : k1 (nameI 22 sz cd)) : F10_22 sz cd k1 := by
  have e : nameI 22 sz cd = nmR [([99, 97, 108, 108], 8, 0)] sz cd := rfl
  rw [e] at h
  clear e
  cases a1 : (sz == 1) <;> cases a4 : (sz == 4) <;> cases a8 : (sz == 8) <;> cases a0 : (sz == 0) <;> cases c0 : (cd == 0) <;> simp_all [-beq_eq_false_iff_ne, F10_22, nmR, bne]
def F10_23 (sz cd : Int) (k1 : List Int → Prop) : Prop :=
  (bif (decide (cd < 0)) then (k1 ([] : List Int)) else (bif (decide (cd > 15)) then (k1 ([] : List Int)) else (bif (!(sz == 8)) then (k1 ([] : List Int)) else (bif (cd != 0) then (k1 ([] : List Int)) else (k1 ([106, 109, 112] : List Int))))))
theorem F10_23_ok (sz cd : Int) (K : V → Mem → Prop) : cbody Tryz.prog C0 (fun _ => none) 1000 (fnOf Tryz.prog 10) [(.I .i64 23), (.I .i64 sz), (.I .i64 cd)] [] K = F10_23 sz cd (fun u => K (.S u) []) := by kernel_rfl
theorem h10_23 (sz cd : Int) (k1 : List Int → Prop) (h : k1 (nameI 23 sz cd)) : F10_23 sz cd k1 := by
  have e : nameI 23 sz cd = nmR [([106, 109, 112], 8, 0)] sz cd := rfl
  rw [e] at h
  clear e
  cases a1 : (sz == 1) <;> cases a4 : (sz == 4) <;> cases a8 : (sz == 8) <;> cases a0 : (sz == 0) <;> cases c0 : (cd == 0) <;> simp_all [-beq_eq_false_iff_ne, F10_23, nmR, bne]
def F10_24_0 (sz : Int) (k1 : List Int → Prop) : Prop :=
  (bif (!(sz == 8)) then (k1 ([] : List Int)) else (k1 ([106, 111] : List Int)))
theorem F10_24_0_ok (sz : Int) (K : V → Mem → Prop) : cbody Tryz.prog C0 (fun _ => none) 1000 (fnOf Tryz.prog 10) [(.I .i64 24), (.I .i64 sz), (.I .i64 0)] [] K = F10_24_0 sz (fun u => K (.S u) []) := by kernel_rfl
theorem h10_24_0 (sz : Int) (k1 : List Int → Prop) (h : k1 (nameI 24 sz 0)) : F10_24_0 sz k1 := by
  have e : nameI 24 sz 0 = nmR [([106, 111], 8, 0), ([106, 110, 111], 8, 1), ([106, 98], 8, 2), ([106, 97, 101], 8, 3), ([106, 101], 8, 4), ([106, 110, 101], 8, 5), ([106, 98, 101], 8, 6), ([106, 97], 8, 7), ([106, 115], 8, 8), ([106, 110, 115], 8, 9), ([106, 112], 8, 10), ([106, 110, 112], 8, 11), ([106, 108], 8, 12), ([106, 103, 101], 8, 13), ([106, 108, 101], 8, 14), ([106, 103], 8, 15)] sz 0 := rfl
  rw [e] at h
  clear e
  cases a1 : (sz == 1) <;> cases a4 : (sz == 4) <;> cases a8 : (sz == 8) <;> simp_all [-beq_eq_false_iff_ne, F10_24_0, nmR, bne]
def F10_24_1 (sz : Int) (k1 : List Int → Prop) : Prop :=
  (bif (!(sz == 8)) then (k1 ([] : List Int)) else (k1 ([106, 110, 111] : List Int)))
theorem F10_24_1_ok (sz : Int) (K : V → Mem → Prop) : cbody Tryz.prog C0 (fun _ => none) 1000 (fnOf Tryz.prog 10) [(.I .i64 24), (.I .i64 sz), (.I .i64 1)] [] K = F10_24_1 sz (fun u => K (.S u) []) := by kernel_rfl
theorem h10_24_1 (sz : Int) (k1 : List Int → Prop) (h : k1 (nameI 24 sz 1)) : F10_24_1 sz k1 := by
  have e : nameI 24 sz 1 = nmR [([106, 111], 8, 0), ([106, 110, 111], 8, 1), ([106, 98], 8, 2), ([106, 97, 101], 8, 3), ([106, 101], 8, 4), ([106, 110, 101], 8, 5), ([106, 98, 101], 8, 6), ([106, 97], 8, 7), ([106, 115], 8, 8), ([106, 110, 115], 8, 9), ([106, 112], 8, 10), ([106, 110, 112], 8, 11), ([106, 108], 8, 12), ([106, 103, 101], 8, 13), ([106, 108, 101], 8, 14), ([106, 103], 8, 15)] sz 1 := rfl
  rw [e] at h
  clear e
  cases a1 : (sz == 1) <;> cases a4 : (sz == 4) <;> cases a8 : (sz == 8) <;> simp_all [-beq_eq_false_iff_ne, F10_24_1, nmR, bne]
def F10_24_2 (sz : Int) (k1 : List Int → Prop) : Prop :=
  (bif (!(sz == 8)) then (k1 ([] : List Int)) else (k1 ([106, 98] : List Int)))
theorem F10_24_2_ok (sz : Int) (K : V → Mem → Prop) : cbody Tryz.prog C0 (fun _ => none) 1000 (fnOf Tryz.prog 10) [(.I .i64 24), (.I .i64 sz), (.I .i64 2)] [] K = F10_24_2 sz (fun u => K (.S u) []) := by kernel_rfl
theorem h10_24_2 (sz : Int) (k1 : List Int → Prop) (h : k1 (nameI 24 sz 2)) : F10_24_2 sz k1 := by
  have e : nameI 24 sz 2 = nmR [([106, 111], 8, 0), ([106, 110, 111], 8, 1), ([106, 98], 8, 2), ([106, 97, 101], 8, 3), ([106, 101], 8, 4), ([106, 110, 101], 8, 5), ([106, 98, 101], 8, 6), ([106, 97], 8, 7), ([106, 115], 8, 8), ([106, 110, 115], 8, 9), ([106, 112], 8, 10), ([106, 110, 112], 8, 11), ([106, 108], 8, 12), ([106, 103, 101], 8, 13), ([106, 108, 101], 8, 14), ([106, 103], 8, 15)] sz 2 := rfl
  rw [e] at h
  clear e
  cases a1 : (sz == 1) <;> cases a4 : (sz == 4) <;> cases a8 : (sz == 8) <;> simp_all [-beq_eq_false_iff_ne, F10_24_2, nmR, bne]
def F10_24_3 (sz : Int) (k1 : List Int → Prop) : Prop :=
  (bif (!(sz == 8)) then (k1 ([] : List Int)) else (k1 ([106, 97, 101] : List Int)))
theorem F10_24_3_ok (sz : Int) (K : V → Mem → Prop) : cbody Tryz.prog C0 (fun _ => none) 1000 (fnOf Tryz.prog 10) [(.I .i64 24), (.I .i64 sz), (.I .i64 3)] [] K = F10_24_3 sz (fun u => K (.S u) []) := by kernel_rfl
theorem h10_24_3 (sz : Int) (k1 : List Int → Prop) (h : k1 (nameI 24 sz 3)) : F10_24_3 sz k1 := by
  have e : nameI 24 sz 3 = nmR [([106, 111], 8, 0), ([106, 110, 111], 8, 1), ([106, 98], 8, 2), ([106, 97, 101], 8, 3), ([106, 101], 8, 4), ([106, 110, 101], 8, 5), ([106, 98, 101], 8, 6), ([106, 97], 8, 7), ([106, 115], 8, 8), ([106, 110, 115], 8, 9), ([106, 112], 8, 10), ([106, 110, 112], 8, 11), ([106, 108], 8, 12), ([106, 103, 101], 8, 13), ([106, 108, 101], 8, 14), ([106, 103], 8, 15)] sz 3 := rfl
  rw [e] at h
  clear e
  cases a1 : (sz == 1) <;> cases a4 : (sz == 4) <;> cases a8 : (sz == 8) <;> simp_all [-beq_eq_false_iff_ne, F10_24_3, nmR, bne]
def F10_24_4 (sz : Int) (k1 : List Int → Prop) : Prop :=
  (bif (!(sz == 8)) then (k1 ([] : List Int)) else (k1 ([106, 101] : List Int)))
theorem F10_24_4_ok (sz : Int) (K : V → Mem → Prop) : cbody Tryz.prog C0 (fun _ => none) 1000 (fnOf Tryz.prog 10) [(.I .i64 24), (.I .i64 sz), (.I .i64 4)] [] K = F10_24_4 sz (fun u => K (.S u) []) := by kernel_rfl
theorem h10_24_4 (sz : Int) (k1 : List Int → Prop) (h : k1 (nameI 24 sz 4)) : F10_24_4 sz k1 := by
  have e : nameI 24 sz 4 = nmR [([106, 111], 8, 0), ([106, 110, 111], 8, 1), ([106, 98], 8, 2), ([106, 97, 101], 8, 3), ([106, 101], 8, 4), ([106, 110, 101], 8, 5), ([106, 98, 101], 8, 6), ([106, 97], 8, 7), ([106, 115], 8, 8), ([106, 110, 115], 8, 9), ([106, 112], 8, 10), ([106, 110, 112], 8, 11), ([106, 108], 8, 12), ([106, 103, 101], 8, 13), ([106, 108, 101], 8, 14), ([106, 103], 8, 15)] sz 4 := rfl
  rw [e] at h
  clear e
  cases a1 : (sz == 1) <;> cases a4 : (sz == 4) <;> cases a8 : (sz == 8) <;> simp_all [-beq_eq_false_iff_ne, F10_24_4, nmR, bne]
def F10_24_5 (sz : Int) (k1 : List Int → Prop) : Prop :=
  (bif (!(sz == 8)) then (k1 ([] : List Int)) else (k1 ([106, 110, 101] : List Int)))
theorem F10_24_5_ok (sz : Int) (K : V → Mem → Prop) : cbody Tryz.prog C0 (fun _ => none) 1000 (fnOf Tryz.prog 10) [(.I .i64 24), (.I .i64 sz), (.I .i64 5)] [] K = F10_24_5 sz (fun u => K (.S u) []) := by kernel_rfl
theorem h10_24_5 (sz : Int) (k1 : List Int → Prop) (h : k1 (nameI 24 sz 5)) : F10_24_5 sz k1 := by
  have e : nameI 24 sz 5 = nmR [([106, 111], 8, 0), ([106, 110, 111], 8, 1), ([106, 98], 8, 2), ([106, 97, 101], 8, 3), ([106, 101], 8, 4), ([106, 110, 101], 8, 5), ([106, 98, 101], 8, 6), ([106, 97], 8, 7), ([106, 115], 8, 8), ([106, 110, 115], 8, 9), ([106, 112], 8, 10), ([106, 110, 112], 8, 11), ([106, 108], 8, 12), ([106, 103, 101], 8, 13), ([106, 108, 101], 8, 14), ([106, 103], 8, 15)] sz 5 := rfl
  rw [e] at h
  clear e
  cases a1 : (sz == 1) <;> cases a4 : (sz == 4) <;> cases a8 : (sz == 8) <;> simp_all [-beq_eq_false_iff_ne, F10_24_5, nmR, bne]
def F10_24_6 (sz : Int) (k1 : List Int → Prop) : Prop :=
  (bif (!(sz == 8)) then (k1 ([] : List Int)) else (k1 ([106, 98, 101] : List Int)))
theorem F10_24_6_ok (sz : Int) (K : V → Mem → Prop) : cbody Tryz.prog C0 (fun _ => none) 1000 (fnOf Tryz.prog 10) [(.I .i64 24), (.I .i64 sz), (.I .i64 6)] [] K = F10_24_6 sz (fun u => K (.S u) []) := by kernel_rfl
theorem h10_24_6 (sz : Int) (k1 : List Int → Prop) (h : k1 (nameI 24 sz 6)) : F10_24_6 sz k1 := by
  have e : nameI 24 sz 6 = nmR [([106, 111], 8, 0), ([106, 110, 111], 8, 1), ([106, 98], 8, 2), ([106, 97, 101], 8, 3), ([106, 101], 8, 4), ([106, 110, 101], 8, 5), ([106, 98, 101], 8, 6), ([106, 97], 8, 7), ([106, 115], 8, 8), ([106, 110, 115], 8, 9), ([106, 112], 8, 10), ([106, 110, 112], 8, 11), ([106, 108], 8, 12), ([106, 103, 101], 8, 13), ([106, 108, 101], 8, 14), ([106, 103], 8, 15)] sz 6 := rfl
  rw [e] at h
  clear e
  cases a1 : (sz == 1) <;> cases a4 : (sz == 4) <;> cases a8 : (sz == 8) <;> simp_all [-beq_eq_false_iff_ne, F10_24_6, nmR, bne]
def F10_24_7 (sz : Int) (k1 : List Int → Prop) : Prop :=
  (bif (!(sz == 8)) then (k1 ([] : List Int)) else (k1 ([106, 97] : List Int)))
theorem F10_24_7_ok (sz : Int) (K : V → Mem → Prop) : cbody Tryz.prog C0 (fun _ => none) 1000 (fnOf Tryz.prog 10) [(.I .i64 24), (.I .i64 sz), (.I .i64 7)] [] K = F10_24_7 sz (fun u => K (.S u) []) := by kernel_rfl
theorem h10_24_7 (sz : Int) (k1 : List Int → Prop) (h : k1 (nameI 24 sz 7)) : F10_24_7 sz k1 := by
  have e : nameI 24 sz 7 = nmR [([106, 111], 8, 0), ([106, 110, 111], 8, 1), ([106, 98], 8, 2), ([106, 97, 101], 8, 3), ([106, 101], 8, 4), ([106, 110, 101], 8, 5), ([106, 98, 101], 8, 6), ([106, 97], 8, 7), ([106, 115], 8, 8), ([106, 110, 115], 8, 9), ([106, 112], 8, 10), ([106, 110, 112], 8, 11), ([106, 108], 8, 12), ([106, 103, 101], 8, 13), ([106, 108, 101], 8, 14), ([106, 103], 8, 15)] sz 7 := rfl
  rw [e] at h
  clear e
  cases a1 : (sz == 1) <;> cases a4 : (sz == 4) <;> cases a8 : (sz == 8) <;> simp_all [-beq_eq_false_iff_ne, F10_24_7, nmR, bne]
def F10_24_8 (sz : Int) (k1 : List Int → Prop) : Prop :=
  (bif (!(sz == 8)) then (k1 ([] : List Int)) else (k1 ([106, 115] : List Int)))
theorem F10_24_8_ok (sz : Int) (K : V → Mem → Prop) : cbody Tryz.prog C0 (fun _ => none) 1000 (fnOf Tryz.prog 10) [(.I .i64 24), (.I .i64 sz), (.I .i64 8)] [] K = F10_24_8 sz (fun u => K (.S u) []) := by kernel_rfl
theorem h10_24_8 (sz : Int) (k1 : List Int → Prop) (h : k1 (nameI 24 sz 8)) : F10_24_8 sz k1 := by
  have e : nameI 24 sz 8 = nmR [([106, 111], 8, 0), ([106, 110, 111], 8, 1), ([106, 98], 8, 2), ([106, 97, 101], 8, 3), ([106, 101], 8, 4), ([106, 110, 101], 8, 5), ([106, 98, 101], 8, 6), ([106, 97], 8, 7), ([106, 115], 8, 8), ([106, 110, 115], 8, 9), ([106, 112], 8, 10), ([106, 110, 112], 8, 11), ([106, 108], 8, 12), ([106, 103, 101], 8, 13), ([106, 108, 101], 8, 14), ([106, 103], 8, 15)] sz 8 := rfl
  rw [e] at h
  clear e
  cases a1 : (sz == 1) <;> cases a4 : (sz == 4) <;> cases a8 : (sz == 8) <;> simp_all [-beq_eq_false_iff_ne, F10_24_8, nmR, bne]
def F10_24_9 (sz : Int) (k1 : List Int → Prop) : Prop :=
  (bif (!(sz == 8)) then (k1 ([] : List Int)) else (k1 ([106, 110, 115] : List Int)))
theorem F10_24_9_ok (sz : Int) (K : V → Mem → Prop) : cbody Tryz.prog C0 (fun _ => none) 1000 (fnOf Tryz.prog 10) [(.I .i64 24), (.I .i64 sz), (.I .i64 9)] [] K = F10_24_9 sz (fun u => K (.S u) []) := by kernel_rfl
theorem h10_24_9 (sz : Int) (k1 : List Int → Prop) (h : k1 (nameI 24 sz 9)) : F10_24_9 sz k1 := by
  have e : nameI 24 sz 9 = nmR [([106, 111], 8, 0), ([106, 110, 111], 8, 1), ([106, 98], 8, 2), ([106, 97, 101], 8, 3), ([106, 101], 8, 4), ([106, 110, 101], 8, 5), ([106, 98, 101], 8, 6), ([106, 97], 8, 7), ([106, 115], 8, 8), ([106, 110, 115], 8, 9), ([106, 112], 8, 10), ([106, 110, 112], 8, 11), ([106, 108], 8, 12), ([106, 103, 101], 8, 13), ([106, 108, 101], 8, 14), ([106, 103], 8, 15)] sz 9 := rfl
  rw [e] at h
  clear e
  cases a1 : (sz == 1) <;> cases a4 : (sz == 4) <;> cases a8 : (sz == 8) <;> simp_all [-beq_eq_false_iff_ne, F10_24_9, nmR, bne]
def F10_24_10 (sz : Int) (k1 : List Int → Prop) : Prop :=
  (bif (!(sz == 8)) then (k1 ([] : List Int)) else (k1 ([106, 112] : List Int)))
theorem F10_24_10_ok (sz : Int) (K : V → Mem → Prop) : cbody Tryz.prog C0 (fun _ => none) 1000 (fnOf Tryz.prog 10) [(.I .i64 24), (.I .i64 sz), (.I .i64 10)] [] K = F10_24_10 sz (fun u => K (.S u) []) := by kernel_rfl
theorem h10_24_10 (sz : Int) (k1 : List Int → Prop) (h : k1 (nameI 24 sz 10)) : F10_24_10 sz k1 := by
  have e : nameI 24 sz 10 = nmR [([106, 111], 8, 0), ([106, 110, 111], 8, 1), ([106, 98], 8, 2), ([106, 97, 101], 8, 3), ([106, 101], 8, 4), ([106, 110, 101], 8, 5), ([106, 98, 101], 8, 6), ([106, 97], 8, 7), ([106, 115], 8, 8), ([106, 110, 115], 8, 9), ([106, 112], 8, 10), ([106, 110, 112], 8, 11), ([106, 108], 8, 12), ([106, 103, 101], 8, 13), ([106, 108, 101], 8, 14), ([106, 103], 8, 15)] sz 10 := rfl
  rw [e] at h
  clear e
  cases a1 : (sz == 1) <;> cases a4 : (sz == 4) <;> cases a8 : (sz == 8) <;> simp_all [-beq_eq_false_iff_ne, F10_24_10, nmR, bne]
def F10_24_11 (sz : Int) (k1 : List Int → Prop) : Prop :=
  (bif (!(sz == 8)) then (k1 ([] : List Int)) else (k1 ([106, 110, 112] : List Int)))
theorem F10_24_11_ok (sz : Int) (K : V → Mem → Prop) : cbody Tryz.prog C0 (fun _ => none) 1000 (fnOf Tryz.prog 10) [(.I .i64 24), (.I .i64 sz), (.I .i64 11)] [] K = F10_24_11 sz (fun u => K (.S u) []) := by kernel_rfl
theorem h10_24_11 (sz : Int) (k1 : List Int → Prop) (h : k1 (nameI 24 sz 11)) : F10_24_11 sz k1 := by
  have e : nameI 24 sz 11 = nmR [([106, 111], 8, 0), ([106, 110, 111], 8, 1), ([106, 98], 8, 2), ([106, 97, 101], 8, 3), ([106, 101], 8, 4), ([106, 110, 101], 8, 5), ([106, 98, 101], 8, 6), ([106, 97], 8, 7), ([106, 115], 8, 8), ([106, 110, 115], 8, 9), ([106, 112], 8, 10), ([106, 110, 112], 8, 11), ([106, 108], 8, 12), ([106, 103, 101], 8, 13), ([106, 108, 101], 8, 14), ([106, 103], 8, 15)] sz 11 := rfl
  rw [e] at h
  clear e
  cases a1 : (sz == 1) <;> cases a4 : (sz == 4) <;> cases a8 : (sz == 8) <;> simp_all [-beq_eq_false_iff_ne, F10_24_11, nmR, bne]
def F10_24_12 (sz : Int) (k1 : List Int → Prop) : Prop :=
  (bif (!(sz == 8)) then (k1 ([] : List Int)) else (k1 ([106, 108] : List Int)))
theorem F10_24_12_ok (sz : Int) (K : V → Mem → Prop) : cbody Tryz.prog C0 (fun _ => none) 1000 (fnOf Tryz.prog 10) [(.I .i64 24), (.I .i64 sz), (.I .i64 12)] [] K = F10_24_12 sz (fun u => K (.S u) []) := by kernel_rfl
theorem h10_24_12 (sz : Int) (k1 : List Int → Prop) (h : k1 (nameI 24 sz 12)) : F10_24_12 sz k1 := by
  have e : nameI 24 sz 12 = nmR [([106, 111], 8, 0), ([106, 110, 111], 8, 1), ([106, 98], 8, 2), ([106, 97, 101], 8, 3), ([106, 101], 8, 4), ([106, 110, 101], 8, 5), ([106, 98, 101], 8, 6), ([106, 97], 8, 7), ([106, 115], 8, 8), ([106, 110, 115], 8, 9), ([106, 112], 8, 10), ([106, 110, 112], 8, 11), ([106, 108], 8, 12), ([106, 103, 101], 8, 13), ([106, 108, 101], 8, 14), ([106, 103], 8, 15)] sz 12 := rfl
  rw [e] at h
  clear e
  cases a1 : (sz == 1) <;> cases a4 : (sz == 4) <;> cases a8 : (sz == 8) <;> simp_all [-beq_eq_false_iff_ne, F10_24_12, nmR, bne]
def F10_24_13 (sz : Int) (k1 : List Int → Prop) : Prop :=
  (bif (!(sz == 8)) then (k1 ([] : List Int)) else (k1 ([106, 103, 101] : List Int)))
theorem F10_24_13_ok (sz : Int) (K : V → Mem → Prop) : cbody Tryz.prog C0 (fun _ => none) 1000 (fnOf Tryz.prog 10) [(.I .i64 24), (.I .i64 sz), (.I .i64 13)] [] K = F10_24_13 sz (fun u => K (.S u) []) := by kernel_rfl
theorem h10_24_13 (sz : Int) (k1 : List Int → Prop) (h : k1 (nameI 24 sz 13)) : F10_24_13 sz k1 := by
  have e : nameI 24 sz 13 = nmR [([106, 111], 8, 0), ([106, 110, 111], 8, 1), ([106, 98], 8, 2), ([106, 97, 101], 8, 3), ([106, 101], 8, 4), ([106, 110, 101], 8, 5), ([106, 98, 101], 8, 6), ([106, 97], 8, 7), ([106, 115], 8, 8), ([106, 110, 115], 8, 9), ([106, 112], 8, 10), ([106, 110, 112], 8, 11), ([106, 108], 8, 12), ([106, 103, 101], 8, 13), ([106, 108, 101], 8, 14), ([106, 103], 8, 15)] sz 13 := rfl
  rw [e] at h
  clear e
  cases a1 : (sz == 1) <;> cases a4 : (sz == 4) <;> cases a8 : (sz == 8) <;> simp_all [-beq_eq_false_iff_ne, F10_24_13, nmR, bne]
def F10_24_14 (sz : Int) (k1 : List Int → Prop) : Prop :=
  (bif (!(sz == 8)) then (k1 ([] : List Int)) else (k1 ([106, 108, 101] : List Int)))
theorem F10_24_14_ok (sz : Int) (K : V → Mem → Prop) : cbody Tryz.prog C0 (fun _ => none) 1000 (fnOf Tryz.prog 10) [(.I .i64 24), (.I .i64 sz), (.I .i64 14)] [] K = F10_24_14 sz (fun u => K (.S u) []) := by kernel_rfl
theorem h10_24_14 (sz : Int) (k1 : List Int → Prop) (h : k1 (nameI 24 sz 14)) : F10_24_14 sz k1 := by
  have e : nameI 24 sz 14 = nmR [([106, 111], 8, 0), ([106, 110, 111], 8, 1), ([106, 98], 8, 2), ([106, 97, 101], 8, 3), ([106, 101], 8, 4), ([106, 110, 101], 8, 5), ([106, 98, 101], 8, 6), ([106, 97], 8, 7), ([106, 115], 8, 8), ([106, 110, 115], 8, 9), ([106, 112], 8, 10), ([106, 110, 112], 8, 11), ([106, 108], 8, 12), ([106, 103, 101], 8, 13), ([106, 108, 101], 8, 14), ([106, 103], 8, 15)] sz 14 := rfl
  rw [e] at h
  clear e
  cases a1 : (sz == 1) <;> cases a4 : (sz == 4) <;> cases a8 : (sz == 8) <;> simp_all [-beq_eq_false_iff_ne, F10_24_14, nmR, bne]
def F10_24_15 (sz : Int) (k1 : List Int → Prop) : Prop :=
  (bif (!(sz == 8)) then (k1 ([] : List Int)) else (k1 ([106, 103] : List Int)))
theorem F10_24_15_ok (sz : Int) (K : V → Mem → Prop) : cbody Tryz.prog C0 (fun _ => none) 1000 (fnOf Tryz.prog 10) [(.I .i64 24), (.I .i64 sz), (.I .i64 15)] [] K = F10_24_15 sz (fun u => K (.S u) []) := by kernel_rfl
theorem h10_24_15 (sz : Int) (k1 : List Int → Prop) (h : k1 (nameI 24 sz 15)) : F10_24_15 sz k1 := by
  have e : nameI 24 sz 15 = nmR [([106, 111], 8, 0), ([106, 110, 111], 8, 1), ([106, 98], 8, 2), ([106, 97, 101], 8, 3), ([106, 101], 8, 4), ([106, 110, 101], 8, 5), ([106, 98, 101], 8, 6), ([106, 97], 8, 7), ([106, 115], 8, 8), ([106, 110, 115], 8, 9), ([106, 112], 8, 10), ([106, 110, 112], 8, 11), ([106, 108], 8, 12), ([106, 103, 101], 8, 13), ([106, 108, 101], 8, 14), ([106, 103], 8, 15)] sz 15 := rfl
  rw [e] at h
  clear e
  cases a1 : (sz == 1) <;> cases a4 : (sz == 4) <;> cases a8 : (sz == 8) <;> simp_all [-beq_eq_false_iff_ne, F10_24_15, nmR, bne]
def F10_25 (sz cd : Int) (k1 : List Int → Prop) : Prop :=
  (bif (decide (cd < 0)) then (k1 ([] : List Int)) else (bif (decide (cd > 15)) then (k1 ([] : List Int)) else (bif (!(sz == 0)) then (k1 ([] : List Int)) else (bif (cd != 0) then (k1 ([] : List Int)) else (k1 ([114, 101, 116] : List Int))))))
theorem F10_25_ok (sz cd : Int) (K : V → Mem → Prop) : cbody Tryz.prog C0 (fun _ => none) 1000 (fnOf Tryz.prog 10) [(.I .i64 25), (.I .i64 sz), (.I .i64 cd)] [] K = F10_25 sz cd (fun u => K (.S u) []) := by kernel_rfl
theorem h10_25 (sz cd : Int) (k1 : List Int → Prop) (h : k1 (nameI 25 sz cd)) : F10_25 sz cd k1 := by
  have e : nameI 25 sz cd = nmR [([114, 101, 116], 0, 0)] sz cd := rfl
  rw [e] at h
  clear e
  cases a1 : (sz == 1) <;> cases a4 : (sz == 4) <;> cases a8 : (sz == 8) <;> cases a0 : (sz == 0) <;> cases c0 : (cd == 0) <;> simp_all [-beq_eq_false_iff_ne, F10_25, nmR, bne]
def F10_26 (sz cd : Int) (k1 : List Int → Prop) : Prop :=
  (bif (decide (cd < 0)) then (k1 ([] : List Int)) else (bif (decide (cd > 15)) then (k1 ([] : List Int)) else (bif (!(sz == 0)) then (k1 ([] : List Int)) else (bif (cd != 0) then (k1 ([] : List Int)) else (k1 ([108, 101, 97, 118, 101] : List Int))))))
theorem F10_26_ok (sz cd : Int) (K : V → Mem → Prop) : cbody Tryz.prog C0 (fun _ => none) 1000 (fnOf Tryz.prog 10) [(.I .i64 26), (.I .i64 sz), (.I .i64 cd)] [] K = F10_26 sz cd (fun u => K (.S u) []) := by kernel_rfl
theorem h10_26 (sz cd : Int) (k1 : List Int → Prop) (h : k1 (nameI 26 sz cd)) : F10_26 sz cd k1 := by
  have e : nameI 26 sz cd = nmR [([108, 101, 97, 118, 101], 0, 0)] sz cd := rfl
  rw [e] at h
  clear e
  cases a1 : (sz == 1) <;> cases a4 : (sz == 4) <;> cases a8 : (sz == 8) <;> cases a0 : (sz == 0) <;> cases c0 : (cd == 0) <;> simp_all [-beq_eq_false_iff_ne, F10_26, nmR, bne]
def F10_27_0 (sz : Int) (k1 : List Int → Prop) : Prop :=
  (bif (!(sz == 1)) then (k1 ([] : List Int)) else (k1 ([115, 101, 116, 111] : List Int)))
theorem F10_27_0_ok (sz : Int) (K : V → Mem → Prop) : cbody Tryz.prog C0 (fun _ => none) 1000 (fnOf Tryz.prog 10) [(.I .i64 27), (.I .i64 sz), (.I .i64 0)] [] K = F10_27_0 sz (fun u => K (.S u) []) := by kernel_rfl
theorem h10_27_0 (sz : Int) (k1 : List Int → Prop) (h : k1 (nameI 27 sz 0)) : F10_27_0 sz k1 := by
  have e : nameI 27 sz 0 = nmR [([115, 101, 116, 111], 1, 0), ([115, 101, 116, 110, 111], 1, 1), ([115, 101, 116, 98], 1, 2), ([115, 101, 116, 97, 101], 1, 3), ([115, 101, 116, 101], 1, 4), ([115, 101, 116, 110, 101], 1, 5), ([115, 101, 116, 98, 101], 1, 6), ([115, 101, 116, 97], 1, 7), ([115, 101, 116, 115], 1, 8), ([115, 101, 116, 110, 115], 1, 9), ([115, 101, 116, 112], 1, 10), ([115, 101, 116, 110, 112], 1, 11), ([115, 101, 116, 108], 1, 12), ([115, 101, 116, 103, 101], 1, 13), ([115, 101, 116, 108, 101], 1, 14), ([115, 101, 116, 103], 1, 15)] sz 0 := rfl
  rw [e] at h
  clear e
  cases a1 : (sz == 1) <;> cases a4 : (sz == 4) <;> cases a8 : (sz == 8) <;> simp_all [-beq_eq_false_iff_ne, F10_27_0, nmR, bne]
def F10_27_1 (sz : Int) (k1 : List Int → Prop) : Prop :=
  (bif (!(sz == 1)) then (k1 ([] : List Int)) else (k1 ([115, 101, 116, 110, 111] : List Int)))
theorem F10_27_1_ok (sz : Int) (K : V → Mem → Prop) : cbody Tryz.prog C0 (fun _ => none) 1000 (fnOf Tryz.prog 10) [(.I .i64 27), (.I .i64 sz), (.I .i64 1)] [] K = F10_27_1 sz (fun u => K (.S u) []) := by kernel_rfl
theorem h10_27_1 (sz : Int) (k1 : List Int → Prop) (h : k1 (nameI 27 sz 1)) : F10_27_1 sz k1 := by
  have e : nameI 27 sz 1 = nmR [([115, 101, 116, 111], 1, 0), ([115, 101, 116, 110, 111], 1, 1), ([115, 101, 116, 98], 1, 2), ([115, 101, 116, 97, 101], 1, 3), ([115, 101, 116, 101], 1, 4), ([115, 101, 116, 110, 101], 1, 5), ([115, 101, 116, 98, 101], 1, 6), ([115, 101, 116, 97], 1, 7), ([115, 101, 116, 115], 1, 8), ([115, 101, 116, 110, 115], 1, 9), ([115, 101, 116, 112], 1, 10), ([115, 101, 116, 110, 112], 1, 11), ([115, 101, 116, 108], 1, 12), ([115, 101, 116, 103, 101], 1, 13), ([115, 101, 116, 108, 101], 1, 14), ([115, 101, 116, 103], 1, 15)] sz 1 := rfl
  rw [e] at h
  clear e
  cases a1 : (sz == 1) <;> cases a4 : (sz == 4) <;> cases a8 : (sz == 8) <;> simp_all [-beq_eq_false_iff_ne, F10_27_1, nmR, bne]
def F10_27_2 (sz : Int) (k1 : List Int → Prop) : Prop :=
  (bif (!(sz == 1)) then (k1 ([] : List Int)) else (k1 ([115, 101, 116, 98] : List Int)))
theorem F10_27_2_ok (sz : Int) (K : V → Mem → Prop) : cbody Tryz.prog C0 (fun _ => none) 1000 (fnOf Tryz.prog 10) [(.I .i64 27), (.I .i64 sz), (.I .i64 2)] [] K = F10_27_2 sz (fun u => K (.S u) []) := by kernel_rfl
theorem h10_27_2 (sz : Int) (k1 : List Int → Prop) (h : k1 (nameI 27 sz 2)) : F10_27_2 sz k1 := by
  have e : nameI 27 sz 2 = nmR [([115, 101, 116, 111], 1, 0), ([115, 101, 116, 110, 111], 1, 1), ([115, 101, 116, 98], 1, 2), ([115, 101, 116, 97, 101], 1, 3), ([115, 101, 116, 101], 1, 4), ([115, 101, 116, 110, 101], 1, 5), ([115, 101, 116, 98, 101], 1, 6), ([115, 101, 116, 97], 1, 7), ([115, 101, 116, 115], 1, 8), ([115, 101, 116, 110, 115], 1, 9), ([115, 101, 116, 112], 1, 10), ([115, 101, 116, 110, 112], 1, 11), ([115, 101, 116, 108], 1, 12), ([115, 101, 116, 103, 101], 1, 13), ([115, 101, 116, 108, 101], 1, 14), ([115, 101, 116, 103], 1, 15)] sz 2 := rfl
  rw [e] at h
  clear e
  cases a1 : (sz == 1) <;> cases a4 : (sz == 4) <;> cases a8 : (sz == 8) <;> simp_all [-beq_eq_false_iff_ne, F10_27_2, nmR, bne]
def F10_27_3 (sz : Int) (k1 : List Int → Prop) : Prop :=
  (bif (!(sz == 1)) then (k1 ([] : List Int)) else (k1 ([115, 101, 116, 97, 101] : List Int)))
theorem F10_27_3_ok (sz : Int) (K : V → Mem → Prop) : cbody Tryz.prog C0 (fun _ => none) 1000 (fnOf Tryz.prog 10) [(.I .i64 27), (.I .i64 sz), (.I .i64 3)] [] K = F10_27_3 sz (fun u => K (.S u) []) := by kernel_rfl
theorem h10_27_3 (sz : Int) (k1 : List Int → Prop) (h : k1 (nameI 27 sz 3)) : F10_27_3 sz k1 := by
  have e : nameI 27 sz 3 = nmR [([115, 101, 116, 111], 1, 0), ([115, 101, 116, 110, 111], 1, 1), ([115, 101, 116, 98], 1, 2), ([115, 101, 116, 97, 101], 1, 3), ([115, 101, 116, 101], 1, 4), ([115, 101, 116, 110, 101], 1, 5), ([115, 101, 116, 98, 101], 1, 6), ([115, 101, 116, 97], 1, 7), ([115, 101, 116, 115], 1, 8), ([115, 101, 116, 110, 115], 1, 9), ([115, 101, 116, 112], 1, 10), ([115, 101, 116, 110, 112], 1, 11), ([115, 101, 116, 108], 1, 12), ([115, 101, 116, 103, 101], 1, 13), ([115, 101, 116, 108, 101], 1, 14), ([115, 101, 116, 103], 1, 15)] sz 3 := rfl
  rw [e] at h
  clear e
  cases a1 : (sz == 1) <;> cases a4 : (sz == 4) <;> cases a8 : (sz == 8) <;> simp_all [-beq_eq_false_iff_ne, F10_27_3, nmR, bne]
def F10_27_4 (sz : Int) (k1 : List Int → Prop) : Prop :=
  (bif (!(sz == 1)) then (k1 ([] : List Int)) else (k1 ([115, 101, 116, 101] : List Int)))
theorem F10_27_4_ok (sz : Int) (K : V → Mem → Prop) : cbody Tryz.prog C0 (fun _ => none) 1000 (fnOf Tryz.prog 10) [(.I .i64 27), (.I .i64 sz), (.I .i64 4)] [] K = F10_27_4 sz (fun u => K (.S u) []) := by kernel_rfl
theorem h10_27_4 (sz : Int) (k1 : List Int → Prop) (h : k1 (nameI 27 sz 4)) : F10_27_4 sz k1 := by
  have e : nameI 27 sz 4 = nmR [([115, 101, 116, 111], 1, 0), ([115, 101, 116, 110, 111], 1, 1), ([115, 101, 116, 98], 1, 2), ([115, 101, 116, 97, 101], 1, 3), ([115, 101, 116, 101], 1, 4), ([115, 101, 116, 110, 101], 1, 5), ([115, 101, 116, 98, 101], 1, 6), ([115, 101, 116, 97], 1, 7), ([115, 101, 116, 115], 1, 8), ([115, 101, 116, 110, 115], 1, 9), ([115, 101, 116, 112], 1, 10), ([115, 101, 116, 110, 112], 1, 11), ([115, 101, 116, 108], 1, 12), ([115, 101, 116, 103, 101], 1, 13), ([115, 101, 116, 108, 101], 1, 14), ([115, 101, 116, 103], 1, 15)] sz 4 := rfl
  rw [e] at h
  clear e
  cases a1 : (sz == 1) <;> cases a4 : (sz == 4) <;> cases a8 : (sz == 8) <;> simp_all [-beq_eq_false_iff_ne, F10_27_4, nmR, bne]
def F10_27_5 (sz : Int) (k1 : List Int → Prop) : Prop :=
  (bif (!(sz == 1)) then (k1 ([] : List Int)) else (k1 ([115, 101, 116, 110, 101] : List Int)))
theorem F10_27_5_ok (sz : Int) (K : V → Mem → Prop) : cbody Tryz.prog C0 (fun _ => none) 1000 (fnOf Tryz.prog 10) [(.I .i64 27), (.I .i64 sz), (.I .i64 5)] [] K = F10_27_5 sz (fun u => K (.S u) []) := by kernel_rfl
theorem h10_27_5 (sz : Int) (k1 : List Int → Prop) (h : k1 (nameI 27 sz 5)) : F10_27_5 sz k1 := by
  have e : nameI 27 sz 5 = nmR [([115, 101, 116, 111], 1, 0), ([115, 101, 116, 110, 111], 1, 1), ([115, 101, 116, 98], 1, 2), ([115, 101, 116, 97, 101], 1, 3), ([115, 101, 116, 101], 1, 4), ([115, 101, 116, 110, 101], 1, 5), ([115, 101, 116, 98, 101], 1, 6), ([115, 101, 116, 97], 1, 7), ([115, 101, 116, 115], 1, 8), ([115, 101, 116, 110, 115], 1, 9), ([115, 101, 116, 112], 1, 10), ([115, 101, 116, 110, 112], 1, 11), ([115, 101, 116, 108], 1, 12), ([115, 101, 116, 103, 101], 1, 13), ([115, 101, 116, 108, 101], 1, 14), ([115, 101, 116, 103], 1, 15)] sz 5 := rfl
  rw [e] at h
  clear e
  cases a1 : (sz == 1) <;> cases a4 : (sz == 4) <;> cases a8 : (sz == 8) <;> simp_all [-beq_eq_false_iff_ne, F10_27_5, nmR, bne]
def F10_27_6 (sz : Int) (k1 : List Int → Prop) : Prop :=
  (bif (!(sz == 1)) then (k1 ([] : List Int)) else (k1 ([115, 101, 116, 98, 101] : List Int)))
theorem F10_27_6_ok (sz : Int) (K : V → Mem → Prop) : cbody Tryz.prog C0 (fun _ => none) 1000 (fnOf Tryz.prog 10) [(.I .i64 27), (.I .i64 sz), (.I .i64 6)] [] K = F10_27_6 sz (fun u => K (.S u) []) := by kernel_rfl
theorem h10_27_6 (sz : Int) (k1 : List Int → Prop) (h : k1 (nameI 27 sz 6)) : F10_27_6 sz k1 := by
  have e : nameI 27 sz 6 = nmR [([115, 101, 116, 111], 1, 0), ([115, 101, 116, 110, 111], 1, 1), ([115, 101, 116, 98], 1, 2), ([115, 101, 116, 97, 101], 1, 3), ([115, 101, 116, 101], 1, 4), ([115, 101, 116, 110, 101], 1, 5), ([115, 101, 116, 98, 101], 1, 6), ([115, 101, 116, 97], 1, 7), ([115, 101, 116, 115], 1, 8), ([115, 101, 116, 110, 115], 1, 9), ([115, 101, 116, 112], 1, 10), ([115, 101, 116, 110, 112], 1, 11), ([115, 101, 116, 108], 1, 12), ([115, 101, 116, 103, 101], 1, 13), ([115, 101, 116, 108, 101], 1, 14), ([115, 101, 116, 103], 1, 15)] sz 6 := rfl
  rw [e] at h
  clear e
  cases a1 : (sz == 1) <;> cases a4 : (sz == 4) <;> cases a8 : (sz == 8) <;> simp_all [-beq_eq_false_iff_ne, F10_27_6, nmR, bne]
def F10_27_7 (sz : Int) (k1 : List Int → Prop) : Prop :=
  (bif (!(sz == 1)) then (k1 ([] : List Int)) else (k1 ([115, 101, 116, 97] : List Int)))
theorem F10_27_7_ok (sz : Int) (K : V → Mem → Prop) : cbody Tryz.prog C0 (fun _ => none) 1000 (fnOf Tryz.prog 10) [(.I .i64 27), (.I .i64 sz), (.I .i64 7)] [] K = F10_27_7 sz (fun u => K (.S u) []) := by kernel_rfl
theorem h10_27_7 (sz : Int) (k1 : List Int → Prop) (h : k1 (nameI 27 sz 7)) : F10_27_7 sz k1 := by
  have e : nameI 27 sz 7 = nmR [([115, 101, 116, 111], 1, 0), ([115, 101, 116, 110, 111], 1, 1), ([115, 101, 116, 98], 1, 2), ([115, 101, 116, 97, 101], 1, 3), ([115, 101, 116, 101], 1, 4), ([115, 101, 116, 110, 101], 1, 5), ([115, 101, 116, 98, 101], 1, 6), ([115, 101, 116, 97], 1, 7), ([115, 101, 116, 115], 1, 8), ([115, 101, 116, 110, 115], 1, 9), ([115, 101, 116, 112], 1, 10), ([115, 101, 116, 110, 112], 1, 11), ([115, 101, 116, 108], 1, 12), ([115, 101, 116, 103, 101], 1, 13), ([115, 101, 116, 108, 101], 1, 14), ([115, 101, 116, 103], 1, 15)] sz 7 := rfl
  rw [e] at h
  clear e
  cases a1 : (sz == 1) <;> cases a4 : (sz == 4) <;> cases a8 : (sz == 8) <;> simp_all [-beq_eq_false_iff_ne, F10_27_7, nmR, bne]
def F10_27_8 (sz : Int) (k1 : List Int → Prop) : Prop :=
  (bif (!(sz == 1)) then (k1 ([] : List Int)) else (k1 ([115, 101, 116, 115] : List Int)))
theorem F10_27_8_ok (sz : Int) (K : V → Mem → Prop) : cbody Tryz.prog C0 (fun _ => none) 1000 (fnOf Tryz.prog 10) [(.I .i64 27), (.I .i64 sz), (.I .i64 8)] [] K = F10_27_8 sz (fun u => K (.S u) []) := by kernel_rfl
theorem h10_27_8 (sz : Int) (k1 : List Int → Prop) (h : k1 (nameI 27 sz 8)) : F10_27_8 sz k1 := by
  have e : nameI 27 sz 8 = nmR [([115, 101, 116, 111], 1, 0), ([115, 101, 116, 110, 111], 1, 1), ([115, 101, 116, 98], 1, 2), ([115, 101, 116, 97, 101], 1, 3), ([115, 101, 116, 101], 1, 4), ([115, 101, 116, 110, 101], 1, 5), ([115, 101, 116, 98, 101], 1, 6), ([115, 101, 116, 97], 1, 7), ([115, 101, 116, 115], 1, 8), ([115, 101, 116, 110, 115], 1, 9), ([115, 101, 116, 112], 1, 10), ([115, 101, 116, 110, 112], 1, 11), ([115, 101, 116, 108], 1, 12), ([115, 101, 116, 103, 101], 1, 13), ([115, 101, 116, 108, 101], 1, 14), ([115, 101, 116, 103], 1, 15)] sz 8 := rfl
  rw [e] at h
  clear e
  cases a1 : (sz == 1) <;> cases a4 : (sz == 4) <;> cases a8 : (sz == 8) <;> simp_all [-beq_eq_false_iff_ne, F10_27_8, nmR, bne]
def F10_27_9 (sz : Int) (k1 : List Int → Prop) : Prop :=
  (bif (!(sz == 1)) then (k1 ([] : List Int)) else (k1 ([115, 101, 116, 110, 115] : List Int)))
theorem F10_27_9_ok (sz : Int) (K : V → Mem → Prop) : cbody Tryz.prog C0 (fun _ => none) 1000 (fnOf Tryz.prog 10) [(.I .i64 27), (.I .i64 sz), (.I .i64 9)] [] K = F10_27_9 sz (fun u => K (.S u) []) := by kernel_rfl
theorem h10_27_9 (sz : Int) (k1 : List Int → Prop) (h : k1 (nameI 27 sz 9)) : F10_27_9 sz k1 := by
  have e : nameI 27 sz 9 = nmR [([115, 101, 116, 111], 1, 0), ([115, 101, 116, 110, 111], 1, 1), ([115, 101, 116, 98], 1, 2), ([115, 101, 116, 97, 101], 1, 3), ([115, 101, 116, 101], 1, 4), ([115, 101, 116, 110, 101], 1, 5), ([115, 101, 116, 98, 101], 1, 6), ([115, 101, 116, 97], 1, 7), ([115, 101, 116, 115], 1, 8), ([115, 101, 116, 110, 115], 1, 9), ([115, 101, 116, 112], 1, 10), ([115, 101, 116, 110, 112], 1, 11), ([115, 101, 116, 108], 1, 12), ([115, 101, 116, 103, 101], 1, 13), ([115, 101, 116, 108, 101], 1, 14), ([115, 101, 116, 103], 1, 15)] sz 9 := rfl
  rw [e] at h
  clear e
  cases a1 : (sz == 1) <;> cases a4 : (sz == 4) <;> cases a8 : (sz == 8) <;> simp_all [-beq_eq_false_iff_ne, F10_27_9, nmR, bne]
def F10_27_10 (sz : Int) (k1 : List Int → Prop) : Prop :=
  (bif (!(sz == 1)) then (k1 ([] : List Int)) else (k1 ([115, 101, 116, 112] : List Int)))
theorem F10_27_10_ok (sz : Int) (K : V → Mem → Prop) : cbody Tryz.prog C0 (fun _ => none) 1000 (fnOf Tryz.prog 10) [(.I .i64 27), (.I .i64 sz), (.I .i64 10)] [] K = F10_27_10 sz (fun u => K (.S u) []) := by kernel_rfl
theorem h10_27_10 (sz : Int) (k1 : List Int → Prop) (h : k1 (nameI 27 sz 10)) : F10_27_10 sz k1 := by
  have e : nameI 27 sz 10 = nmR [([115, 101, 116, 111], 1, 0), ([115, 101, 116, 110, 111], 1, 1), ([115, 101, 116, 98], 1, 2), ([115, 101, 116, 97, 101], 1, 3), ([115, 101, 116, 101], 1, 4), ([115, 101, 116, 110, 101], 1, 5), ([115, 101, 116, 98, 101], 1, 6), ([115, 101, 116, 97], 1, 7), ([115, 101, 116, 115], 1, 8), ([115, 101, 116, 110, 115], 1, 9), ([115, 101, 116, 112], 1, 10), ([115, 101, 116, 110, 112], 1, 11), ([115, 101, 116, 108], 1, 12), ([115, 101, 116, 103, 101], 1, 13), ([115, 101, 116, 108, 101], 1, 14), ([115, 101, 116, 103], 1, 15)] sz 10 := rfl
  rw [e] at h
  clear e
  cases a1 : (sz == 1) <;> cases a4 : (sz == 4) <;> cases a8 : (sz == 8) <;> simp_all [-beq_eq_false_iff_ne, F10_27_10, nmR, bne]
def F10_27_11 (sz : Int) (k1 : List Int → Prop) : Prop :=
  (bif (!(sz == 1)) then (k1 ([] : List Int)) else (k1 ([115, 101, 116, 110, 112] : List Int)))
theorem F10_27_11_ok (sz : Int) (K : V → Mem → Prop) : cbody Tryz.prog C0 (fun _ => none) 1000 (fnOf Tryz.prog 10) [(.I .i64 27), (.I .i64 sz), (.I .i64 11)] [] K = F10_27_11 sz (fun u => K (.S u) []) := by kernel_rfl
theorem h10_27_11 (sz : Int) (k1 : List Int → Prop) (h : k1 (nameI 27 sz 11)) : F10_27_11 sz k1 := by
  have e : nameI 27 sz 11 = nmR [([115, 101, 116, 111], 1, 0), ([115, 101, 116, 110, 111], 1, 1), ([115, 101, 116, 98], 1, 2), ([115, 101, 116, 97, 101], 1, 3), ([115, 101, 116, 101], 1, 4), ([115, 101, 116, 110, 101], 1, 5), ([115, 101, 116, 98, 101], 1, 6), ([115, 101, 116, 97], 1, 7), ([115, 101, 116, 115], 1, 8), ([115, 101, 116, 110, 115], 1, 9), ([115, 101, 116, 112], 1, 10), ([115, 101, 116, 110, 112], 1, 11), ([115, 101, 116, 108], 1, 12), ([115, 101, 116, 103, 101], 1, 13), ([115, 101, 116, 108, 101], 1, 14), ([115, 101, 116, 103], 1, 15)] sz 11 := rfl
  rw [e] at h
  clear e
  cases a1 : (sz == 1) <;> cases a4 : (sz == 4) <;> cases a8 : (sz == 8) <;> simp_all [-beq_eq_false_iff_ne, F10_27_11, nmR, bne]
def F10_27_12 (sz : Int) (k1 : List Int → Prop) : Prop :=
  (bif (!(sz == 1)) then (k1 ([] : List Int)) else (k1 ([115, 101, 116, 108] : List Int)))
theorem F10_27_12_ok (sz : Int) (K : V → Mem → Prop) : cbody Tryz.prog C0 (fun _ => none) 1000 (fnOf Tryz.prog 10) [(.I .i64 27), (.I .i64 sz), (.I .i64 12)] [] K = F10_27_12 sz (fun u => K (.S u) []) := by kernel_rfl
theorem h10_27_12 (sz : Int) (k1 : List Int → Prop) (h : k1 (nameI 27 sz 12)) : F10_27_12 sz k1 := by
  have e : nameI 27 sz 12 = nmR [([115, 101, 116, 111], 1, 0), ([115, 101, 116, 110, 111], 1, 1), ([115, 101, 116, 98], 1, 2), ([115, 101, 116, 97, 101], 1, 3), ([115, 101, 116, 101], 1, 4), ([115, 101, 116, 110, 101], 1, 5), ([115, 101, 116, 98, 101], 1, 6), ([115, 101, 116, 97], 1, 7), ([115, 101, 116, 115], 1, 8), ([115, 101, 116, 110, 115], 1, 9), ([115, 101, 116, 112], 1, 10), ([115, 101, 116, 110, 112], 1, 11), ([115, 101, 116, 108], 1, 12), ([115, 101, 116, 103, 101], 1, 13), ([115, 101, 116, 108, 101], 1, 14), ([115, 101, 116, 103], 1, 15)] sz 12 := rfl
  rw [e] at h
  clear e
  cases a1 : (sz == 1) <;> cases a4 : (sz == 4) <;> cases a8 : (sz == 8) <;> simp_all [-beq_eq_false_iff_ne, F10_27_12, nmR, bne]
def F10_27_13 (sz : Int) (k1 : List Int → Prop) : Prop :=
  (bif (!(sz == 1)) then (k1 ([] : List Int)) else (k1 ([115, 101, 116, 103, 101] : List Int)))
theorem F10_27_13_ok (sz : Int) (K : V → Mem → Prop) : cbody Tryz.prog C0 (fun _ => none) 1000 (fnOf Tryz.prog 10) [(.I .i64 27), (.I .i64 sz), (.I .i64 13)] [] K = F10_27_13 sz (fun u => K (.S u) []) := by kernel_rfl
theorem h10_27_13 (sz : Int) (k1 : List Int → Prop) (h : k1 (nameI 27 sz 13)) : F10_27_13 sz k1 := by
  have e : nameI 27 sz 13 = nmR [([115, 101, 116, 111], 1, 0), ([115, 101, 116, 110, 111], 1, 1), ([115, 101, 116, 98], 1, 2), ([115, 101, 116, 97, 101], 1, 3), ([115, 101, 116, 101], 1, 4), ([115, 101, 116, 110, 101], 1, 5), ([115, 101, 116, 98, 101], 1, 6), ([115, 101, 116, 97], 1, 7), ([115, 101, 116, 115], 1, 8), ([115, 101, 116, 110, 115], 1, 9), ([115, 101, 116, 112], 1, 10), ([115, 101, 116, 110, 112], 1, 11), ([115, 101, 116, 108], 1, 12), ([115, 101, 116, 103, 101], 1, 13), ([115, 101, 116, 108, 101], 1, 14), ([115, 101, 116, 103], 1, 15)] sz 13 := rfl
  rw [e] at h
  clear e
  cases a1 : (sz == 1) <;> cases a4 : (sz == 4) <;> cases a8 : (sz == 8) <;> simp_all [-beq_eq_false_iff_ne, F10_27_13, nmR, bne]
def F10_27_14 (sz : Int) (k1 : List Int → Prop) : Prop :=
  (bif (!(sz == 1)) then (k1 ([] : List Int)) else (k1 ([115, 101, 116, 108, 101] : List Int)))
theorem F10_27_14_ok (sz : Int) (K : V → Mem → Prop) : cbody Tryz.prog C0 (fun _ => none) 1000 (fnOf Tryz.prog 10) [(.I .i64 27), (.I .i64 sz), (.I .i64 14)] [] K = F10_27_14 sz (fun u => K (.S u) []) := by kernel_rfl
theorem h10_27_14 (sz : Int) (k1 : List Int → Prop) (h : k1 (nameI 27 sz 14)) : F10_27_14 sz k1 := by
  have e : nameI 27 sz 14 = nmR [([115, 101, 116, 111], 1, 0), ([115, 101, 116, 110, 111], 1, 1), ([115, 101, 116, 98], 1, 2), ([115, 101, 116, 97, 101], 1, 3), ([115, 101, 116, 101], 1, 4), ([115, 101, 116, 110, 101], 1, 5), ([115, 101, 116, 98, 101], 1, 6), ([115, 101, 116, 97], 1, 7), ([115, 101, 116, 115], 1, 8), ([115, 101, 116, 110, 115], 1, 9), ([115, 101, 116, 112], 1, 10), ([115, 101, 116, 110, 112], 1, 11), ([115, 101, 116, 108], 1, 12), ([115, 101, 116, 103, 101], 1, 13), ([115, 101, 116, 108, 101], 1, 14), ([115, 101, 116, 103], 1, 15)] sz 14 := rfl
  rw [e] at h
  clear e
  cases a1 : (sz == 1) <;> cases a4 : (sz == 4) <;> cases a8 : (sz == 8) <;> simp_all [-beq_eq_false_iff_ne, F10_27_14, nmR, bne]
def F10_27_15 (sz : Int) (k1 : List Int → Prop) : Prop :=
  (bif (!(sz == 1)) then (k1 ([] : List Int)) else (k1 ([115, 101, 116, 103] : List Int)))
theorem F10_27_15_ok (sz : Int) (K : V → Mem → Prop) : cbody Tryz.prog C0 (fun _ => none) 1000 (fnOf Tryz.prog 10) [(.I .i64 27), (.I .i64 sz), (.I .i64 15)] [] K = F10_27_15 sz (fun u => K (.S u) []) := by kernel_rfl
theorem h10_27_15 (sz : Int) (k1 : List Int → Prop) (h : k1 (nameI 27 sz 15)) : F10_27_15 sz k1 := by
  have e : nameI 27 sz 15 = nmR [([115, 101, 116, 111], 1, 0), ([115, 101, 116, 110, 111], 1, 1), ([115, 101, 116, 98], 1, 2), ([115, 101, 116, 97, 101], 1, 3), ([115, 101, 116, 101], 1, 4), ([115, 101, 116, 110, 101], 1, 5), ([115, 101, 116, 98, 101], 1, 6), ([115, 101, 116, 97], 1, 7), ([115, 101, 116, 115], 1, 8), ([115, 101, 116, 110, 115], 1, 9), ([115, 101, 116, 112], 1, 10), ([115, 101, 116, 110, 112], 1, 11), ([115, 101, 116, 108], 1, 12), ([115, 101, 116, 103, 101], 1, 13), ([115, 101, 116, 108, 101], 1, 14), ([115, 101, 116, 103], 1, 15)] sz 15 := rfl
  rw [e] at h
  clear e
  cases a1 : (sz == 1) <;> cases a4 : (sz == 4) <;> cases a8 : (sz == 8) <;> simp_all [-beq_eq_false_iff_ne, F10_27_15, nmR, bne]
def F10_28_0 (sz : Int) (k1 : List Int → Prop) : Prop :=
  (bif (sz == 1) then (k1 ([] : List Int)) else (bif (sz == 4) then (k1 ([99, 109, 111, 118, 111, 108] : List Int)) else (bif (sz == 8) then (k1 ([99, 109, 111, 118, 111, 113] : List Int)) else (k1 ([] : List Int)))))
theorem F10_28_0_ok (sz : Int) (K : V → Mem → Prop) : cbody Tryz.prog C0 (fun _ => none) 1000 (fnOf Tryz.prog 10) [(.I .i64 28), (.I .i64 sz), (.I .i64 0)] [] K = F10_28_0 sz (fun u => K (.S u) []) := by kernel_rfl
theorem h10_28_0 (sz : Int) (k1 : List Int → Prop) (h : k1 (nameI 28 sz 0)) : F10_28_0 sz k1 := by
  have e : nameI 28 sz 0 = nmR [([99, 109, 111, 118, 111, 108], 4, 0), ([99, 109, 111, 118, 110, 111, 108], 4, 1), ([99, 109, 111, 118, 98, 108], 4, 2), ([99, 109, 111, 118, 97, 101, 108], 4, 3), ([99, 109, 111, 118, 101, 108], 4, 4), ([99, 109, 111, 118, 110, 101, 108], 4, 5), ([99, 109, 111, 118, 98, 101, 108], 4, 6), ([99, 109, 111, 118, 97, 108], 4, 7), ([99, 109, 111, 118, 115, 108], 4, 8), ([99, 109, 111, 118, 110, 115, 108], 4, 9), ([99, 109, 111, 118, 112, 108], 4, 10), ([99, 109, 111, 118, 110, 112, 108], 4, 11), ([99, 109, 111, 118, 108, 108], 4, 12), ([99, 109, 111, 118, 103, 101, 108], 4, 13), ([99, 109, 111, 118, 108, 101, 108], 4, 14), ([99, 109, 111, 118, 103, 108], 4, 15), ([99, 109, 111, 118, 111, 113], 8, 0), ([99, 109, 111, 118, 110, 111, 113], 8, 1), ([99, 109, 111, 118, 98, 113], 8, 2), ([99, 109, 111, 118, 97, 101, 113], 8, 3), ([99, 109, 111, 118, 101, 113], 8, 4), ([99, 109, 111, 118, 110, 101, 113], 8, 5), ([99, 109, 111, 118, 98, 101, 113], 8, 6), ([99, 109, 111, 118, 97, 113], 8, 7), ([99, 109, 111, 118, 115, 113], 8, 8), ([99, 109, 111, 118, 110, 115, 113], 8, 9), ([99, 109, 111, 118, 112, 113], 8, 10), ([99, 109, 111, 118, 110, 112, 113], 8, 11), ([99, 109, 111, 118, 108, 113], 8, 12), ([99, 109, 111, 118, 103, 101, 113], 8, 13), ([99, 109, 111, 118, 108, 101, 113], 8, 14), ([99, 109, 111, 118, 103, 113], 8, 15)] sz 0 := rfl
  rw [e] at h
  clear e
  cases a1 : (sz == 1) <;> cases a4 : (sz == 4) <;> cases a8 : (sz == 8) <;> simp_all [-beq_eq_false_iff_ne, F10_28_0, nmR, bne]
def F10_28_1 (sz : Int) (k1 : List Int → Prop) : Prop :=
  (bif (sz == 1) then (k1 ([] : List Int)) else (bif (sz == 4) then (k1 ([99, 109, 111, 118, 110, 111, 108] : List Int)) else (bif (sz == 8) then (k1 ([99, 109, 111, 118, 110, 111, 113] : List Int)) else (k1 ([] : List Int)))))
theorem F10_28_1_ok (sz : Int) (K : V → Mem → Prop) : cbody Tryz.prog C0 (fun _ => none) 1000 (fnOf Tryz.prog 10) [(.I .i64 28), (.I .i64 sz), (.I .i64 1)] [] K = F10_28_1 sz (fun u => K (.S u) []) := by kernel_rfl
theorem h10_28_1 (sz : Int) (k1 : List Int → Prop) (h : k1 (nameI 28 sz 1)) : F10_28_1 sz k1 := by
  have e : nameI 28 sz 1 = nmR [([99, 109, 111, 118, 111, 108], 4, 0), ([99, 109, 111, 118, 110, 111, 108], 4, 1), ([99, 109, 111, 118, 98, 108], 4, 2), ([99, 109, 111, 118, 97, 101, 108], 4, 3), ([99, 109, 111, 118, 101, 108], 4, 4), ([99, 109, 111, 118, 110, 101, 108], 4, 5), ([99, 109, 111, 118, 98, 101, 108], 4, 6), ([99, 109, 111, 118, 97, 108], 4, 7), ([99, 109, 111, 118, 115, 108], 4, 8), ([99, 109, 111, 118, 110, 115, 108], 4, 9), ([99, 109, 111, 118, 112, 108], 4, 10), ([99, 109, 111, 118, 110, 112, 108], 4, 11), ([99, 109, 111, 118, 108, 108], 4, 12), ([99, 109, 111, 118, 103, 101, 108], 4, 13), ([99, 109, 111, 118, 108, 101, 108], 4, 14), ([99, 109, 111, 118, 103, 108], 4, 15), ([99, 109, 111, 118, 111, 113], 8, 0), ([99, 109, 111, 118, 110, 111, 113], 8, 1), ([99, 109, 111, 118, 98, 113], 8, 2), ([99, 109, 111, 118, 97, 101, 113], 8, 3), ([99, 109, 111, 118, 101, 113], 8, 4), ([99, 109, 111, 118, 110, 101, 113], 8, 5), ([99, 109, 111, 118, 98, 101, 113], 8, 6), ([99, 109, 111, 118, 97, 113], 8, 7), ([99, 109, 111, 118, 115, 113], 8, 8), ([99, 109, 111, 118, 110, 115, 113], 8, 9), ([99, 109, 111, 118, 112, 113], 8, 10), ([99, 109, 111, 118, 110, 112, 113], 8, 11), ([99, 109, 111, 118, 108, 113], 8, 12), ([99, 109, 111, 118, 103, 101, 113], 8, 13), ([99, 109, 111, 118, 108, 101, 113], 8, 14), ([99, 109, 111, 118, 103, 113], 8, 15)] sz 1 := rfl
  rw [e] at h
  clear e
  cases a1 : (sz == 1) <;> cases a4 : (sz == 4) <;> cases a8 : (sz == 8) <;> simp_all [-beq_eq_false_iff_ne, F10_28_1, nmR, bne]
def F10_28_2 (sz : Int) (k1 : List Int → Prop) : Prop :=
  (bif (sz == 1) then (k1 ([] : List Int)) else (bif (sz == 4) then (k1 ([99, 109, 111, 118, 98, 108] : List Int)) else (bif (sz == 8) then (k1 ([99, 109, 111, 118, 98, 113] : List Int)) else (k1 ([] : List Int)))))
theorem F10_28_2_ok (sz : Int) (K : V → Mem → Prop) : cbody Tryz.prog C0 (fun _ => none) 1000 (fnOf Tryz.prog 10) [(.I .i64 28), (.I .i64 sz), (.I .i64 2)] [] K = F10_28_2 sz (fun u => K (.S u) []) := by kernel_rfl
theorem h10_28_2 (sz : Int) (k1 : List Int → Prop) (h : k1 (nameI 28 sz 2)) : F10_28_2 sz k1 := by
  have e : nameI 28 sz 2 = nmR [([99, 109, 111, 118, 111, 108], 4, 0), ([99, 109, 111, 118, 110, 111, 108], 4, 1), ([99, 109, 111, 118, 98, 108], 4, 2), ([99, 109, 111, 118, 97, 101, 108], 4, 3), ([99, 109, 111, 118, 101, 108], 4, 4), ([99, 109, 111, 118, 110, 101, 108], 4, 5), ([99, 109, 111, 118, 98, 101, 108], 4, 6), ([99, 109, 111, 118, 97, 108], 4, 7), ([99, 109, 111, 118, 115, 108], 4, 8), ([99, 109, 111, 118, 110, 115, 108], 4, 9), ([99, 109, 111, 118, 112, 108], 4, 10), ([99, 109, 111, 118, 110, 112, 108], 4, 11), ([99, 109, 111, 118, 108, 108], 4, 12), ([99, 109, 111, 118, 103, 101, 108], 4, 13), ([99, 109, 111, 118, 108, 101, 108], 4, 14), ([99, 109, 111, 118, 103, 108], 4, 15), ([99, 109, 111, 118, 111, 113], 8, 0), ([99, 109, 111, 118, 110, 111, 113], 8, 1), ([99, 109, 111, 118, 98, 113], 8, 2), ([99, 109, 111, 118, 97, 101, 113], 8, 3), ([99, 109, 111, 118, 101, 113], 8, 4), ([99, 109, 111, 118, 110, 101, 113], 8, 5), ([99, 109, 111, 118, 98, 101, 113], 8, 6), ([99, 109, 111, 118, 97, 113], 8, 7), ([99, 109, 111, 118, 115, 113], 8, 8), ([99, 109, 111, 118, 110, 115, 113], 8, 9), ([99, 109, 111, 118, 112, 113], 8, 10), ([99, 109, 111, 118, 110, 112, 113], 8, 11), ([99, 109, 111, 118, 108, 113], 8, 12), ([99, 109, 111, 118, 103, 101, 113], 8, 13), ([99, 109, 111, 118, 108, 101, 113], 8, 14), ([99, 109, 111, 118, 103, 113], 8, 15)] sz 2 := rfl
  rw [e] at h
  clear e
  cases a1 : (sz == 1) <;> cases a4 : (sz == 4) <;> cases a8 : (sz == 8) <;> simp_all [-beq_eq_false_iff_ne, F10_28_2, nmR, bne]
def F10_28_3 (sz : Int) (k1 : List Int → Prop) : Prop :=
  (bif (sz == 1) then (k1 ([] : List Int)) else (bif (sz == 4) then (k1 ([99, 109, 111, 118, 97, 101, 108] : List Int)) else (bif (sz == 8) then (k1 ([99, 109, 111, 118, 97, 101, 113] : List Int)) else (k1 ([] : List Int)))))
theorem F10_28_3_ok (sz : Int) (K : V → Mem → Prop) : cbody Tryz.prog C0 (fun _ => none) 1000 (fnOf Tryz.prog 10) [(.I .i64 28), (.I .i64 sz), (.I .i64 3)] [] K = F10_28_3 sz (fun u => K (.S u) []) := by kernel_rfl
theorem h10_28_3 (sz : Int) (k1 : List Int → Prop) (h : k1 (nameI 28 sz 3)) : F10_28_3 sz k1 := by
  have e : nameI 28 sz 3 = nmR [([99, 109, 111, 118, 111, 108], 4, 0), ([99, 109, 111, 118, 110, 111, 108], 4, 1), ([99, 109, 111, 118, 98, 108], 4, 2), ([99, 109, 111, 118, 97, 101, 108], 4, 3), ([99, 109, 111, 118, 101, 108], 4, 4), ([99, 109, 111, 118, 110, 101, 108], 4, 5), ([99, 109, 111, 118, 98, 101, 108], 4, 6), ([99, 109, 111, 118, 97, 108], 4, 7), ([99, 109, 111, 118, 115, 108], 4, 8), ([99, 109, 111, 118, 110, 115, 108], 4, 9), ([99, 109, 111, 118, 112, 108], 4, 10), ([99, 109, 111, 118, 110, 112, 108], 4, 11), ([99, 109, 111, 118, 108, 108], 4, 12), ([99, 109, 111, 118, 103, 101, 108], 4, 13), ([99, 109, 111, 118, 108, 101, 108], 4, 14), ([99, 109, 111, 118, 103, 108], 4, 15), ([99, 109, 111, 118, 111, 113], 8, 0), ([99, 109, 111, 118, 110, 111, 113], 8, 1), ([99, 109, 111, 118, 98, 113], 8, 2), ([99, 109, 111, 118, 97, 101, 113], 8, 3), ([99, 109, 111, 118, 101, 113], 8, 4), ([99, 109, 111, 118, 110, 101, 113], 8, 5), ([99, 109, 111, 118, 98, 101, 113], 8, 6), ([99, 109, 111, 118, 97, 113], 8, 7), ([99, 109, 111, 118, 115, 113], 8, 8), ([99, 109, 111, 118, 110, 115, 113], 8, 9), ([99, 109, 111, 118, 112, 113], 8, 10), ([99, 109, 111, 118, 110, 112, 113], 8, 11), ([99, 109, 111, 118, 108, 113], 8, 12), ([99, 109, 111, 118, 103, 101, 113], 8, 13), ([99, 109, 111, 118, 108, 101, 113], 8, 14), ([99, 109, 111, 118, 103, 113], 8, 15)] sz 3 := rfl
  rw [e] at h
  clear e
  cases a1 : (sz == 1) <;> cases a4 : (sz == 4) <;> cases a8 : (sz == 8) <;> simp_all [-beq_eq_false_iff_ne, F10_28_3, nmR, bne]
def F10_28_4 (sz : Int) (k1 : List Int → Prop) : Prop :=
  (bif (sz == 1) then (k1 ([] : List Int)) else (bif (sz == 4) then (k1 ([99, 109, 111, 118, 101, 108] : List Int)) else (bif (sz == 8) then (k1 ([99, 109, 111, 118, 101, 113] : List Int)) else (k1 ([] : List Int)))))
theorem F10_28_4_ok (sz : Int) (K : V → Mem → Prop) : cbody Tryz.prog C0 (fun _ => none) 1000 (fnOf Tryz.prog 10) [(.I .i64 28), (.I .i64 sz), (.I .i64 4)] [] K = F10_28_4 sz (fun u => K (.S u) []) := by kernel_rfl
theorem h10_28_4 (sz : Int) (k1 : List Int → Prop) (h : k1 (nameI 28 sz 4)) : F10_28_4 sz k1 := by
  have e : nameI 28 sz 4 = nmR [([99, 109, 111, 118, 111, 108], 4, 0), ([99, 109, 111, 118, 110, 111, 108], 4, 1), ([99, 109, 111, 118, 98, 108], 4, 2), ([99, 109, 111, 118, 97, 101, 108], 4, 3), ([99, 109, 111, 118, 101, 108], 4, 4), ([99, 109, 111, 118, 110, 101, 108], 4, 5), ([99, 109, 111, 118, 98, 101, 108], 4, 6), ([99, 109, 111, 118, 97, 108], 4, 7), ([99, 109, 111, 118, 115, 108], 4, 8), ([99, 109, 111, 118, 110, 115, 108], 4, 9), ([99, 109, 111, 118, 112, 108], 4, 10), ([99, 109, 111, 118, 110, 112, 108], 4, 11), ([99, 109, 111, 118, 108, 108], 4, 12), ([99, 109, 111, 118, 103, 101, 108], 4, 13), ([99, 109, 111, 118, 108, 101, 108], 4, 14), ([99, 109, 111, 118, 103, 108], 4, 15), ([99, 109, 111, 118, 111, 113], 8, 0), ([99, 109, 111, 118, 110, 111, 113], 8, 1), ([99, 109, 111, 118, 98, 113], 8, 2), ([99, 109, 111, 118, 97, 101, 113], 8, 3), ([99, 109, 111, 118, 101, 113], 8, 4), ([99, 109, 111, 118, 110, 101, 113], 8, 5), ([99, 109, 111, 118, 98, 101, 113], 8, 6), ([99, 109, 111, 118, 97, 113], 8, 7), ([99, 109, 111, 118, 115, 113], 8, 8), ([99, 109, 111, 118, 110, 115, 113], 8, 9), ([99, 109, 111, 118, 112, 113], 8, 10), ([99, 109, 111, 118, 110, 112, 113], 8, 11), ([99, 109, 111, 118, 108, 113], 8, 12), ([99, 109, 111, 118, 103, 101, 113], 8, 13), ([99, 109, 111, 118, 108, 101, 113], 8, 14), ([99, 109, 111, 118, 103, 113], 8, 15)] sz 4 := rfl
  rw [e] at h
  clear e
  cases a1 : (sz == 1) <;> cases a4 : (sz == 4) <;> cases a8 : (sz == 8) <;> simp_all [-beq_eq_false_iff_ne, F10_28_4, nmR, bne]
def F10_28_5 (sz : Int) (k1 : List Int → Prop) : Prop :=
  (bif (sz == 1) then (k1 ([] : List Int)) else (bif (sz == 4) then (k1 ([99, 109, 111, 118, 110, 101, 108] : List Int)) else (bif (sz == 8) then (k1 ([99, 109, 111, 118, 110, 101, 113] : List Int)) else (k1 ([] : List Int)))))
theorem F10_28_5_ok (sz : Int) (K : V → Mem → Prop) : cbody Tryz.prog C0 (fun _ => none) 1000 (fnOf Tryz.prog 10) [(.I .i64 28), (.I .i64 sz), (.I .i64 5)] [] K = F10_28_5 sz (fun u => K (.S u) []) := by kernel_rfl
theorem h10_28_5 (sz : Int) (k1 : List Int → Prop) (h : k1 (nameI 28 sz 5)) : F10_28_5 sz k1 := by
  have e : nameI 28 sz 5 = nmR [([99, 109, 111, 118, 111, 108], 4, 0), ([99, 109, 111, 118, 110, 111, 108], 4, 1), ([99, 109, 111, 118, 98, 108], 4, 2), ([99, 109, 111, 118, 97, 101, 108], 4, 3), ([99, 109, 111, 118, 101, 108], 4, 4), ([99, 109, 111, 118, 110, 101, 108], 4, 5), ([99, 109, 111, 118, 98, 101, 108], 4, 6), ([99, 109, 111, 118, 97, 108], 4, 7), ([99, 109, 111, 118, 115, 108], 4, 8), ([99, 109, 111, 118, 110, 115, 108], 4, 9), ([99, 109, 111, 118, 112, 108], 4, 10), ([99, 109, 111, 118, 110, 112, 108], 4, 11), ([99, 109, 111, 118, 108, 108], 4, 12), ([99, 109, 111, 118, 103, 101, 108], 4, 13), ([99, 109, 111, 118, 108, 101, 108], 4, 14), ([99, 109, 111, 118, 103, 108], 4, 15), ([99, 109, 111, 118, 111, 113], 8, 0), ([99, 109, 111, 118, 110, 111, 113], 8, 1), ([99, 109, 111, 118, 98, 113], 8, 2), ([99, 109, 111, 118, 97, 101, 113], 8, 3), ([99, 109, 111, 118, 101, 113], 8, 4), ([99, 109, 111, 118, 110, 101, 113], 8, 5), ([99, 109, 111, 118, 98, 101, 113], 8, 6), ([99, 109, 111, 118, 97, 113], 8, 7), ([99, 109, 111, 118, 115, 113], 8, 8), ([99, 109, 111, 118, 110, 115, 113], 8, 9), ([99, 109, 111, 118, 112, 113], 8, 10), ([99, 109, 111, 118, 110, 112, 113], 8, 11), ([99, 109, 111, 118, 108, 113], 8, 12), ([99, 109, 111, 118, 103, 101, 113], 8, 13), ([99, 109, 111, 118, 108, 101, 113], 8, 14), ([99, 109, 111, 118, 103, 113], 8, 15)] sz 5 := rfl
  rw [e] at h
  clear e
  cases a1 : (sz == 1) <;> cases a4 : (sz == 4) <;> cases a8 : (sz == 8) <;> simp_all [-beq_eq_false_iff_ne, F10_28_5, nmR, bne]
def F10_28_6 (sz : Int) (k1 : List Int → Prop) : Prop :=
  (bif (sz == 1) then (k1 ([] : List Int)) else (bif (sz == 4) then (k1 ([99, 109, 111, 118, 98, 101, 108] : List Int)) else (bif (sz == 8) then (k1 ([99, 109, 111, 118, 98, 101, 113] : List Int)) else (k1 ([] : List Int)))))
theorem F10_28_6_ok (sz : Int) (K : V → Mem → Prop) : cbody Tryz.prog C0 (fun _ => none) 1000 (fnOf Tryz.prog 10) [(.I .i64 28), (.I .i64 sz), (.I .i64 6)] [] K = F10_28_6 sz (fun u => K (.S u) []) := by kernel_rfl
theorem h10_28_6 (sz : Int) (k1 : List Int → Prop) (h : k1 (nameI 28 sz 6)) : F10_28_6 sz k1 := by
  have e : nameI 28 sz 6 = nmR [([99, 109, 111, 118, 111, 108], 4, 0), ([99, 109, 111, 118, 110, 111, 108], 4, 1), ([99, 109, 111, 118, 98, 108], 4, 2), ([99, 109, 111, 118, 97, 101, 108], 4, 3), ([99, 109, 111, 118, 101, 108], 4, 4), ([99, 109, 111, 118, 110, 101, 108], 4, 5), ([99, 109, 111, 118, 98, 101, 108], 4, 6), ([99, 109, 111, 118, 97, 108], 4, 7), ([99, 109, 111, 118, 115, 108], 4, 8), ([99, 109, 111, 118, 110, 115, 108], 4, 9), ([99, 109, 111, 118, 112, 108], 4, 10), ([99, 109, 111, 118, 110, 112, 108], 4, 11), ([99, 109, 111, 118, 108, 108], 4, 12), ([99, 109, 111, 118, 103, 101, 108], 4, 13), ([99, 109, 111, 118, 108, 101, 108], 4, 14), ([99, 109, 111, 118, 103, 108], 4, 15), ([99, 109, 111, 118, 111, 113], 8, 0), ([99, 109, 111, 118, 110, 111, 113], 8, 1), ([99, 109, 111, 118, 98, 113], 8, 2), ([99, 109, 111, 118, 97, 101, 113], 8, 3), ([99, 109, 111, 118, 101, 113], 8, 4), ([99, 109, 111, 118, 110, 101, 113], 8, 5), ([99, 109, 111, 118, 98, 101, 113], 8, 6), ([99, 109, 111, 118, 97, 113], 8, 7), ([99, 109, 111, 118, 115, 113], 8, 8), ([99, 109, 111, 118, 110, 115, 113], 8, 9), ([99, 109, 111, 118, 112, 113], 8, 10), ([99, 109, 111, 118, 110, 112, 113], 8, 11), ([99, 109, 111, 118, 108, 113], 8, 12), ([99, 109, 111, 118, 103, 101, 113], 8, 13), ([99, 109, 111, 118, 108, 101, 113], 8, 14), ([99, 109, 111, 118, 103, 113], 8, 15)] sz 6 := rfl
  rw [e] at h
  clear e
  cases a1 : (sz == 1) <;> cases a4 : (sz == 4) <;> cases a8 : (sz == 8) <;> simp_all [-beq_eq_false_iff_ne, F10_28_6, nmR, bne]
def F10_28_7 (sz : Int) (k1 : List Int → Prop) : Prop :=
  (bif (sz == 1) then (k1 ([] : List Int)) else (bif (sz == 4) then (k1 ([99, 109, 111, 118, 97, 108] : List Int)) else (bif (sz == 8) then (k1 ([99, 109, 111, 118, 97, 113] : List Int)) else (k1 ([] : List Int)))))
theorem F10_28_7_ok (sz : Int) (K : V → Mem → Prop) : cbody Tryz.prog C0 (fun _ => none) 1000 (fnOf Tryz.prog 10) [(.I .i64 28), (.I .i64 sz), (.I .i64 7)] [] K = F10_28_7 sz (fun u => K (.S u) []) := by kernel_rfl
theorem h10_28_7 (sz : Int) (k1 : List Int → Prop) (h : k1 (nameI 28 sz 7)) : F10_28_7 sz k1 := by
  have e : nameI 28 sz 7 = nmR [([99, 109, 111, 118, 111, 108], 4, 0), ([99, 109, 111, 118, 110, 111, 108], 4, 1), ([99, 109, 111, 118, 98, 108], 4, 2), ([99, 109, 111, 118, 97, 101, 108], 4, 3), ([99, 109, 111, 118, 101, 108], 4, 4), ([99, 109, 111, 118, 110, 101, 108], 4, 5), ([99, 109, 111, 118, 98, 101, 108], 4, 6), ([99, 109, 111, 118, 97, 108], 4, 7), ([99, 109, 111, 118, 115, 108], 4, 8), ([99, 109, 111, 118, 110, 115, 108], 4, 9), ([99, 109, 111, 118, 112, 108], 4, 10), ([99, 109, 111, 118, 110, 112, 108], 4, 11), ([99, 109, 111, 118, 108, 108], 4, 12), ([99, 109, 111, 118, 103, 101, 108], 4, 13), ([99, 109, 111, 118, 108, 101, 108], 4, 14), ([99, 109, 111, 118, 103, 108], 4, 15), ([99, 109, 111, 118, 111, 113], 8, 0), ([99, 109, 111, 118, 110, 111, 113], 8, 1), ([99, 109, 111, 118, 98, 113], 8, 2), ([99, 109, 111, 118, 97, 101, 113], 8, 3), ([99, 109, 111, 118, 101, 113], 8, 4), ([99, 109, 111, 118, 110, 101, 113], 8, 5), ([99, 109, 111, 118, 98, 101, 113], 8, 6), ([99, 109, 111, 118, 97, 113], 8, 7), ([99, 109, 111, 118, 115, 113], 8, 8), ([99, 109, 111, 118, 110, 115, 113], 8, 9), ([99, 109, 111, 118, 112, 113], 8, 10), ([99, 109, 111, 118, 110, 112, 113], 8, 11), ([99, 109, 111, 118, 108, 113], 8, 12), ([99, 109, 111, 118, 103, 101, 113], 8, 13), ([99, 109, 111, 118, 108, 101, 113], 8, 14), ([99, 109, 111, 118, 103, 113], 8, 15)] sz 7 := rfl
  rw [e] at h
  clear e
  cases a1 : (sz == 1) <;> cases a4 : (sz == 4) <;> cases a8 : (sz == 8) <;> simp_all [-beq_eq_false_iff_ne, F10_28_7, nmR, bne]
def F10_28_8 (sz : Int) (k1 : List Int → Prop) : Prop :=
  (bif (sz == 1) then (k1 ([] : List Int)) else (bif (sz == 4) then (k1 ([99, 109, 111, 118, 115, 108] : List Int)) else (bif (sz == 8) then (k1 ([99, 109, 111, 118, 115, 113] : List Int)) else (k1 ([] : List Int)))))
theorem F10_28_8_ok (sz : Int) (K : V → Mem → Prop) : cbody Tryz.prog C0 (fun _ => none) 1000 (fnOf Tryz.prog 10) [(.I .i64 28), (.I .i64 sz), (.I .i64 8)] [] K = F10_28_8 sz (fun u => K (.S u) []) := by kernel_rfl
theorem h10_28_8 (sz : Int) (k1 : List Int → Prop) (h : k1 (nameI 28 sz 8)) : F10_28_8 sz k1 := by
  have e : nameI 28 sz 8 = nmR [([99, 109, 111, 118, 111, 108], 4, 0), ([99, 109, 111, 118, 110, 111, 108], 4, 1), ([99, 109, 111, 118, 98, 108], 4, 2), ([99, 109, 111, 118, 97, 101, 108], 4, 3), ([99, 109, 111, 118, 101, 108], 4, 4), ([99, 109, 111, 118, 110, 101, 108], 4, 5), ([99, 109, 111, 118, 98, 101, 108], 4, 6), ([99, 109, 111, 118, 97, 108], 4, 7), ([99, 109, 111, 118, 115, 108], 4, 8), ([99, 109, 111, 118, 110, 115, 108], 4, 9), ([99, 109, 111, 118, 112, 108], 4, 10), ([99, 109, 111, 118, 110, 112, 108], 4, 11), ([99, 109, 111, 118, 108, 108], 4, 12), ([99, 109, 111, 118, 103, 101, 108], 4, 13), ([99, 109, 111, 118, 108, 101, 108], 4, 14), ([99, 109, 111, 118, 103, 108], 4, 15), ([99, 109, 111, 118, 111, 113], 8, 0), ([99, 109, 111, 118, 110, 111, 113], 8, 1), ([99, 109, 111, 118, 98, 113], 8, 2), ([99, 109, 111, 118, 97, 101, 113], 8, 3), ([99, 109, 111, 118, 101, 113], 8, 4), ([99, 109, 111, 118, 110, 101, 113], 8, 5), ([99, 109, 111, 118, 98, 101, 113], 8, 6), ([99, 109, 111, 118, 97, 113], 8, 7), ([99, 109, 111, 118, 115, 113], 8, 8), ([99, 109, 111, 118, 110, 115, 113], 8, 9), ([99, 109, 111, 118, 112, 113], 8, 10), ([99, 109, 111, 118, 110, 112, 113], 8, 11), ([99, 109, 111, 118, 108, 113], 8, 12), ([99, 109, 111, 118, 103, 101, 113], 8, 13), ([99, 109, 111, 118, 108, 101, 113], 8, 14), ([99, 109, 111, 118, 103, 113], 8, 15)] sz 8 := rfl
  rw [e] at h
  clear e
  cases a1 : (sz == 1) <;> cases a4 : (sz == 4) <;> cases a8 : (sz == 8) <;> simp_all [-beq_eq_false_iff_ne, F10_28_8, nmR, bne]
def F10_28_9 (sz : Int) (k1 : List Int → Prop) : Prop :=
  (bif (sz == 1) then (k1 ([] : List Int)) else (bif (sz == 4) then (k1 ([99, 109, 111, 118, 110, 115, 108] : List Int)) else (bif (sz == 8) then (k1 ([99, 109, 111, 118, 110, 115, 113] : List Int)) else (k1 ([] : List Int)))))
theorem F10_28_9_ok (sz : Int) (K : V → Mem → Prop) : cbody Tryz.prog C0 (fun _ => none) 1000 (fnOf Tryz.prog 10) [(.I .i64 28), (.I .i64 sz), (.I .i64 9)] [] K = F10_28_9 sz (fun u => K (.S u) []) := by kernel_rfl
theorem h10_28_9 (sz : Int) (k1 : List Int → Prop) (h : k1 (nameI 28 sz 9)) : F10_28_9 sz k1 := by
  have e : nameI 28 sz 9 = nmR [([99, 109, 111, 118, 111, 108], 4, 0), ([99, 109, 111, 118, 110, 111, 108], 4, 1), ([99, 109, 111, 118, 98, 108], 4, 2), ([99, 109, 111, 118, 97, 101, 108], 4, 3), ([99, 109, 111, 118, 101, 108], 4, 4), ([99, 109, 111, 118, 110, 101, 108], 4, 5), ([99, 109, 111, 118, 98, 101, 108], 4, 6), ([99, 109, 111, 118, 97, 108], 4, 7), ([99, 109, 111, 118, 115, 108], 4, 8), ([99, 109, 111, 118, 110, 115, 108], 4, 9), ([99, 109, 111, 118, 112, 108], 4, 10), ([99, 109, 111, 118, 110, 112, 108], 4, 11), ([99, 109, 111, 118, 108, 108], 4, 12), ([99, 109, 111, 118, 103, 101, 108], 4, 13), ([99, 109, 111, 118, 108, 101, 108], 4, 14), ([99, 109, 111, 118, 103, 108], 4, 15), ([99, 109, 111, 118, 111, 113], 8, 0), ([99, 109, 111, 118, 110, 111, 113], 8, 1), ([99, 109, 111, 118, 98, 113], 8, 2), ([99, 109, 111, 118, 97, 101, 113], 8, 3), ([99, 109, 111, 118, 101, 113], 8, 4), ([99, 109, 111, 118, 110, 101, 113], 8, 5), ([99, 109, 111, 118, 98, 101, 113], 8, 6), ([99, 109, 111, 118, 97, 113], 8, 7), ([99, 109, 111, 118, 115, 113], 8, 8), ([99, 109, 111, 118, 110, 115, 113], 8, 9), ([99, 109, 111, 118, 112, 113], 8, 10), ([99, 109, 111, 118, 110, 112, 113], 8, 11), ([99, 109, 111, 118, 108, 113], 8, 12), ([99, 109, 111, 118, 103, 101, 113], 8, 13), ([99, 109, 111, 118, 108, 101, 113], 8, 14), ([99, 109, 111, 118, 103, 113], 8, 15)] sz 9 := rfl
  rw [e] at h
  clear e
  cases a1 : (sz == 1) <;> cases a4 : (sz == 4) <;> cases a8 : (sz == 8) <;> simp_all [-beq_eq_false_iff_ne, F10_28_9, nmR, bne]
def F10_28_10 (sz : Int) (k1 : List Int → Prop) : Prop :=
  (bif (sz == 1) then (k1 ([] : List Int)) else (bif (sz == 4) then (k1 ([99, 109, 111, 118, 112, 108] : List Int)) else (bif (sz == 8) then (k1 ([99, 109, 111, 118, 112, 113] : List Int)) else (k1 ([] : List Int)))))
theorem F10_28_10_ok (sz : Int) (K : V → Mem → Prop) : cbody Tryz.prog C0 (fun _ => none) 1000 (fnOf Tryz.prog 10) [(.I .i64 28), (.I .i64 sz), (.I .i64 10)] [] K = F10_28_10 sz (fun u => K (.S u) []) := by kernel_rfl
theorem h10_28_10 (sz : Int) (k1 : List Int → Prop) (h : k1 (nameI 28 sz 10)) : F10_28_10 sz k1 := by
  have e : nameI 28 sz 10 = nmR [([99, 109, 111, 118, 111, 108], 4, 0), ([99, 109, 111, 118, 110, 111, 108], 4, 1), ([99, 109, 111, 118, 98, 108], 4, 2), ([99, 109, 111, 118, 97, 101, 108], 4, 3), ([99, 109, 111, 118, 101, 108], 4, 4), ([99, 109, 111, 118, 110, 101, 108], 4, 5), ([99, 109, 111, 118, 98, 101, 108], 4, 6), ([99, 109, 111, 118, 97, 108], 4, 7), ([99, 109, 111, 118, 115, 108], 4, 8), ([99, 109, 111, 118, 110, 115, 108], 4, 9), ([99, 109, 111, 118, 112, 108], 4, 10), ([99, 109, 111, 118, 110, 112, 108], 4, 11), ([99, 109, 111, 118, 108, 108], 4, 12), ([99, 109, 111, 118, 103, 101, 108], 4, 13), ([99, 109, 111, 118, 108, 101, 108], 4, 14), ([99, 109, 111, 118, 103, 108], 4, 15), ([99, 109, 111, 118, 111, 113], 8, 0), ([99, 109, 111, 118, 110, 111, 113], 8, 1), ([99, 109, 111, 118, 98, 113], 8, 2), ([99, 109, 111, 118, 97, 101, 113], 8, 3), ([99, 109, 111, 118, 101, 113], 8, 4), ([99, 109, 111, 118, 110, 101, 113], 8, 5), ([99, 109, 111, 118, 98, 101, 113], 8, 6), ([99, 109, 111, 118, 97, 113], 8, 7), ([99, 109, 111, 118, 115, 113], 8, 8), ([99, 109, 111, 118, 110, 115, 113], 8, 9), ([99, 109, 111, 118, 112, 113], 8, 10), ([99, 109, 111, 118, 110, 112, 113], 8, 11), ([99, 109, 111, 118, 108, 113], 8, 12), ([99, 109, 111, 118, 103, 101, 113], 8, 13), ([99, 109, 111, 118, 108, 101, 113], 8, 14), ([99, 109, 111, 118, 103, 113], 8, 15)] sz 10 := rfl
  rw [e] at h
  clear e
  cases a1 : (sz == 1) <;> cases a4 : (sz == 4) <;> cases a8 : (sz == 8) <;> simp_all [-beq_eq_false_iff_ne, F10_28_10, nmR, bne]
def F10_28_11 (sz : Int) (k1 : List Int → Prop) : Prop :=
  (bif (sz == 1) then (k1 ([] : List Int)) else (bif (sz == 4) then (k1 ([99, 109, 111, 118, 110, 112, 108] : List Int)) else (bif (sz == 8) then (k1 ([99, 109, 111, 118, 110, 112, 113] : List Int)) else (k1 ([] : List Int)))))
theorem F10_28_11_ok (sz : Int) (K : V → Mem → Prop) : cbody Tryz.prog C0 (fun _ => none) 1000 (fnOf Tryz.prog 10) [(.I .i64 28), (.I .i64 sz), (.I .i64 11)] [] K = F10_28_11 sz (fun u => K (.S u) []) := by kernel_rfl
theorem h10_28_11 (sz : Int) (k1 : List Int → Prop) (h : k1 (nameI 28 sz 11)) : F10_28_11 sz k1 := by
  have e : nameI 28 sz 11 = nmR [([99, 109, 111, 118, 111, 108], 4, 0), ([99, 109, 111, 118, 110, 111, 108], 4, 1), ([99, 109, 111, 118, 98, 108], 4, 2), ([99, 109, 111, 118, 97, 101, 108], 4, 3), ([99, 109, 111, 118, 101, 108], 4, 4), ([99, 109, 111, 118, 110, 101, 108], 4, 5), ([99, 109, 111, 118, 98, 101, 108], 4, 6), ([99, 109, 111, 118, 97, 108], 4, 7), ([99, 109, 111, 118, 115, 108], 4, 8), ([99, 109, 111, 118, 110, 115, 108], 4, 9), ([99, 109, 111, 118, 112, 108], 4, 10), ([99, 109, 111, 118, 110, 112, 108], 4, 11), ([99, 109, 111, 118, 108, 108], 4, 12), ([99, 109, 111, 118, 103, 101, 108], 4, 13), ([99, 109, 111, 118, 108, 101, 108], 4, 14), ([99, 109, 111, 118, 103, 108], 4, 15), ([99, 109, 111, 118, 111, 113], 8, 0), ([99, 109, 111, 118, 110, 111, 113], 8, 1), ([99, 109, 111, 118, 98, 113], 8, 2), ([99, 109, 111, 118, 97, 101, 113], 8, 3), ([99, 109, 111, 118, 101, 113], 8, 4), ([99, 109, 111, 118, 110, 101, 113], 8, 5), ([99, 109, 111, 118, 98, 101, 113], 8, 6), ([99, 109, 111, 118, 97, 113], 8, 7), ([99, 109, 111, 118, 115, 113], 8, 8), ([99, 109, 111, 118, 110, 115, 113], 8, 9), ([99, 109, 111, 118, 112, 113], 8, 10), ([99, 109, 111, 118, 110, 112, 113], 8, 11), ([99, 109, 111, 118, 108, 113], 8, 12), ([99, 109, 111, 118, 103, 101, 113], 8, 13), ([99, 109, 111, 118, 108, 101, 113], 8, 14), ([99, 109, 111, 118, 103, 113], 8, 15)] sz 11 := rfl
  rw [e] at h
  clear e
  cases a1 : (sz == 1) <;> cases a4 : (sz == 4) <;> cases a8 : (sz == 8) <;> simp_all [-beq_eq_false_iff_ne, F10_28_11, nmR, bne]
def F10_28_12 (sz : Int) (k1 : List Int → Prop) : Prop :=
  (bif (sz == 1) then (k1 ([] : List Int)) else (bif (sz == 4) then (k1 ([99, 109, 111, 118, 108, 108] : List Int)) else (bif (sz == 8) then (k1 ([99, 109, 111, 118, 108, 113] : List Int)) else (k1 ([] : List Int)))))
theorem F10_28_12_ok (sz : Int) (K : V → Mem → Prop) : cbody Tryz.prog C0 (fun _ => none) 1000 (fnOf Tryz.prog 10) [(.I .i64 28), (.I .i64 sz), (.I .i64 12)] [] K = F10_28_12 sz (fun u => K (.S u) []) := by kernel_rfl
theorem h10_28_12 (sz : Int) (k1 : List Int → Prop) (h : k1 (nameI 28 sz 12)) : F10_28_12 sz k1 := by
  have e : nameI 28 sz 12 = nmR [([99, 109, 111, 118, 111, 108], 4, 0), ([99, 109, 111, 118, 110, 111, 108], 4, 1), ([99, 109, 111, 118, 98, 108], 4, 2), ([99, 109, 111, 118, 97, 101, 108], 4, 3), ([99, 109, 111, 118, 101, 108], 4, 4), ([99, 109, 111, 118, 110, 101, 108], 4, 5), ([99, 109, 111, 118, 98, 101, 108], 4, 6), ([99, 109, 111, 118, 97, 108], 4, 7), ([99, 109, 111, 118, 115, 108], 4, 8), ([99, 109, 111, 118, 110, 115, 108], 4, 9), ([99, 109, 111, 118, 112, 108], 4, 10), ([99, 109, 111, 118, 110, 112, 108], 4, 11), ([99, 109, 111, 118, 108, 108], 4, 12), ([99, 109, 111, 118, 103, 101, 108], 4, 13), ([99, 109, 111, 118, 108, 101, 108], 4, 14), ([99, 109, 111, 118, 103, 108], 4, 15), ([99, 109, 111, 118, 111, 113], 8, 0), ([99, 109, 111, 118, 110, 111, 113], 8, 1), ([99, 109, 111, 118, 98, 113], 8, 2), ([99, 109, 111, 118, 97, 101, 113], 8, 3), ([99, 109, 111, 118, 101, 113], 8, 4), ([99, 109, 111, 118, 110, 101, 113], 8, 5), ([99, 109, 111, 118, 98, 101, 113], 8, 6), ([99, 109, 111, 118, 97, 113], 8, 7), ([99, 109, 111, 118, 115, 113], 8, 8), ([99, 109, 111, 118, 110, 115, 113], 8, 9), ([99, 109, 111, 118, 112, 113], 8, 10), ([99, 109, 111, 118, 110, 112, 113], 8, 11), ([99, 109, 111, 118, 108, 113], 8, 12), ([99, 109, 111, 118, 103, 101, 113], 8, 13), ([99, 109, 111, 118, 108, 101, 113], 8, 14), ([99, 109, 111, 118, 103, 113], 8, 15)] sz 12 := rfl
  rw [e] at h
  clear e
  cases a1 : (sz == 1) <;> cases a4 : (sz == 4) <;> cases a8 : (sz == 8) <;> simp_all [-beq_eq_false_iff_ne, F10_28_12, nmR, bne]
def F10_28_13 (sz : Int) (k1 : List Int → Prop) : Prop :=
  (bif (sz == 1) then (k1 ([] : List Int)) else (bif (sz == 4) then (k1 ([99, 109, 111, 118, 103, 101, 108] : List Int)) else (bif (sz == 8) then (k1 ([99, 109, 111, 118, 103, 101, 113] : List Int)) else (k1 ([] : List Int)))))
theorem F10_28_13_ok (sz : Int) (K : V → Mem → Prop) : cbody Tryz.prog C0 (fun _ => none) 1000 (fnOf Tryz.prog 10) [(.I .i64 28), (.I .i64 sz), (.I .i64 13)] [] K = F10_28_13 sz (fun u => K (.S u) []) := by kernel_rfl
theorem h10_28_13 (sz : Int) (k1 : List Int → Prop) (h : k1 (nameI 28 sz 13)) : F10_28_13 sz k1 := by
  have e : nameI 28 sz 13 = nmR [([99, 109, 111, 118, 111, 108], 4, 0), ([99, 109, 111, 118, 110, 111, 108], 4, 1), ([99, 109, 111, 118, 98, 108], 4, 2), ([99, 109, 111, 118, 97, 101, 108], 4, 3), ([99, 109, 111, 118, 101, 108], 4, 4), ([99, 109, 111, 118, 110, 101, 108], 4, 5), ([99, 109, 111, 118, 98, 101, 108], 4, 6), ([99, 109, 111, 118, 97, 108], 4, 7), ([99, 109, 111, 118, 115, 108], 4, 8), ([99, 109, 111, 118, 110, 115, 108], 4, 9), ([99, 109, 111, 118, 112, 108], 4, 10), ([99, 109, 111, 118, 110, 112, 108], 4, 11), ([99, 109, 111, 118, 108, 108], 4, 12), ([99, 109, 111, 118, 103, 101, 108], 4, 13), ([99, 109, 111, 118, 108, 101, 108], 4, 14), ([99, 109, 111, 118, 103, 108], 4, 15), ([99, 109, 111, 118, 111, 113], 8, 0), ([99, 109, 111, 118, 110, 111, 113], 8, 1), ([99, 109, 111, 118, 98, 113], 8, 2), ([99, 109, 111, 118, 97, 101, 113], 8, 3), ([99, 109, 111, 118, 101, 113], 8, 4), ([99, 109, 111, 118, 110, 101, 113], 8, 5), ([99, 109, 111, 118, 98, 101, 113], 8, 6), ([99, 109, 111, 118, 97, 113], 8, 7), ([99, 109, 111, 118, 115, 113], 8, 8), ([99, 109, 111, 118, 110, 115, 113], 8, 9), ([99, 109, 111, 118, 112, 113], 8, 10), ([99, 109, 111, 118, 110, 112, 113], 8, 11), ([99, 109, 111, 118, 108, 113], 8, 12), ([99, 109, 111, 118, 103, 101, 113], 8, 13), ([99, 109, 111, 118, 108, 101, 113], 8, 14), ([99, 109, 111, 118, 103, 113], 8, 15)] sz 13 := rfl
  rw [e] at h
  clear e
  cases a1 : (sz == 1) <;> cases a4 : (sz == 4) <;> cases a8 : (sz == 8) <;> simp_all [-beq_eq_false_iff_ne, F10_28_13, nmR, bne]
def F10_28_14 (sz : Int) (k1 : List Int → Prop) : Prop :=
  (bif (sz == 1) then (k1 ([] : List Int)) else (bif (sz == 4) then (k1 ([99, 109, 111, 118, 108, 101, 108] : List Int)) else (bif (sz == 8) then (k1 ([99, 109, 111, 118, 108, 101, 113] : List Int)) else (k1 ([] : List Int)))))
theorem F10_28_14_ok (sz : Int) (K : V → Mem → Prop) : cbody Tryz.prog C0 (fun _ => none) 1000 (fnOf Tryz.prog 10) [(.I .i64 28), (.I .i64 sz), (.I .i64 14)] [] K = F10_28_14 sz (fun u => K (.S u) []) := by kernel_rfl
theorem h10_28_14 (sz : Int) (k1 : List Int → Prop) (h : k1 (nameI 28 sz 14)) : F10_28_14 sz k1 := by
  have e : nameI 28 sz 14 = nmR [([99, 109, 111, 118, 111, 108], 4, 0), ([99, 109, 111, 118, 110, 111, 108], 4, 1), ([99, 109, 111, 118, 98, 108], 4, 2), ([99, 109, 111, 118, 97, 101, 108], 4, 3), ([99, 109, 111, 118, 101, 108], 4, 4), ([99, 109, 111, 118, 110, 101, 108], 4, 5), ([99, 109, 111, 118, 98, 101, 108], 4, 6), ([99, 109, 111, 118, 97, 108], 4, 7), ([99, 109, 111, 118, 115, 108], 4, 8), ([99, 109, 111, 118, 110, 115, 108], 4, 9), ([99, 109, 111, 118, 112, 108], 4, 10), ([99, 109, 111, 118, 110, 112, 108], 4, 11), ([99, 109, 111, 118, 108, 108], 4, 12), ([99, 109, 111, 118, 103, 101, 108], 4, 13), ([99, 109, 111, 118, 108, 101, 108], 4, 14), ([99, 109, 111, 118, 103, 108], 4, 15), ([99, 109, 111, 118, 111, 113], 8, 0), ([99, 109, 111, 118, 110, 111, 113], 8, 1), ([99, 109, 111, 118, 98, 113], 8, 2), ([99, 109, 111, 118, 97, 101, 113], 8, 3), ([99, 109, 111, 118, 101, 113], 8, 4), ([99, 109, 111, 118, 110, 101, 113], 8, 5), ([99, 109, 111, 118, 98, 101, 113], 8, 6), ([99, 109, 111, 118, 97, 113], 8, 7), ([99, 109, 111, 118, 115, 113], 8, 8), ([99, 109, 111, 118, 110, 115, 113], 8, 9), ([99, 109, 111, 118, 112, 113], 8, 10), ([99, 109, 111, 118, 110, 112, 113], 8, 11), ([99, 109, 111, 118, 108, 113], 8, 12), ([99, 109, 111, 118, 103, 101, 113], 8, 13), ([99, 109, 111, 118, 108, 101, 113], 8, 14), ([99, 109, 111, 118, 103, 113], 8, 15)] sz 14 := rfl
  rw [e] at h
  clear e
  cases a1 : (sz == 1) <;> cases a4 : (sz == 4) <;> cases a8 : (sz == 8) <;> simp_all [-beq_eq_false_iff_ne, F10_28_14, nmR, bne]
def F10_28_15 (sz : Int) (k1 : List Int → Prop) : Prop :=
  (bif (sz == 1) then (k1 ([] : List Int)) else (bif (sz == 4) then (k1 ([99, 109, 111, 118, 103, 108] : List Int)) else (bif (sz == 8) then (k1 ([99, 109, 111, 118, 103, 113] : List Int)) else (k1 ([] : List Int)))))
theorem F10_28_15_ok (sz : Int) (K : V → Mem → Prop) : cbody Tryz.prog C0 (fun _ => none) 1000 (fnOf Tryz.prog 10) [(.I .i64 28), (.I .i64 sz), (.I .i64 15)] [] K = F10_28_15 sz (fun u => K (.S u) []) := by kernel_rfl
theorem h10_28_15 (sz : Int) (k1 : List Int → Prop) (h : k1 (nameI 28 sz 15)) : F10_28_15 sz k1 := by
  have e : nameI 28 sz 15 = nmR [([99, 109, 111, 118, 111, 108], 4, 0), ([99, 109, 111, 118, 110, 111, 108], 4, 1), ([99, 109, 111, 118, 98, 108], 4, 2), ([99, 109, 111, 118, 97, 101, 108], 4, 3), ([99, 109, 111, 118, 101, 108], 4, 4), ([99, 109, 111, 118, 110, 101, 108], 4, 5), ([99, 109, 111, 118, 98, 101, 108], 4, 6), ([99, 109, 111, 118, 97, 108], 4, 7), ([99, 109, 111, 118, 115, 108], 4, 8), ([99, 109, 111, 118, 110, 115, 108], 4, 9), ([99, 109, 111, 118, 112, 108], 4, 10), ([99, 109, 111, 118, 110, 112, 108], 4, 11), ([99, 109, 111, 118, 108, 108], 4, 12), ([99, 109, 111, 118, 103, 101, 108], 4, 13), ([99, 109, 111, 118, 108, 101, 108], 4, 14), ([99, 109, 111, 118, 103, 108], 4, 15), ([99, 109, 111, 118, 111, 113], 8, 0), ([99, 109, 111, 118, 110, 111, 113], 8, 1), ([99, 109, 111, 118, 98, 113], 8, 2), ([99, 109, 111, 118, 97, 101, 113], 8, 3), ([99, 109, 111, 118, 101, 113], 8, 4), ([99, 109, 111, 118, 110, 101, 113], 8, 5), ([99, 109, 111, 118, 98, 101, 113], 8, 6), ([99, 109, 111, 118, 97, 113], 8, 7), ([99, 109, 111, 118, 115, 113], 8, 8), ([99, 109, 111, 118, 110, 115, 113], 8, 9), ([99, 109, 111, 118, 112, 113], 8, 10), ([99, 109, 111, 118, 110, 112, 113], 8, 11), ([99, 109, 111, 118, 108, 113], 8, 12), ([99, 109, 111, 118, 103, 101, 113], 8, 13), ([99, 109, 111, 118, 108, 101, 113], 8, 14), ([99, 109, 111, 118, 103, 113], 8, 15)] sz 15 := rfl
  rw [e] at h
  clear e
  cases a1 : (sz == 1) <;> cases a4 : (sz == 4) <;> cases a8 : (sz == 8) <;> simp_all [-beq_eq_false_iff_ne, F10_28_15, nmR, bne]
def F10_29 (sz cd : Int) (k1 : List Int → Prop) : Prop :=
  (bif (decide (cd < 0)) then (k1 ([] : List Int)) else (bif (decide (cd > 15)) then (k1 ([] : List Int)) else (bif (sz == 1) then (k1 ([] : List Int)) else (bif (sz == 4) then (bif (cd != 0) then (k1 ([] : List Int)) else (k1 ([109, 111, 118, 122, 98, 108] : List Int))) else (bif (sz == 8) then (bif (cd != 0) then (k1 ([] : List Int)) else (k1 ([109, 111, 118, 122, 98, 113] : List Int))) else (k1 ([] : List Int)))))))
theorem F10_29_ok (sz cd : Int) (K : V → Mem → Prop) : cbody Tryz.prog C0 (fun _ => none) 1000 (fnOf Tryz.prog 10) [(.I .i64 29), (.I .i64 sz), (.I .i64 cd)] [] K = F10_29 sz cd (fun u => K (.S u) []) := by kernel_rfl
theorem h10_29 (sz cd : Int) (k1 : List Int → Prop) (h : k1 (nameI 29 sz cd)) : F10_29 sz cd k1 := by
  have e : nameI 29 sz cd = nmR [([109, 111, 118, 122, 98, 108], 4, 0), ([109, 111, 118, 122, 98, 113], 8, 0)] sz cd := rfl
  rw [e] at h
  clear e
  cases a1 : (sz == 1) <;> cases a4 : (sz == 4) <;> cases a8 : (sz == 8) <;> cases a0 : (sz == 0) <;> cases c0 : (cd == 0) <;> simp_all [-beq_eq_false_iff_ne, F10_29, nmR, bne]
def F10_30 (sz cd : Int) (k1 : List Int → Prop) : Prop :=
  (bif (decide (cd < 0)) then (k1 ([] : List Int)) else (bif (decide (cd > 15)) then (k1 ([] : List Int)) else (bif (sz == 1) then (k1 ([] : List Int)) else (bif (sz == 4) then (bif (cd != 0) then (k1 ([] : List Int)) else (k1 ([109, 111, 118, 115, 98, 108] : List Int))) else (bif (sz == 8) then (bif (cd != 0) then (k1 ([] : List Int)) else (k1 ([109, 111, 118, 115, 98, 113] : List Int))) else (k1 ([] : List Int)))))))
theorem F10_30_ok (sz cd : Int) (K : V → Mem → Prop) : cbody Tryz.prog C0 (fun _ => none) 1000 (fnOf Tryz.prog 10) [(.I .i64 30), (.I .i64 sz), (.I .i64 cd)] [] K = F10_30 sz cd (fun u => K (.S u) []) := by kernel_rfl
theorem h10_30 (sz cd : Int) (k1 : List Int → Prop) (h : k1 (nameI 30 sz cd)) : F10_30 sz cd k1 := by
  have e : nameI 30 sz cd = nmR [([109, 111, 118, 115, 98, 108], 4, 0), ([109, 111, 118, 115, 98, 113], 8, 0)] sz cd := rfl
  rw [e] at h
  clear e
  cases a1 : (sz == 1) <;> cases a4 : (sz == 4) <;> cases a8 : (sz == 8) <;> cases a0 : (sz == 0) <;> cases c0 : (cd == 0) <;> simp_all [-beq_eq_false_iff_ne, F10_30, nmR, bne]
def F10_31 (sz cd : Int) (k1 : List Int → Prop) : Prop :=
  (bif (decide (cd < 0)) then (k1 ([] : List Int)) else (bif (decide (cd > 15)) then (k1 ([] : List Int)) else (bif (sz == 1) then (k1 ([] : List Int)) else (bif (sz == 4) then (bif (cd != 0) then (k1 ([] : List Int)) else (k1 ([120, 99, 104, 103, 108] : List Int))) else (bif (sz == 8) then (bif (cd != 0) then (k1 ([] : List Int)) else (k1 ([120, 99, 104, 103, 113] : List Int))) else (k1 ([] : List Int)))))))
theorem F10_31_ok (sz cd : Int) (K : V → Mem → Prop) : cbody Tryz.prog C0 (fun _ => none) 1000 (fnOf Tryz.prog 10) [(.I .i64 31), (.I .i64 sz), (.I .i64 cd)] [] K = F10_31 sz cd (fun u => K (.S u) []) := by kernel_rfl
theorem h10_31 (sz cd : Int) (k1 : List Int → Prop) (h : k1 (nameI 31 sz cd)) : F10_31 sz cd k1 := by
  have e : nameI 31 sz cd = nmR [([120, 99, 104, 103, 108], 4, 0), ([120, 99, 104, 103, 113], 8, 0)] sz cd := rfl
  rw [e] at h
  clear e
  cases a1 : (sz == 1) <;> cases a4 : (sz == 4) <;> cases a8 : (sz == 8) <;> cases a0 : (sz == 0) <;> cases c0 : (cd == 0) <;> simp_all [-beq_eq_false_iff_ne, F10_31, nmR, bne]
def F10_32 (sz cd : Int) (k1 : List Int → Prop) : Prop :=
  (bif (decide (cd < 0)) then (k1 ([] : List Int)) else (bif (decide (cd > 15)) then (k1 ([] : List Int)) else (bif (!(sz == 0)) then (k1 ([] : List Int)) else (bif (cd != 0) then (k1 ([] : List Int)) else (k1 ([99, 113, 116, 111] : List Int))))))
theorem F10_32_ok (sz cd : Int) (K : V → Mem → Prop) : cbody Tryz.prog C0 (fun _ => none) 1000 (fnOf Tryz.prog 10) [(.I .i64 32), (.I .i64 sz), (.I .i64 cd)] [] K = F10_32 sz cd (fun u => K (.S u) []) := by kernel_rfl
theorem h10_32 (sz cd : Int) (k1 : List Int → Prop) (h : k1 (nameI 32 sz cd)) : F10_32 sz cd k1 := by
  have e : nameI 32 sz cd = nmR [([99, 113, 116, 111], 0, 0)] sz cd := rfl
  rw [e] at h
  clear e
  cases a1 : (sz == 1) <;> cases a4 : (sz == 4) <;> cases a8 : (sz == 8) <;> cases a0 : (sz == 0) <;> cases c0 : (cd == 0) <;> simp_all [-beq_eq_false_iff_ne, F10_32, nmR, bne]
def F10_33 (sz cd : Int) (k1 : List Int → Prop) : Prop :=
  (bif (decide (cd < 0)) then (k1 ([] : List Int)) else (bif (decide (cd > 15)) then (k1 ([] : List Int)) else (bif (!(sz == 0)) then (k1 ([] : List Int)) else (bif (cd != 0) then (k1 ([] : List Int)) else (k1 ([110, 111, 112] : List Int))))))
theorem F10_33_ok (sz cd : Int) (K : V → Mem → Prop) : cbody Tryz.prog C0 (fun _ => none) 1000 (fnOf Tryz.prog 10) [(.I .i64 33), (.I .i64 sz), (.I .i64 cd)] [] K = F10_33 sz cd (fun u => K (.S u) []) := by kernel_rfl
theorem h10_33 (sz cd : Int) (k1 : List Int → Prop) (h : k1 (nameI 33 sz cd)) : F10_33 sz cd k1 := by
  have e : nameI 33 sz cd = nmR [([110, 111, 112], 0, 0)] sz cd := rfl
  rw [e] at h
  clear e
  cases a1 : (sz == 1) <;> cases a4 : (sz == 4) <;> cases a8 : (sz == 8) <;> cases a0 : (sz == 0) <;> cases c0 : (cd == 0) <;> simp_all [-beq_eq_false_iff_ne, F10_33, nmR, bne]
def F10_34 (sz cd : Int) (k1 : List Int → Prop) : Prop :=
  (bif (decide (cd < 0)) then (k1 ([] : List Int)) else (bif (decide (cd > 15)) then (k1 ([] : List Int)) else (bif (!(sz == 0)) then (k1 ([] : List Int)) else (bif (cd != 0) then (k1 ([] : List Int)) else (k1 ([117, 100, 50] : List Int))))))
theorem F10_34_ok (sz cd : Int) (K : V → Mem → Prop) : cbody Tryz.prog C0 (fun _ => none) 1000 (fnOf Tryz.prog 10) [(.I .i64 34), (.I .i64 sz), (.I .i64 cd)] [] K = F10_34 sz cd (fun u => K (.S u) []) := by kernel_rfl
theorem h10_34 (sz cd : Int) (k1 : List Int → Prop) (h : k1 (nameI 34 sz cd)) : F10_34 sz cd k1 := by
  have e : nameI 34 sz cd = nmR [([117, 100, 50], 0, 0)] sz cd := rfl
  rw [e] at h
  clear e
  cases a1 : (sz == 1) <;> cases a4 : (sz == 4) <;> cases a8 : (sz == 8) <;> cases a0 : (sz == 0) <;> cases c0 : (cd == 0) <;> simp_all [-beq_eq_false_iff_ne, F10_34, nmR, bne]
def F10_35 (sz cd : Int) (k1 : List Int → Prop) : Prop :=
  (bif (decide (cd < 0)) then (k1 ([] : List Int)) else (bif (decide (cd > 15)) then (k1 ([] : List Int)) else (bif (!(sz == 0)) then (k1 ([] : List Int)) else (bif (cd != 0) then (k1 ([] : List Int)) else (k1 ([115, 121, 115, 99, 97, 108, 108] : List Int))))))
theorem F10_35_ok (sz cd : Int) (K : V → Mem → Prop) : cbody Tryz.prog C0 (fun _ => none) 1000 (fnOf Tryz.prog 10) [(.I .i64 35), (.I .i64 sz), (.I .i64 cd)] [] K = F10_35 sz cd (fun u => K (.S u) []) := by kernel_rfl
theorem h10_35 (sz cd : Int) (k1 : List Int → Prop) (h : k1 (nameI 35 sz cd)) : F10_35 sz cd k1 := by
  have e : nameI 35 sz cd = nmR [([115, 121, 115, 99, 97, 108, 108], 0, 0)] sz cd := rfl
  rw [e] at h
  clear e
  cases a1 : (sz == 1) <;> cases a4 : (sz == 4) <;> cases a8 : (sz == 8) <;> cases a0 : (sz == 0) <;> cases c0 : (cd == 0) <;> simp_all [-beq_eq_false_iff_ne, F10_35, nmR, bne]
theorem H10 (op : Int) (sz : Int) (cd : Int) {E : Wh} {w' : World} {cargs : Array Value} {K : V → Mem → Prop} (hS : Sim E [] w') (ha : VsRel E [.I .i64 op, .I .i64 sz, .I .i64 cd] cargs.toList) (h : K (.S (nameI op sz cd)) []) :
    ((∃ fn, Tryz.prog.funcs[10]? = some fn ∧ fn.body.isSome = true) ∧ Calls Tryz.prog 10 cargs w' (Ret K E [] w')) ∨ ∃ cv w1, (callFunc 10 cargs).run Tryz.prog w' = .ok (.value cv) w1 ∧ Ret K E [] w' (.returned cv) w1 := by
  by_cases hx : op < 1 ∨ op > 35 ∨ cd < 0 ∨ cd > 15
  · exact cbody_use named Cz_ok at10 (l := 0) rfl (LoopsOk.none _ _) (F10_z_ok op sz cd K) hS ha (h10_z op sz cd (fun u => K (.S u) []) hx h)
  · have ho : op = 1 ∨ op = 2 ∨ op = 3 ∨ op = 4 ∨ op = 5 ∨ op = 6 ∨ op = 7 ∨ op = 8 ∨ op = 9 ∨ op = 10 ∨ op = 11 ∨ op = 12 ∨ op = 13 ∨ op = 14 ∨ op = 15 ∨ op = 16 ∨ op = 17 ∨ op = 18 ∨ op = 19 ∨ op = 20 ∨ op = 21 ∨ op = 22 ∨ op = 23 ∨ op = 24 ∨ op = 25 ∨ op = 26 ∨ op = 27 ∨ op = 28 ∨ op = 29 ∨ op = 30 ∨ op = 31 ∨ op = 32 ∨ op = 33 ∨ op = 34 ∨ op = 35 := by omega
    have hc : cd = 0 ∨ cd = 1 ∨ cd = 2 ∨ cd = 3 ∨ cd = 4 ∨ cd = 5 ∨ cd = 6 ∨ cd = 7 ∨ cd = 8 ∨ cd = 9 ∨ cd = 10 ∨ cd = 11 ∨ cd = 12 ∨ cd = 13 ∨ cd = 14 ∨ cd = 15 := by omega
    clear hx
    rcases ho with rfl | rfl | rfl | rfl | rfl | rfl | rfl | rfl | rfl | rfl | rfl | rfl | rfl | rfl | rfl | rfl | rfl | rfl | rfl | rfl | rfl | rfl | rfl | rfl | rfl | rfl | rfl | rfl | rfl | rfl | rfl | rfl | rfl | rfl | rfl
    · exact cbody_use named C0_ok at10 (l := 0) rfl (LoopsOk.none _ _) (F10_1_ok sz cd K) hS ha (h10_1 sz cd (fun u => K (.S u) []) h)
    · exact cbody_use named C0_ok at10 (l := 0) rfl (LoopsOk.none _ _) (F10_2_ok sz cd K) hS ha (h10_2 sz cd (fun u => K (.S u) []) h)
    · exact cbody_use named C0_ok at10 (l := 0) rfl (LoopsOk.none _ _) (F10_3_ok sz cd K) hS ha (h10_3 sz cd (fun u => K (.S u) []) h)
    · exact cbody_use named C0_ok at10 (l := 0) rfl (LoopsOk.none _ _) (F10_4_ok sz cd K) hS ha (h10_4 sz cd (fun u => K (.S u) []) h)
    · exact cbody_use named C0_ok at10 (l := 0) rfl (LoopsOk.none _ _) (F10_5_ok sz cd K) hS ha (h10_5 sz cd (fun u => K (.S u) []) h)
    · exact cbody_use named C0_ok at10 (l := 0) rfl (LoopsOk.none _ _) (F10_6_ok sz cd K) hS ha (h10_6 sz cd (fun u => K (.S u) []) h)
    · exact cbody_use named C0_ok at10 (l := 0) rfl (LoopsOk.none _ _) (F10_7_ok sz cd K) hS ha (h10_7 sz cd (fun u => K (.S u) []) h)
    · exact cbody_use named C0_ok at10 (l := 0) rfl (LoopsOk.none _ _) (F10_8_ok sz cd K) hS ha (h10_8 sz cd (fun u => K (.S u) []) h)
    · exact cbody_use named C0_ok at10 (l := 0) rfl (LoopsOk.none _ _) (F10_9_ok sz cd K) hS ha (h10_9 sz cd (fun u => K (.S u) []) h)
    · exact cbody_use named C0_ok at10 (l := 0) rfl (LoopsOk.none _ _) (F10_10_ok sz cd K) hS ha (h10_10 sz cd (fun u => K (.S u) []) h)
    · exact cbody_use named C0_ok at10 (l := 0) rfl (LoopsOk.none _ _) (F10_11_ok sz cd K) hS ha (h10_11 sz cd (fun u => K (.S u) []) h)
    · exact cbody_use named C0_ok at10 (l := 0) rfl (LoopsOk.none _ _) (F10_12_ok sz cd K) hS ha (h10_12 sz cd (fun u => K (.S u) []) h)
    · exact cbody_use named C0_ok at10 (l := 0) rfl (LoopsOk.none _ _) (F10_13_ok sz cd K) hS ha (h10_13 sz cd (fun u => K (.S u) []) h)
    · exact cbody_use named C0_ok at10 (l := 0) rfl (LoopsOk.none _ _) (F10_14_ok sz cd K) hS ha (h10_14 sz cd (fun u => K (.S u) []) h)
    · exact cbody_use named C0_ok at10 (l := 0) rfl (LoopsOk.none _ _) (F10_15_ok sz cd K) hS ha (h10_15 sz cd (fun u => K (.S u) []) h)
    · exact cbody_use named C0_ok at10 (l := 0) rfl (LoopsOk.none _ _) (F10_16_ok sz cd K) hS ha (h10_16 sz cd (fun u => K (.S u) []) h)
    · exact cbody_use named C0_ok at10 (l := 0) rfl (LoopsOk.none _ _) (F10_17_ok sz cd K) hS ha (h10_17 sz cd (fun u => K (.S u) []) h)
    · exact cbody_use named C0_ok at10 (l := 0) rfl (LoopsOk.none _ _) (F10_18_ok sz cd K) hS ha (h10_18 sz cd (fun u => K (.S u) []) h)
    · exact cbody_use named C0_ok at10 (l := 0) rfl (LoopsOk.none _ _) (F10_19_ok sz cd K) hS ha (h10_19 sz cd (fun u => K (.S u) []) h)
    · exact cbody_use named C0_ok at10 (l := 0) rfl (LoopsOk.none _ _) (F10_20_ok sz cd K) hS ha (h10_20 sz cd (fun u => K (.S u) []) h)
    · exact cbody_use named C0_ok at10 (l := 0) rfl (LoopsOk.none _ _) (F10_21_ok sz cd K) hS ha (h10_21 sz cd (fun u => K (.S u) []) h)
    · exact cbody_use named C0_ok at10 (l := 0) rfl (LoopsOk.none _ _) (F10_22_ok sz cd K) hS ha (h10_22 sz cd (fun u => K (.S u) []) h)
    · exact cbody_use named C0_ok at10 (l := 0) rfl (LoopsOk.none _ _) (F10_23_ok sz cd K) hS ha (h10_23 sz cd (fun u => K (.S u) []) h)
    · rcases hc with rfl | rfl | rfl | rfl | rfl | rfl | rfl | rfl | rfl | rfl | rfl | rfl | rfl | rfl | rfl | rfl
      · exact cbody_use named C0_ok at10 (l := 0) rfl (LoopsOk.none _ _) (F10_24_0_ok sz K) hS ha (h10_24_0 sz (fun u => K (.S u) []) h)
      · exact cbody_use named C0_ok at10 (l := 0) rfl (LoopsOk.none _ _) (F10_24_1_ok sz K) hS ha (h10_24_1 sz (fun u => K (.S u) []) h)
      · exact cbody_use named C0_ok at10 (l := 0) rfl (LoopsOk.none _ _) (F10_24_2_ok sz K) hS ha (h10_24_2 sz (fun u => K (.S u) []) h)
      · exact cbody_use named C0_ok at10 (l := 0) rfl (LoopsOk.none _ _) (F10_24_3_ok sz K) hS ha (h10_24_3 sz (fun u => K (.S u) []) h)
      · exact cbody_use named C0_ok at10 (l := 0) rfl (LoopsOk.none _ _) (F10_24_4_ok sz K) hS ha (h10_24_4 sz (fun u => K (.S u) []) h)
      · exact cbody_use named C0_ok at10 (l := 0) rfl (LoopsOk.none _ _) (F10_24_5_ok sz K) hS ha (h10_24_5 sz (fun u => K (.S u) []) h)
      · exact cbody_use named C0_ok at10 (l := 0) rfl (LoopsOk.none _ _) (F10_24_6_ok sz K) hS ha (h10_24_6 sz (fun u => K (.S u) []) h)
      · exact cbody_use named C0_ok at10 (l := 0) rfl (LoopsOk.none _ _) (F10_24_7_ok sz K) hS ha (h10_24_7 sz (fun u => K (.S u) []) h)
      · exact cbody_use named C0_ok at10 (l := 0) rfl (LoopsOk.none _ _) (F10_24_8_ok sz K) hS ha (h10_24_8 sz (fun u => K (.S u) []) h)
      · exact cbody_use named C0_ok at10 (l := 0) rfl (LoopsOk.none _ _) (F10_24_9_ok sz K) hS ha (h10_24_9 sz (fun u => K (.S u) []) h)
      · exact cbody_use named C0_ok at10 (l := 0) rfl (LoopsOk.none _ _) (F10_24_10_ok sz K) hS ha (h10_24_10 sz (fun u => K (.S u) []) h)
      · exact cbody_use named C0_ok at10 (l := 0) rfl (LoopsOk.none _ _) (F10_24_11_ok sz K) hS ha (h10_24_11 sz (fun u => K (.S u) []) h)
      · exact cbody_use named C0_ok at10 (l := 0) rfl (LoopsOk.none _ _) (F10_24_12_ok sz K) hS ha (h10_24_12 sz (fun u => K (.S u) []) h)
      · exact cbody_use named C0_ok at10 (l := 0) rfl (LoopsOk.none _ _) (F10_24_13_ok sz K) hS ha (h10_24_13 sz (fun u => K (.S u) []) h)
      · exact cbody_use named C0_ok at10 (l := 0) rfl (LoopsOk.none _ _) (F10_24_14_ok sz K) hS ha (h10_24_14 sz (fun u => K (.S u) []) h)
      · exact cbody_use named C0_ok at10 (l := 0) rfl (LoopsOk.none _ _) (F10_24_15_ok sz K) hS ha (h10_24_15 sz (fun u => K (.S u) []) h)
    · exact cbody_use named C0_ok at10 (l := 0) rfl (LoopsOk.none _ _) (F10_25_ok sz cd K) hS ha (h10_25 sz cd (fun u => K (.S u) []) h)
    · exact cbody_use named C0_ok at10 (l := 0) rfl (LoopsOk.none _ _) (F10_26_ok sz cd K) hS ha (h10_26 sz cd (fun u => K (.S u) []) h)
    · rcases hc with rfl | rfl | rfl | rfl | rfl | rfl | rfl | rfl | rfl | rfl | rfl | rfl | rfl | rfl | rfl | rfl
      · exact cbody_use named C0_ok at10 (l := 0) rfl (LoopsOk.none _ _) (F10_27_0_ok sz K) hS ha (h10_27_0 sz (fun u => K (.S u) []) h)
      · exact cbody_use named C0_ok at10 (l := 0) rfl (LoopsOk.none _ _) (F10_27_1_ok sz K) hS ha (h10_27_1 sz (fun u => K (.S u) []) h)
      · exact cbody_use named C0_ok at10 (l := 0) rfl (LoopsOk.none _ _) (F10_27_2_ok sz K) hS ha (h10_27_2 sz (fun u => K (.S u) []) h)
      · exact cbody_use named C0_ok at10 (l := 0) rfl (LoopsOk.none _ _) (F10_27_3_ok sz K) hS ha (h10_27_3 sz (fun u => K (.S u) []) h)
      · exact cbody_use named C0_ok at10 (l := 0) rfl (LoopsOk.none _ _) (F10_27_4_ok sz K) hS ha (h10_27_4 sz (fun u => K (.S u) []) h)
      · exact cbody_use named C0_ok at10 (l := 0) rfl (LoopsOk.none _ _) (F10_27_5_ok sz K) hS ha (h10_27_5 sz (fun u => K (.S u) []) h)
      · exact cbody_use named C0_ok at10 (l := 0) rfl (LoopsOk.none _ _) (F10_27_6_ok sz K) hS ha (h10_27_6 sz (fun u => K (.S u) []) h)
      · exact cbody_use named C0_ok at10 (l := 0) rfl (LoopsOk.none _ _) (F10_27_7_ok sz K) hS ha (h10_27_7 sz (fun u => K (.S u) []) h)
      · exact cbody_use named C0_ok at10 (l := 0) rfl (LoopsOk.none _ _) (F10_27_8_ok sz K) hS ha (h10_27_8 sz (fun u => K (.S u) []) h)
      · exact cbody_use named C0_ok at10 (l := 0) rfl (LoopsOk.none _ _) (F10_27_9_ok sz K) hS ha (h10_27_9 sz (fun u => K (.S u) []) h)
      · exact cbody_use named C0_ok at10 (l := 0) rfl (LoopsOk.none _ _) (F10_27_10_ok sz K) hS ha (h10_27_10 sz (fun u => K (.S u) []) h)
      · exact cbody_use named C0_ok at10 (l := 0) rfl (LoopsOk.none _ _) (F10_27_11_ok sz K) hS ha (h10_27_11 sz (fun u => K (.S u) []) h)
      · exact cbody_use named C0_ok at10 (l := 0) rfl (LoopsOk.none _ _) (F10_27_12_ok sz K) hS ha (h10_27_12 sz (fun u => K (.S u) []) h)
      · exact cbody_use named C0_ok at10 (l := 0) rfl (LoopsOk.none _ _) (F10_27_13_ok sz K) hS ha (h10_27_13 sz (fun u => K (.S u) []) h)
      · exact cbody_use named C0_ok at10 (l := 0) rfl (LoopsOk.none _ _) (F10_27_14_ok sz K) hS ha (h10_27_14 sz (fun u => K (.S u) []) h)
      · exact cbody_use named C0_ok at10 (l := 0) rfl (LoopsOk.none _ _) (F10_27_15_ok sz K) hS ha (h10_27_15 sz (fun u => K (.S u) []) h)
    · rcases hc with rfl | rfl | rfl | rfl | rfl | rfl | rfl | rfl | rfl | rfl | rfl | rfl | rfl | rfl | rfl | rfl
      · exact cbody_use named C0_ok at10 (l := 0) rfl (LoopsOk.none _ _) (F10_28_0_ok sz K) hS ha (h10_28_0 sz (fun u => K (.S u) []) h)
      · exact cbody_use named C0_ok at10 (l := 0) rfl (LoopsOk.none _ _) (F10_28_1_ok sz K) hS ha (h10_28_1 sz (fun u => K (.S u) []) h)
      · exact cbody_use named C0_ok at10 (l := 0) rfl (LoopsOk.none _ _) (F10_28_2_ok sz K) hS ha (h10_28_2 sz (fun u => K (.S u) []) h)
      · exact cbody_use named C0_ok at10 (l := 0) rfl (LoopsOk.none _ _) (F10_28_3_ok sz K) hS ha (h10_28_3 sz (fun u => K (.S u) []) h)
      · exact cbody_use named C0_ok at10 (l := 0) rfl (LoopsOk.none _ _) (F10_28_4_ok sz K) hS ha (h10_28_4 sz (fun u => K (.S u) []) h)
      · exact cbody_use named C0_ok at10 (l := 0) rfl (LoopsOk.none _ _) (F10_28_5_ok sz K) hS ha (h10_28_5 sz (fun u => K (.S u) []) h)
      · exact cbody_use named C0_ok at10 (l := 0) rfl (LoopsOk.none _ _) (F10_28_6_ok sz K) hS ha (h10_28_6 sz (fun u => K (.S u) []) h)
      · exact cbody_use named C0_ok at10 (l := 0) rfl (LoopsOk.none _ _) (F10_28_7_ok sz K) hS ha (h10_28_7 sz (fun u => K (.S u) []) h)
      · exact cbody_use named C0_ok at10 (l := 0) rfl (LoopsOk.none _ _) (F10_28_8_ok sz K) hS ha (h10_28_8 sz (fun u => K (.S u) []) h)
      · exact cbody_use named C0_ok at10 (l := 0) rfl (LoopsOk.none _ _) (F10_28_9_ok sz K) hS ha (h10_28_9 sz (fun u => K (.S u) []) h)
      · exact cbody_use named C0_ok at10 (l := 0) rfl (LoopsOk.none _ _) (F10_28_10_ok sz K) hS ha (h10_28_10 sz (fun u => K (.S u) []) h)
      · exact cbody_use named C0_ok at10 (l := 0) rfl (LoopsOk.none _ _) (F10_28_11_ok sz K) hS ha (h10_28_11 sz (fun u => K (.S u) []) h)
      · exact cbody_use named C0_ok at10 (l := 0) rfl (LoopsOk.none _ _) (F10_28_12_ok sz K) hS ha (h10_28_12 sz (fun u => K (.S u) []) h)
      · exact cbody_use named C0_ok at10 (l := 0) rfl (LoopsOk.none _ _) (F10_28_13_ok sz K) hS ha (h10_28_13 sz (fun u => K (.S u) []) h)
      · exact cbody_use named C0_ok at10 (l := 0) rfl (LoopsOk.none _ _) (F10_28_14_ok sz K) hS ha (h10_28_14 sz (fun u => K (.S u) []) h)
      · exact cbody_use named C0_ok at10 (l := 0) rfl (LoopsOk.none _ _) (F10_28_15_ok sz K) hS ha (h10_28_15 sz (fun u => K (.S u) []) h)
    · exact cbody_use named C0_ok at10 (l := 0) rfl (LoopsOk.none _ _) (F10_29_ok sz cd K) hS ha (h10_29 sz cd (fun u => K (.S u) []) h)
    · exact cbody_use named C0_ok at10 (l := 0) rfl (LoopsOk.none _ _) (F10_30_ok sz cd K) hS ha (h10_30 sz cd (fun u => K (.S u) []) h)
    · exact cbody_use named C0_ok at10 (l := 0) rfl (LoopsOk.none _ _) (F10_31_ok sz cd K) hS ha (h10_31 sz cd (fun u => K (.S u) []) h)
    · exact cbody_use named C0_ok at10 (l := 0) rfl (LoopsOk.none _ _) (F10_32_ok sz cd K) hS ha (h10_32 sz cd (fun u => K (.S u) []) h)
    · exact cbody_use named C0_ok at10 (l := 0) rfl (LoopsOk.none _ _) (F10_33_ok sz cd K) hS ha (h10_33 sz cd (fun u => K (.S u) []) h)
    · exact cbody_use named C0_ok at10 (l := 0) rfl (LoopsOk.none _ _) (F10_34_ok sz cd K) hS ha (h10_34 sz cd (fun u => K (.S u) []) h)
    · exact cbody_use named C0_ok at10 (l := 0) rfl (LoopsOk.none _ _) (F10_35_ok sz cd K) hS ha (h10_35 sz cd (fun u => K (.S u) []) h)

def P10 : Prim := fun args m K =>
  let F := False
  (seeCons args F fun a1 q2 => (seeI .i64 a1 F fun op => (seeCons q2 F fun a3 q4 => (seeI .i64 a3 F fun sz => (seeCons q4 F fun a5 q6 => (seeI .i64 a5 F fun cd => (seeNil q6 F (seeNil m F (K (.S (nameI op sz cd)) [])))))))))
theorem P10_ok : PrimOk Tryz.prog 10 P10 := by
  intro args m K E w cargs hS ha h
  unfold P10 at h
  dsimp only at h
  replace h := seeCons_use h
  rcases h with h | ⟨a1, q2, rfl, h⟩
  · exact h.elim
  replace h := seeI_use h
  rcases h with h | ⟨op, rfl, h⟩
  · exact h.elim
  replace h := seeCons_use h
  rcases h with h | ⟨a3, q4, rfl, h⟩
  · exact h.elim
  replace h := seeI_use h
  rcases h with h | ⟨sz, rfl, h⟩
  · exact h.elim
  replace h := seeCons_use h
  rcases h with h | ⟨a5, q6, rfl, h⟩
  · exact h.elim
  replace h := seeI_use h
  rcases h with h | ⟨cd, rfl, h⟩
  · exact h.elim
  replace h := seeNil_use h
  rcases h with h | ⟨rfl, h⟩
  · exact h.elim
  replace h := seeNil_use h
  rcases h with h | ⟨rfl, h⟩
  · exact h.elim
  exact H10 op sz cd hS ha h
end Go.Proofs.YtkbijhfikkjhpaaGreatDoor.frm
