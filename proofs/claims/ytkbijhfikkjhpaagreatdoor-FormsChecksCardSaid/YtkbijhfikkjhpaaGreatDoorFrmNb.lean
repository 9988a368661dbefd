import Derived.Test.YtkbijhfikkjhpaaGreatDoorFrmNs
set_option linter.unusedVariables false
set_option linter.unusedSimpArgs false
set_option maxHeartbeats 4000000
set_option maxRecDepth 100000
namespace Go.Proofs.YtkbijhfikkjhpaaGreatDoor.frm
open Go Go.Ab
def F14_n (q : Nat) (sz cd : Int) (k1 : List Int → Prop) : Prop :=
  (k1 ([] : List Int))
theorem F14_n_ok (q : Nat) (sz cd : Int) (K : V → Mem → Prop) : cbody Tryz.prog C0 (fun _ => none) 1000 (fnOf Tryz.prog 14) [(.I .i64 (Int.negSucc (q + 1))), (.I .i64 sz), (.I .i64 cd)] [] K = F14_n q sz cd (fun u => K (.S u) []) := by kernel_rfl
def F14_m (sz cd : Int) (k1 : List Int → Prop) : Prop :=
  (k1 ([] : List Int))
theorem F14_m_ok (sz cd : Int) (K : V → Mem → Prop) : cbody Tryz.prog C0 (fun _ => none) 1000 (fnOf Tryz.prog 14) [(.I .i64 (-1)), (.I .i64 sz), (.I .i64 cd)] [] K = F14_m sz cd (fun u => K (.S u) []) := by kernel_rfl
def F14_0 (sz cd : Int) (k1 : List Int → Prop) : Prop :=
  (k1 ([] : List Int))
theorem F14_0_ok (sz cd : Int) (K : V → Mem → Prop) : cbody Tryz.prog C0 (fun _ => none) 1000 (fnOf Tryz.prog 14) [(.I .i64 0), (.I .i64 sz), (.I .i64 cd)] [] K = F14_0 sz cd (fun u => K (.S u) []) := by kernel_rfl
def F14_b (q : Nat) (sz cd : Int) (k1 : List Int → Prop) : Prop :=
  (k1 ([] : List Int))
theorem F14_b_ok (q : Nat) (sz cd : Int) (K : V → Mem → Prop) : cbody Tryz.prog C0 (fun _ => none) 1000 (fnOf Tryz.prog 14) [(.I .i64 (Int.ofNat (q + 36))), (.I .i64 sz), (.I .i64 cd)] [] K = F14_b q sz cd (fun u => K (.S u) []) := by kernel_rfl
def F14_1 (sz cd : Int) (k1 : List Int → Prop) : Prop :=
  (bif (sz == 1) then (bif (!(cd == 0)) then (k1 ([] : List Int)) else (bif (sz == 1) then (k1 ([109, 111, 118, 98] : List Int)) else (bif (sz == 4) then (k1 ([109, 111, 118, 108] : List Int)) else (bif (sz == 8) then (k1 ([109, 111, 118, 113] : List Int)) else (k1 ([109, 111, 118] : List Int)))))) else (bif (sz == 4) then (bif (!(cd == 0)) then (k1 ([] : List Int)) else (bif (sz == 1) then (k1 ([109, 111, 118, 98] : List Int)) else (bif (sz == 4) then (k1 ([109, 111, 118, 108] : List Int)) else (bif (sz == 8) then (k1 ([109, 111, 118, 113] : List Int)) else (k1 ([109, 111, 118] : List Int)))))) else (bif (!(sz == 8)) then (k1 ([] : List Int)) else (bif (!(cd == 0)) then (k1 ([] : List Int)) else (bif (sz == 1) then (k1 ([109, 111, 118, 98] : List Int)) else (bif (sz == 4) then (k1 ([109, 111, 118, 108] : List Int)) else (bif (sz == 8) then (k1 ([109, 111, 118, 113] : List Int)) else (k1 ([109, 111, 118] : List Int)))))))))
theorem F14_1_ok (sz cd : Int) (K : V → Mem → Prop) : cbody Tryz.prog C0 (fun _ => none) 1000 (fnOf Tryz.prog 14) [(.I .i64 1), (.I .i64 sz), (.I .i64 cd)] [] K = F14_1 sz cd (fun u => K (.S u) []) := by kernel_rfl
theorem h14_1 (sz cd : Int) (k1 : List Int → Prop) (h : k1 (nameI 1 sz cd)) : F14_1 sz cd k1 := by
  have e : nameI 1 sz cd = nmR [([109, 111, 118, 98], 1, 0), ([109, 111, 118, 108], 4, 0), ([109, 111, 118, 113], 8, 0)] sz cd := rfl
  rw [e] at h
  clear e
  cases a1 : (sz == 1) <;> cases a4 : (sz == 4) <;> cases a8 : (sz == 8) <;> cases a0 : (sz == 0) <;> cases c0 : (cd == 0) <;> simp_all [-beq_eq_false_iff_ne, F14_1, nmR, bne]
def F14_2 (sz cd : Int) (k1 : List Int → Prop) : Prop :=
  (bif (sz == 4) then (bif (!(cd == 0)) then (k1 ([] : List Int)) else (bif (sz == 1) then (k1 ([108, 101, 97, 98] : List Int)) else (bif (sz == 4) then (k1 ([108, 101, 97, 108] : List Int)) else (bif (sz == 8) then (k1 ([108, 101, 97, 113] : List Int)) else (k1 ([108, 101, 97] : List Int)))))) else (bif (!(sz == 8)) then (k1 ([] : List Int)) else (bif (!(cd == 0)) then (k1 ([] : List Int)) else (bif (sz == 1) then (k1 ([108, 101, 97, 98] : List Int)) else (bif (sz == 4) then (k1 ([108, 101, 97, 108] : List Int)) else (bif (sz == 8) then (k1 ([108, 101, 97, 113] : List Int)) else (k1 ([108, 101, 97] : List Int))))))))
theorem F14_2_ok (sz cd : Int) (K : V → Mem → Prop) : cbody Tryz.prog C0 (fun _ => none) 1000 (fnOf Tryz.prog 14) [(.I .i64 2), (.I .i64 sz), (.I .i64 cd)] [] K = F14_2 sz cd (fun u => K (.S u) []) := by kernel_rfl
theorem h14_2 (sz cd : Int) (k1 : List Int → Prop) (h : k1 (nameI 2 sz cd)) : F14_2 sz cd k1 := by
  have e : nameI 2 sz cd = nmR [([108, 101, 97, 108], 4, 0), ([108, 101, 97, 113], 8, 0)] sz cd := rfl
  rw [e] at h
  clear e
  cases a1 : (sz == 1) <;> cases a4 : (sz == 4) <;> cases a8 : (sz == 8) <;> cases a0 : (sz == 0) <;> cases c0 : (cd == 0) <;> simp_all [-beq_eq_false_iff_ne, F14_2, nmR, bne]
def F14_3 (sz cd : Int) (k1 : List Int → Prop) : Prop :=
  (bif (sz == 1) then (bif (!(cd == 0)) then (k1 ([] : List Int)) else (bif (sz == 1) then (k1 ([97, 100, 100, 98] : List Int)) else (bif (sz == 4) then (k1 ([97, 100, 100, 108] : List Int)) else (bif (sz == 8) then (k1 ([97, 100, 100, 113] : List Int)) else (k1 ([97, 100, 100] : List Int)))))) else (bif (sz == 4) then (bif (!(cd == 0)) then (k1 ([] : List Int)) else (bif (sz == 1) then (k1 ([97, 100, 100, 98] : List Int)) else (bif (sz == 4) then (k1 ([97, 100, 100, 108] : List Int)) else (bif (sz == 8) then (k1 ([97, 100, 100, 113] : List Int)) else (k1 ([97, 100, 100] : List Int)))))) else (bif (!(sz == 8)) then (k1 ([] : List Int)) else (bif (!(cd == 0)) then (k1 ([] : List Int)) else (bif (sz == 1) then (k1 ([97, 100, 100, 98] : List Int)) else (bif (sz == 4) then (k1 ([97, 100, 100, 108] : List Int)) else (bif (sz == 8) then (k1 ([97, 100, 100, 113] : List Int)) else (k1 ([97, 100, 100] : List Int)))))))))
theorem F14_3_ok (sz cd : Int) (K : V → Mem → Prop) : cbody Tryz.prog C0 (fun _ => none) 1000 (fnOf Tryz.prog 14) [(.I .i64 3), (.I .i64 sz), (.I .i64 cd)] [] K = F14_3 sz cd (fun u => K (.S u) []) := by kernel_rfl
theorem h14_3 (sz cd : Int) (k1 : List Int → Prop) (h : k1 (nameI 3 sz cd)) : F14_3 sz cd k1 := by
  have e : nameI 3 sz cd = nmR [([97, 100, 100, 98], 1, 0), ([97, 100, 100, 108], 4, 0), ([97, 100, 100, 113], 8, 0)] sz cd := rfl
  rw [e] at h
  clear e
  cases a1 : (sz == 1) <;> cases a4 : (sz == 4) <;> cases a8 : (sz == 8) <;> cases a0 : (sz == 0) <;> cases c0 : (cd == 0) <;> simp_all [-beq_eq_false_iff_ne, F14_3, nmR, bne]
def F14_4 (sz cd : Int) (k1 : List Int → Prop) : Prop :=
  (bif (sz == 1) then (bif (!(cd == 0)) then (k1 ([] : List Int)) else (bif (sz == 1) then (k1 ([111, 114, 98] : List Int)) else (bif (sz == 4) then (k1 ([111, 114, 108] : List Int)) else (bif (sz == 8) then (k1 ([111, 114, 113] : List Int)) else (k1 ([111, 114] : List Int)))))) else (bif (sz == 4) then (bif (!(cd == 0)) then (k1 ([] : List Int)) else (bif (sz == 1) then (k1 ([111, 114, 98] : List Int)) else (bif (sz == 4) then (k1 ([111, 114, 108] : List Int)) else (bif (sz == 8) then (k1 ([111, 114, 113] : List Int)) else (k1 ([111, 114] : List Int)))))) else (bif (!(sz == 8)) then (k1 ([] : List Int)) else (bif (!(cd == 0)) then (k1 ([] : List Int)) else (bif (sz == 1) then (k1 ([111, 114, 98] : List Int)) else (bif (sz == 4) then (k1 ([111, 114, 108] : List Int)) else (bif (sz == 8) then (k1 ([111, 114, 113] : List Int)) else (k1 ([111, 114] : List Int)))))))))
theorem F14_4_ok (sz cd : Int) (K : V → Mem → Prop) : cbody Tryz.prog C0 (fun _ => none) 1000 (fnOf Tryz.prog 14) [(.I .i64 4), (.I .i64 sz), (.I .i64 cd)] [] K = F14_4 sz cd (fun u => K (.S u) []) := by kernel_rfl
theorem h14_4 (sz cd : Int) (k1 : List Int → Prop) (h : k1 (nameI 4 sz cd)) : F14_4 sz cd k1 := by
  have e : nameI 4 sz cd = nmR [([111, 114, 98], 1, 0), ([111, 114, 108], 4, 0), ([111, 114, 113], 8, 0)] sz cd := rfl
  rw [e] at h
  clear e
  cases a1 : (sz == 1) <;> cases a4 : (sz == 4) <;> cases a8 : (sz == 8) <;> cases a0 : (sz == 0) <;> cases c0 : (cd == 0) <;> simp_all [-beq_eq_false_iff_ne, F14_4, nmR, bne]
def F14_5 (sz cd : Int) (k1 : List Int → Prop) : Prop :=
  (bif (sz == 1) then (bif (!(cd == 0)) then (k1 ([] : List Int)) else (bif (sz == 1) then (k1 ([97, 100, 99, 98] : List Int)) else (bif (sz == 4) then (k1 ([97, 100, 99, 108] : List Int)) else (bif (sz == 8) then (k1 ([97, 100, 99, 113] : List Int)) else (k1 ([97, 100, 99] : List Int)))))) else (bif (sz == 4) then (bif (!(cd == 0)) then (k1 ([] : List Int)) else (bif (sz == 1) then (k1 ([97, 100, 99, 98] : List Int)) else (bif (sz == 4) then (k1 ([97, 100, 99, 108] : List Int)) else (bif (sz == 8) then (k1 ([97, 100, 99, 113] : List Int)) else (k1 ([97, 100, 99] : List Int)))))) else (bif (!(sz == 8)) then (k1 ([] : List Int)) else (bif (!(cd == 0)) then (k1 ([] : List Int)) else (bif (sz == 1) then (k1 ([97, 100, 99, 98] : List Int)) else (bif (sz == 4) then (k1 ([97, 100, 99, 108] : List Int)) else (bif (sz == 8) then (k1 ([97, 100, 99, 113] : List Int)) else (k1 ([97, 100, 99] : List Int)))))))))
theorem F14_5_ok (sz cd : Int) (K : V → Mem → Prop) : cbody Tryz.prog C0 (fun _ => none) 1000 (fnOf Tryz.prog 14) [(.I .i64 5), (.I .i64 sz), (.I .i64 cd)] [] K = F14_5 sz cd (fun u => K (.S u) []) := by kernel_rfl
theorem h14_5 (sz cd : Int) (k1 : List Int → Prop) (h : k1 (nameI 5 sz cd)) : F14_5 sz cd k1 := by
  have e : nameI 5 sz cd = nmR [([97, 100, 99, 98], 1, 0), ([97, 100, 99, 108], 4, 0), ([97, 100, 99, 113], 8, 0)] sz cd := rfl
  rw [e] at h
  clear e
  cases a1 : (sz == 1) <;> cases a4 : (sz == 4) <;> cases a8 : (sz == 8) <;> cases a0 : (sz == 0) <;> cases c0 : (cd == 0) <;> simp_all [-beq_eq_false_iff_ne, F14_5, nmR, bne]
def F14_6 (sz cd : Int) (k1 : List Int → Prop) : Prop :=
  (bif (sz == 1) then (bif (!(cd == 0)) then (k1 ([] : List Int)) else (bif (sz == 1) then (k1 ([115, 98, 98, 98] : List Int)) else (bif (sz == 4) then (k1 ([115, 98, 98, 108] : List Int)) else (bif (sz == 8) then (k1 ([115, 98, 98, 113] : List Int)) else (k1 ([115, 98, 98] : List Int)))))) else (bif (sz == 4) then (bif (!(cd == 0)) then (k1 ([] : List Int)) else (bif (sz == 1) then (k1 ([115, 98, 98, 98] : List Int)) else (bif (sz == 4) then (k1 ([115, 98, 98, 108] : List Int)) else (bif (sz == 8) then (k1 ([115, 98, 98, 113] : List Int)) else (k1 ([115, 98, 98] : List Int)))))) else (bif (!(sz == 8)) then (k1 ([] : List Int)) else (bif (!(cd == 0)) then (k1 ([] : List Int)) else (bif (sz == 1) then (k1 ([115, 98, 98, 98] : List Int)) else (bif (sz == 4) then (k1 ([115, 98, 98, 108] : List Int)) else (bif (sz == 8) then (k1 ([115, 98, 98, 113] : List Int)) else (k1 ([115, 98, 98] : List Int)))))))))
theorem F14_6_ok (sz cd : Int) (K : V → Mem → Prop) : cbody Tryz.prog C0 (fun _ => none) 1000 (fnOf Tryz.prog 14) [(.I .i64 6), (.I .i64 sz), (.I .i64 cd)] [] K = F14_6 sz cd (fun u => K (.S u) []) := by kernel_rfl
theorem h14_6 (sz cd : Int) (k1 : List Int → Prop) (h : k1 (nameI 6 sz cd)) : F14_6 sz cd k1 := by
  have e : nameI 6 sz cd = nmR [([115, 98, 98, 98], 1, 0), ([115, 98, 98, 108], 4, 0), ([115, 98, 98, 113], 8, 0)] sz cd := rfl
  rw [e] at h
  clear e
  cases a1 : (sz == 1) <;> cases a4 : (sz == 4) <;> cases a8 : (sz == 8) <;> cases a0 : (sz == 0) <;> cases c0 : (cd == 0) <;> simp_all [-beq_eq_false_iff_ne, F14_6, nmR, bne]
def F14_7 (sz cd : Int) (k1 : List Int → Prop) : Prop :=
  (bif (sz == 1) then (bif (!(cd == 0)) then (k1 ([] : List Int)) else (bif (sz == 1) then (k1 ([97, 110, 100, 98] : List Int)) else (bif (sz == 4) then (k1 ([97, 110, 100, 108] : List Int)) else (bif (sz == 8) then (k1 ([97, 110, 100, 113] : List Int)) else (k1 ([97, 110, 100] : List Int)))))) else (bif (sz == 4) then (bif (!(cd == 0)) then (k1 ([] : List Int)) else (bif (sz == 1) then (k1 ([97, 110, 100, 98] : List Int)) else (bif (sz == 4) then (k1 ([97, 110, 100, 108] : List Int)) else (bif (sz == 8) then (k1 ([97, 110, 100, 113] : List Int)) else (k1 ([97, 110, 100] : List Int)))))) else (bif (!(sz == 8)) then (k1 ([] : List Int)) else (bif (!(cd == 0)) then (k1 ([] : List Int)) else (bif (sz == 1) then (k1 ([97, 110, 100, 98] : List Int)) else (bif (sz == 4) then (k1 ([97, 110, 100, 108] : List Int)) else (bif (sz == 8) then (k1 ([97, 110, 100, 113] : List Int)) else (k1 ([97, 110, 100] : List Int)))))))))
theorem F14_7_ok (sz cd : Int) (K : V → Mem → Prop) : cbody Tryz.prog C0 (fun _ => none) 1000 (fnOf Tryz.prog 14) [(.I .i64 7), (.I .i64 sz), (.I .i64 cd)] [] K = F14_7 sz cd (fun u => K (.S u) []) := by kernel_rfl
theorem h14_7 (sz cd : Int) (k1 : List Int → Prop) (h : k1 (nameI 7 sz cd)) : F14_7 sz cd k1 := by
  have e : nameI 7 sz cd = nmR [([97, 110, 100, 98], 1, 0), ([97, 110, 100, 108], 4, 0), ([97, 110, 100, 113], 8, 0)] sz cd := rfl
  rw [e] at h
  clear e
  cases a1 : (sz == 1) <;> cases a4 : (sz == 4) <;> cases a8 : (sz == 8) <;> cases a0 : (sz == 0) <;> cases c0 : (cd == 0) <;> simp_all [-beq_eq_false_iff_ne, F14_7, nmR, bne]
def F14_8 (sz cd : Int) (k1 : List Int → Prop) : Prop :=
  (bif (sz == 1) then (bif (!(cd == 0)) then (k1 ([] : List Int)) else (bif (sz == 1) then (k1 ([115, 117, 98, 98] : List Int)) else (bif (sz == 4) then (k1 ([115, 117, 98, 108] : List Int)) else (bif (sz == 8) then (k1 ([115, 117, 98, 113] : List Int)) else (k1 ([115, 117, 98] : List Int)))))) else (bif (sz == 4) then (bif (!(cd == 0)) then (k1 ([] : List Int)) else (bif (sz == 1) then (k1 ([115, 117, 98, 98] : List Int)) else (bif (sz == 4) then (k1 ([115, 117, 98, 108] : List Int)) else (bif (sz == 8) then (k1 ([115, 117, 98, 113] : List Int)) else (k1 ([115, 117, 98] : List Int)))))) else (bif (!(sz == 8)) then (k1 ([] : List Int)) else (bif (!(cd == 0)) then (k1 ([] : List Int)) else (bif (sz == 1) then (k1 ([115, 117, 98, 98] : List Int)) else (bif (sz == 4) then (k1 ([115, 117, 98, 108] : List Int)) else (bif (sz == 8) then (k1 ([115, 117, 98, 113] : List Int)) else (k1 ([115, 117, 98] : List Int)))))))))
theorem F14_8_ok (sz cd : Int) (K : V → Mem → Prop) : cbody Tryz.prog C0 (fun _ => none) 1000 (fnOf Tryz.prog 14) [(.I .i64 8), (.I .i64 sz), (.I .i64 cd)] [] K = F14_8 sz cd (fun u => K (.S u) []) := by kernel_rfl
theorem h14_8 (sz cd : Int) (k1 : List Int → Prop) (h : k1 (nameI 8 sz cd)) : F14_8 sz cd k1 := by
  have e : nameI 8 sz cd = nmR [([115, 117, 98, 98], 1, 0), ([115, 117, 98, 108], 4, 0), ([115, 117, 98, 113], 8, 0)] sz cd := rfl
  rw [e] at h
  clear e
  cases a1 : (sz == 1) <;> cases a4 : (sz == 4) <;> cases a8 : (sz == 8) <;> cases a0 : (sz == 0) <;> cases c0 : (cd == 0) <;> simp_all [-beq_eq_false_iff_ne, F14_8, nmR, bne]
def F14_9 (sz cd : Int) (k1 : List Int → Prop) : Prop :=
  (bif (sz == 1) then (bif (!(cd == 0)) then (k1 ([] : List Int)) else (bif (sz == 1) then (k1 ([120, 111, 114, 98] : List Int)) else (bif (sz == 4) then (k1 ([120, 111, 114, 108] : List Int)) else (bif (sz == 8) then (k1 ([120, 111, 114, 113] : List Int)) else (k1 ([120, 111, 114] : List Int)))))) else (bif (sz == 4) then (bif (!(cd == 0)) then (k1 ([] : List Int)) else (bif (sz == 1) then (k1 ([120, 111, 114, 98] : List Int)) else (bif (sz == 4) then (k1 ([120, 111, 114, 108] : List Int)) else (bif (sz == 8) then (k1 ([120, 111, 114, 113] : List Int)) else (k1 ([120, 111, 114] : List Int)))))) else (bif (!(sz == 8)) then (k1 ([] : List Int)) else (bif (!(cd == 0)) then (k1 ([] : List Int)) else (bif (sz == 1) then (k1 ([120, 111, 114, 98] : List Int)) else (bif (sz == 4) then (k1 ([120, 111, 114, 108] : List Int)) else (bif (sz == 8) then (k1 ([120, 111, 114, 113] : List Int)) else (k1 ([120, 111, 114] : List Int)))))))))
theorem F14_9_ok (sz cd : Int) (K : V → Mem → Prop) : cbody Tryz.prog C0 (fun _ => none) 1000 (fnOf Tryz.prog 14) [(.I .i64 9), (.I .i64 sz), (.I .i64 cd)] [] K = F14_9 sz cd (fun u => K (.S u) []) := by kernel_rfl
theorem h14_9 (sz cd : Int) (k1 : List Int → Prop) (h : k1 (nameI 9 sz cd)) : F14_9 sz cd k1 := by
  have e : nameI 9 sz cd = nmR [([120, 111, 114, 98], 1, 0), ([120, 111, 114, 108], 4, 0), ([120, 111, 114, 113], 8, 0)] sz cd := rfl
  rw [e] at h
  clear e
  cases a1 : (sz == 1) <;> cases a4 : (sz == 4) <;> cases a8 : (sz == 8) <;> cases a0 : (sz == 0) <;> cases c0 : (cd == 0) <;> simp_all [-beq_eq_false_iff_ne, F14_9, nmR, bne]
def F14_10 (sz cd : Int) (k1 : List Int → Prop) : Prop :=
  (bif (sz == 1) then (bif (!(cd == 0)) then (k1 ([] : List Int)) else (bif (sz == 1) then (k1 ([99, 109, 112, 98] : List Int)) else (bif (sz == 4) then (k1 ([99, 109, 112, 108] : List Int)) else (bif (sz == 8) then (k1 ([99, 109, 112, 113] : List Int)) else (k1 ([99, 109, 112] : List Int)))))) else (bif (sz == 4) then (bif (!(cd == 0)) then (k1 ([] : List Int)) else (bif (sz == 1) then (k1 ([99, 109, 112, 98] : List Int)) else (bif (sz == 4) then (k1 ([99, 109, 112, 108] : List Int)) else (bif (sz == 8) then (k1 ([99, 109, 112, 113] : List Int)) else (k1 ([99, 109, 112] : List Int)))))) else (bif (!(sz == 8)) then (k1 ([] : List Int)) else (bif (!(cd == 0)) then (k1 ([] : List Int)) else (bif (sz == 1) then (k1 ([99, 109, 112, 98] : List Int)) else (bif (sz == 4) then (k1 ([99, 109, 112, 108] : List Int)) else (bif (sz == 8) then (k1 ([99, 109, 112, 113] : List Int)) else (k1 ([99, 109, 112] : List Int)))))))))
theorem F14_10_ok (sz cd : Int) (K : V → Mem → Prop) : cbody Tryz.prog C0 (fun _ => none) 1000 (fnOf Tryz.prog 14) [(.I .i64 10), (.I .i64 sz), (.I .i64 cd)] [] K = F14_10 sz cd (fun u => K (.S u) []) := by kernel_rfl
theorem h14_10 (sz cd : Int) (k1 : List Int → Prop) (h : k1 (nameI 10 sz cd)) : F14_10 sz cd k1 := by
  have e : nameI 10 sz cd = nmR [([99, 109, 112, 98], 1, 0), ([99, 109, 112, 108], 4, 0), ([99, 109, 112, 113], 8, 0)] sz cd := rfl
  rw [e] at h
  clear e
  cases a1 : (sz == 1) <;> cases a4 : (sz == 4) <;> cases a8 : (sz == 8) <;> cases a0 : (sz == 0) <;> cases c0 : (cd == 0) <;> simp_all [-beq_eq_false_iff_ne, F14_10, nmR, bne]
def F14_11 (sz cd : Int) (k1 : List Int → Prop) : Prop :=
  (bif (sz == 1) then (bif (!(cd == 0)) then (k1 ([] : List Int)) else (bif (sz == 1) then (k1 ([116, 101, 115, 116, 98] : List Int)) else (bif (sz == 4) then (k1 ([116, 101, 115, 116, 108] : List Int)) else (bif (sz == 8) then (k1 ([116, 101, 115, 116, 113] : List Int)) else (k1 ([116, 101, 115, 116] : List Int)))))) else (bif (sz == 4) then (bif (!(cd == 0)) then (k1 ([] : List Int)) else (bif (sz == 1) then (k1 ([116, 101, 115, 116, 98] : List Int)) else (bif (sz == 4) then (k1 ([116, 101, 115, 116, 108] : List Int)) else (bif (sz == 8) then (k1 ([116, 101, 115, 116, 113] : List Int)) else (k1 ([116, 101, 115, 116] : List Int)))))) else (bif (!(sz == 8)) then (k1 ([] : List Int)) else (bif (!(cd == 0)) then (k1 ([] : List Int)) else (bif (sz == 1) then (k1 ([116, 101, 115, 116, 98] : List Int)) else (bif (sz == 4) then (k1 ([116, 101, 115, 116, 108] : List Int)) else (bif (sz == 8) then (k1 ([116, 101, 115, 116, 113] : List Int)) else (k1 ([116, 101, 115, 116] : List Int)))))))))
theorem F14_11_ok (sz cd : Int) (K : V → Mem → Prop) : cbody Tryz.prog C0 (fun _ => none) 1000 (fnOf Tryz.prog 14) [(.I .i64 11), (.I .i64 sz), (.I .i64 cd)] [] K = F14_11 sz cd (fun u => K (.S u) []) := by kernel_rfl
theorem h14_11 (sz cd : Int) (k1 : List Int → Prop) (h : k1 (nameI 11 sz cd)) : F14_11 sz cd k1 := by
  have e : nameI 11 sz cd = nmR [([116, 101, 115, 116, 98], 1, 0), ([116, 101, 115, 116, 108], 4, 0), ([116, 101, 115, 116, 113], 8, 0)] sz cd := rfl
  rw [e] at h
  clear e
  cases a1 : (sz == 1) <;> cases a4 : (sz == 4) <;> cases a8 : (sz == 8) <;> cases a0 : (sz == 0) <;> cases c0 : (cd == 0) <;> simp_all [-beq_eq_false_iff_ne, F14_11, nmR, bne]
def F14_12 (sz cd : Int) (k1 : List Int → Prop) : Prop :=
  (bif (sz == 4) then (bif (!(cd == 0)) then (k1 ([] : List Int)) else (bif (sz == 1) then (k1 ([105, 109, 117, 108, 98] : List Int)) else (bif (sz == 4) then (k1 ([105, 109, 117, 108, 108] : List Int)) else (bif (sz == 8) then (k1 ([105, 109, 117, 108, 113] : List Int)) else (k1 ([105, 109, 117, 108] : List Int)))))) else (bif (!(sz == 8)) then (k1 ([] : List Int)) else (bif (!(cd == 0)) then (k1 ([] : List Int)) else (bif (sz == 1) then (k1 ([105, 109, 117, 108, 98] : List Int)) else (bif (sz == 4) then (k1 ([105, 109, 117, 108, 108] : List Int)) else (bif (sz == 8) then (k1 ([105, 109, 117, 108, 113] : List Int)) else (k1 ([105, 109, 117, 108] : List Int))))))))
theorem F14_12_ok (sz cd : Int) (K : V → Mem → Prop) : cbody Tryz.prog C0 (fun _ => none) 1000 (fnOf Tryz.prog 14) [(.I .i64 12), (.I .i64 sz), (.I .i64 cd)] [] K = F14_12 sz cd (fun u => K (.S u) []) := by kernel_rfl
theorem h14_12 (sz cd : Int) (k1 : List Int → Prop) (h : k1 (nameI 12 sz cd)) : F14_12 sz cd k1 := by
  have e : nameI 12 sz cd = nmR [([105, 109, 117, 108, 108], 4, 0), ([105, 109, 117, 108, 113], 8, 0)] sz cd := rfl
  rw [e] at h
  clear e
  cases a1 : (sz == 1) <;> cases a4 : (sz == 4) <;> cases a8 : (sz == 8) <;> cases a0 : (sz == 0) <;> cases c0 : (cd == 0) <;> simp_all [-beq_eq_false_iff_ne, F14_12, nmR, bne]
def F14_13 (sz cd : Int) (k1 : List Int → Prop) : Prop :=
  (bif (sz == 1) then (bif (!(cd == 0)) then (k1 ([] : List Int)) else (bif (sz == 1) then (k1 ([110, 101, 103, 98] : List Int)) else (bif (sz == 4) then (k1 ([110, 101, 103, 108] : List Int)) else (bif (sz == 8) then (k1 ([110, 101, 103, 113] : List Int)) else (k1 ([110, 101, 103] : List Int)))))) else (bif (sz == 4) then (bif (!(cd == 0)) then (k1 ([] : List Int)) else (bif (sz == 1) then (k1 ([110, 101, 103, 98] : List Int)) else (bif (sz == 4) then (k1 ([110, 101, 103, 108] : List Int)) else (bif (sz == 8) then (k1 ([110, 101, 103, 113] : List Int)) else (k1 ([110, 101, 103] : List Int)))))) else (bif (!(sz == 8)) then (k1 ([] : List Int)) else (bif (!(cd == 0)) then (k1 ([] : List Int)) else (bif (sz == 1) then (k1 ([110, 101, 103, 98] : List Int)) else (bif (sz == 4) then (k1 ([110, 101, 103, 108] : List Int)) else (bif (sz == 8) then (k1 ([110, 101, 103, 113] : List Int)) else (k1 ([110, 101, 103] : List Int)))))))))
theorem F14_13_ok (sz cd : Int) (K : V → Mem → Prop) : cbody Tryz.prog C0 (fun _ => none) 1000 (fnOf Tryz.prog 14) [(.I .i64 13), (.I .i64 sz), (.I .i64 cd)] [] K = F14_13 sz cd (fun u => K (.S u) []) := by kernel_rfl
theorem h14_13 (sz cd : Int) (k1 : List Int → Prop) (h : k1 (nameI 13 sz cd)) : F14_13 sz cd k1 := by
  have e : nameI 13 sz cd = nmR [([110, 101, 103, 98], 1, 0), ([110, 101, 103, 108], 4, 0), ([110, 101, 103, 113], 8, 0)] sz cd := rfl
  rw [e] at h
  clear e
  cases a1 : (sz == 1) <;> cases a4 : (sz == 4) <;> cases a8 : (sz == 8) <;> cases a0 : (sz == 0) <;> cases c0 : (cd == 0) <;> simp_all [-beq_eq_false_iff_ne, F14_13, nmR, bne]
def F14_14 (sz cd : Int) (k1 : List Int → Prop) : Prop :=
  (bif (sz == 1) then (bif (!(cd == 0)) then (k1 ([] : List Int)) else (bif (sz == 1) then (k1 ([110, 111, 116, 98] : List Int)) else (bif (sz == 4) then (k1 ([110, 111, 116, 108] : List Int)) else (bif (sz == 8) then (k1 ([110, 111, 116, 113] : List Int)) else (k1 ([110, 111, 116] : List Int)))))) else (bif (sz == 4) then (bif (!(cd == 0)) then (k1 ([] : List Int)) else (bif (sz == 1) then (k1 ([110, 111, 116, 98] : List Int)) else (bif (sz == 4) then (k1 ([110, 111, 116, 108] : List Int)) else (bif (sz == 8) then (k1 ([110, 111, 116, 113] : List Int)) else (k1 ([110, 111, 116] : List Int)))))) else (bif (!(sz == 8)) then (k1 ([] : List Int)) else (bif (!(cd == 0)) then (k1 ([] : List Int)) else (bif (sz == 1) then (k1 ([110, 111, 116, 98] : List Int)) else (bif (sz == 4) then (k1 ([110, 111, 116, 108] : List Int)) else (bif (sz == 8) then (k1 ([110, 111, 116, 113] : List Int)) else (k1 ([110, 111, 116] : List Int)))))))))
theorem F14_14_ok (sz cd : Int) (K : V → Mem → Prop) : cbody Tryz.prog C0 (fun _ => none) 1000 (fnOf Tryz.prog 14) [(.I .i64 14), (.I .i64 sz), (.I .i64 cd)] [] K = F14_14 sz cd (fun u => K (.S u) []) := by kernel_rfl
theorem h14_14 (sz cd : Int) (k1 : List Int → Prop) (h : k1 (nameI 14 sz cd)) : F14_14 sz cd k1 := by
  have e : nameI 14 sz cd = nmR [([110, 111, 116, 98], 1, 0), ([110, 111, 116, 108], 4, 0), ([110, 111, 116, 113], 8, 0)] sz cd := rfl
  rw [e] at h
  clear e
  cases a1 : (sz == 1) <;> cases a4 : (sz == 4) <;> cases a8 : (sz == 8) <;> cases a0 : (sz == 0) <;> cases c0 : (cd == 0) <;> simp_all [-beq_eq_false_iff_ne, F14_14, nmR, bne]
def F14_15 (sz cd : Int) (k1 : List Int → Prop) : Prop :=
  (bif (sz == 1) then (bif (!(cd == 0)) then (k1 ([] : List Int)) else (bif (sz == 1) then (k1 ([105, 110, 99, 98] : List Int)) else (bif (sz == 4) then (k1 ([105, 110, 99, 108] : List Int)) else (bif (sz == 8) then (k1 ([105, 110, 99, 113] : List Int)) else (k1 ([105, 110, 99] : List Int)))))) else (bif (sz == 4) then (bif (!(cd == 0)) then (k1 ([] : List Int)) else (bif (sz == 1) then (k1 ([105, 110, 99, 98] : List Int)) else (bif (sz == 4) then (k1 ([105, 110, 99, 108] : List Int)) else (bif (sz == 8) then (k1 ([105, 110, 99, 113] : List Int)) else (k1 ([105, 110, 99] : List Int)))))) else (bif (!(sz == 8)) then (k1 ([] : List Int)) else (bif (!(cd == 0)) then (k1 ([] : List Int)) else (bif (sz == 1) then (k1 ([105, 110, 99, 98] : List Int)) else (bif (sz == 4) then (k1 ([105, 110, 99, 108] : List Int)) else (bif (sz == 8) then (k1 ([105, 110, 99, 113] : List Int)) else (k1 ([105, 110, 99] : List Int)))))))))
theorem F14_15_ok (sz cd : Int) (K : V → Mem → Prop) : cbody Tryz.prog C0 (fun _ => none) 1000 (fnOf Tryz.prog 14) [(.I .i64 15), (.I .i64 sz), (.I .i64 cd)] [] K = F14_15 sz cd (fun u => K (.S u) []) := by kernel_rfl
theorem h14_15 (sz cd : Int) (k1 : List Int → Prop) (h : k1 (nameI 15 sz cd)) : F14_15 sz cd k1 := by
  have e : nameI 15 sz cd = nmR [([105, 110, 99, 98], 1, 0), ([105, 110, 99, 108], 4, 0), ([105, 110, 99, 113], 8, 0)] sz cd := rfl
  rw [e] at h
  clear e
  cases a1 : (sz == 1) <;> cases a4 : (sz == 4) <;> cases a8 : (sz == 8) <;> cases a0 : (sz == 0) <;> cases c0 : (cd == 0) <;> simp_all [-beq_eq_false_iff_ne, F14_15, nmR, bne]
def F14_16 (sz cd : Int) (k1 : List Int → Prop) : Prop :=
  (bif (sz == 1) then (bif (!(cd == 0)) then (k1 ([] : List Int)) else (bif (sz == 1) then (k1 ([100, 101, 99, 98] : List Int)) else (bif (sz == 4) then (k1 ([100, 101, 99, 108] : List Int)) else (bif (sz == 8) then (k1 ([100, 101, 99, 113] : List Int)) else (k1 ([100, 101, 99] : List Int)))))) else (bif (sz == 4) then (bif (!(cd == 0)) then (k1 ([] : List Int)) else (bif (sz == 1) then (k1 ([100, 101, 99, 98] : List Int)) else (bif (sz == 4) then (k1 ([100, 101, 99, 108] : List Int)) else (bif (sz == 8) then (k1 ([100, 101, 99, 113] : List Int)) else (k1 ([100, 101, 99] : List Int)))))) else (bif (!(sz == 8)) then (k1 ([] : List Int)) else (bif (!(cd == 0)) then (k1 ([] : List Int)) else (bif (sz == 1) then (k1 ([100, 101, 99, 98] : List Int)) else (bif (sz == 4) then (k1 ([100, 101, 99, 108] : List Int)) else (bif (sz == 8) then (k1 ([100, 101, 99, 113] : List Int)) else (k1 ([100, 101, 99] : List Int)))))))))
theorem F14_16_ok (sz cd : Int) (K : V → Mem → Prop) : cbody Tryz.prog C0 (fun _ => none) 1000 (fnOf Tryz.prog 14) [(.I .i64 16), (.I .i64 sz), (.I .i64 cd)] [] K = F14_16 sz cd (fun u => K (.S u) []) := by kernel_rfl
theorem h14_16 (sz cd : Int) (k1 : List Int → Prop) (h : k1 (nameI 16 sz cd)) : F14_16 sz cd k1 := by
  have e : nameI 16 sz cd = nmR [([100, 101, 99, 98], 1, 0), ([100, 101, 99, 108], 4, 0), ([100, 101, 99, 113], 8, 0)] sz cd := rfl
  rw [e] at h
  clear e
  cases a1 : (sz == 1) <;> cases a4 : (sz == 4) <;> cases a8 : (sz == 8) <;> cases a0 : (sz == 0) <;> cases c0 : (cd == 0) <;> simp_all [-beq_eq_false_iff_ne, F14_16, nmR, bne]
def F14_17 (sz cd : Int) (k1 : List Int → Prop) : Prop :=
  (bif (sz == 1) then (bif (!(cd == 0)) then (k1 ([] : List Int)) else (bif (sz == 1) then (k1 ([115, 104, 108, 98] : List Int)) else (bif (sz == 4) then (k1 ([115, 104, 108, 108] : List Int)) else (bif (sz == 8) then (k1 ([115, 104, 108, 113] : List Int)) else (k1 ([115, 104, 108] : List Int)))))) else (bif (sz == 4) then (bif (!(cd == 0)) then (k1 ([] : List Int)) else (bif (sz == 1) then (k1 ([115, 104, 108, 98] : List Int)) else (bif (sz == 4) then (k1 ([115, 104, 108, 108] : List Int)) else (bif (sz == 8) then (k1 ([115, 104, 108, 113] : List Int)) else (k1 ([115, 104, 108] : List Int)))))) else (bif (!(sz == 8)) then (k1 ([] : List Int)) else (bif (!(cd == 0)) then (k1 ([] : List Int)) else (bif (sz == 1) then (k1 ([115, 104, 108, 98] : List Int)) else (bif (sz == 4) then (k1 ([115, 104, 108, 108] : List Int)) else (bif (sz == 8) then (k1 ([115, 104, 108, 113] : List Int)) else (k1 ([115, 104, 108] : List Int)))))))))
theorem F14_17_ok (sz cd : Int) (K : V → Mem → Prop) : cbody Tryz.prog C0 (fun _ => none) 1000 (fnOf Tryz.prog 14) [(.I .i64 17), (.I .i64 sz), (.I .i64 cd)] [] K = F14_17 sz cd (fun u => K (.S u) []) := by kernel_rfl
theorem h14_17 (sz cd : Int) (k1 : List Int → Prop) (h : k1 (nameI 17 sz cd)) : F14_17 sz cd k1 := by
  have e : nameI 17 sz cd = nmR [([115, 104, 108, 98], 1, 0), ([115, 104, 108, 108], 4, 0), ([115, 104, 108, 113], 8, 0)] sz cd := rfl
  rw [e] at h
  clear e
  cases a1 : (sz == 1) <;> cases a4 : (sz == 4) <;> cases a8 : (sz == 8) <;> cases a0 : (sz == 0) <;> cases c0 : (cd == 0) <;> simp_all [-beq_eq_false_iff_ne, F14_17, nmR, bne]
def F14_18 (sz cd : Int) (k1 : List Int → Prop) : Prop :=
  (bif (sz == 1) then (bif (!(cd == 0)) then (k1 ([] : List Int)) else (bif (sz == 1) then (k1 ([115, 104, 114, 98] : List Int)) else (bif (sz == 4) then (k1 ([115, 104, 114, 108] : List Int)) else (bif (sz == 8) then (k1 ([115, 104, 114, 113] : List Int)) else (k1 ([115, 104, 114] : List Int)))))) else (bif (sz == 4) then (bif (!(cd == 0)) then (k1 ([] : List Int)) else (bif (sz == 1) then (k1 ([115, 104, 114, 98] : List Int)) else (bif (sz == 4) then (k1 ([115, 104, 114, 108] : List Int)) else (bif (sz == 8) then (k1 ([115, 104, 114, 113] : List Int)) else (k1 ([115, 104, 114] : List Int)))))) else (bif (!(sz == 8)) then (k1 ([] : List Int)) else (bif (!(cd == 0)) then (k1 ([] : List Int)) else (bif (sz == 1) then (k1 ([115, 104, 114, 98] : List Int)) else (bif (sz == 4) then (k1 ([115, 104, 114, 108] : List Int)) else (bif (sz == 8) then (k1 ([115, 104, 114, 113] : List Int)) else (k1 ([115, 104, 114] : List Int)))))))))
theorem F14_18_ok (sz cd : Int) (K : V → Mem → Prop) : cbody Tryz.prog C0 (fun _ => none) 1000 (fnOf Tryz.prog 14) [(.I .i64 18), (.I .i64 sz), (.I .i64 cd)] [] K = F14_18 sz cd (fun u => K (.S u) []) := by kernel_rfl
theorem h14_18 (sz cd : Int) (k1 : List Int → Prop) (h : k1 (nameI 18 sz cd)) : F14_18 sz cd k1 := by
  have e : nameI 18 sz cd = nmR [([115, 104, 114, 98], 1, 0), ([115, 104, 114, 108], 4, 0), ([115, 104, 114, 113], 8, 0)] sz cd := rfl
  rw [e] at h
  clear e
  cases a1 : (sz == 1) <;> cases a4 : (sz == 4) <;> cases a8 : (sz == 8) <;> cases a0 : (sz == 0) <;> cases c0 : (cd == 0) <;> simp_all [-beq_eq_false_iff_ne, F14_18, nmR, bne]
def F14_19 (sz cd : Int) (k1 : List Int → Prop) : Prop :=
  (bif (sz == 1) then (bif (!(cd == 0)) then (k1 ([] : List Int)) else (bif (sz == 1) then (k1 ([115, 97, 114, 98] : List Int)) else (bif (sz == 4) then (k1 ([115, 97, 114, 108] : List Int)) else (bif (sz == 8) then (k1 ([115, 97, 114, 113] : List Int)) else (k1 ([115, 97, 114] : List Int)))))) else (bif (sz == 4) then (bif (!(cd == 0)) then (k1 ([] : List Int)) else (bif (sz == 1) then (k1 ([115, 97, 114, 98] : List Int)) else (bif (sz == 4) then (k1 ([115, 97, 114, 108] : List Int)) else (bif (sz == 8) then (k1 ([115, 97, 114, 113] : List Int)) else (k1 ([115, 97, 114] : List Int)))))) else (bif (!(sz == 8)) then (k1 ([] : List Int)) else (bif (!(cd == 0)) then (k1 ([] : List Int)) else (bif (sz == 1) then (k1 ([115, 97, 114, 98] : List Int)) else (bif (sz == 4) then (k1 ([115, 97, 114, 108] : List Int)) else (bif (sz == 8) then (k1 ([115, 97, 114, 113] : List Int)) else (k1 ([115, 97, 114] : List Int)))))))))
theorem F14_19_ok (sz cd : Int) (K : V → Mem → Prop) : cbody Tryz.prog C0 (fun _ => none) 1000 (fnOf Tryz.prog 14) [(.I .i64 19), (.I .i64 sz), (.I .i64 cd)] [] K = F14_19 sz cd (fun u => K (.S u) []) := by kernel_rfl
theorem h14_19 (sz cd : Int) (k1 : List Int → Prop) (h : k1 (nameI 19 sz cd)) : F14_19 sz cd k1 := by
  have e : nameI 19 sz cd = nmR [([115, 97, 114, 98], 1, 0), ([115, 97, 114, 108], 4, 0), ([115, 97, 114, 113], 8, 0)] sz cd := rfl
  rw [e] at h
  clear e
  cases a1 : (sz == 1) <;> cases a4 : (sz == 4) <;> cases a8 : (sz == 8) <;> cases a0 : (sz == 0) <;> cases c0 : (cd == 0) <;> simp_all [-beq_eq_false_iff_ne, F14_19, nmR, bne]
def F14_20 (sz cd : Int) (k1 : List Int → Prop) : Prop :=
  (bif (!(sz == 8)) then (k1 ([] : List Int)) else (bif (!(cd == 0)) then (k1 ([] : List Int)) else (bif (sz == 1) then (k1 ([112, 117, 115, 104, 98] : List Int)) else (bif (sz == 4) then (k1 ([112, 117, 115, 104, 108] : List Int)) else (bif (sz == 8) then (k1 ([112, 117, 115, 104, 113] : List Int)) else (k1 ([112, 117, 115, 104] : List Int)))))))
theorem F14_20_ok (sz cd : Int) (K : V → Mem → Prop) : cbody Tryz.prog C0 (fun _ => none) 1000 (fnOf Tryz.prog 14) [(.I .i64 20), (.I .i64 sz), (.I .i64 cd)] [] K = F14_20 sz cd (fun u => K (.S u) []) := by kernel_rfl
theorem h14_20 (sz cd : Int) (k1 : List Int → Prop) (h : k1 (nameI 20 sz cd)) : F14_20 sz cd k1 := by
  have e : nameI 20 sz cd = nmR [([112, 117, 115, 104, 113], 8, 0)] sz cd := rfl
  rw [e] at h
  clear e
  cases a1 : (sz == 1) <;> cases a4 : (sz == 4) <;> cases a8 : (sz == 8) <;> cases a0 : (sz == 0) <;> cases c0 : (cd == 0) <;> simp_all [-beq_eq_false_iff_ne, F14_20, nmR, bne]
def F14_21 (sz cd : Int) (k1 : List Int → Prop) : Prop :=
  (bif (!(sz == 8)) then (k1 ([] : List Int)) else (bif (!(cd == 0)) then (k1 ([] : List Int)) else (bif (sz == 1) then (k1 ([112, 111, 112, 98] : List Int)) else (bif (sz == 4) then (k1 ([112, 111, 112, 108] : List Int)) else (bif (sz == 8) then (k1 ([112, 111, 112, 113] : List Int)) else (k1 ([112, 111, 112] : List Int)))))))
theorem F14_21_ok (sz cd : Int) (K : V → Mem → Prop) : cbody Tryz.prog C0 (fun _ => none) 1000 (fnOf Tryz.prog 14) [(.I .i64 21), (.I .i64 sz), (.I .i64 cd)] [] K = F14_21 sz cd (fun u => K (.S u) []) := by kernel_rfl
theorem h14_21 (sz cd : Int) (k1 : List Int → Prop) (h : k1 (nameI 21 sz cd)) : F14_21 sz cd k1 := by
  have e : nameI 21 sz cd = nmR [([112, 111, 112, 113], 8, 0)] sz cd := rfl
  rw [e] at h
  clear e
  cases a1 : (sz == 1) <;> cases a4 : (sz == 4) <;> cases a8 : (sz == 8) <;> cases a0 : (sz == 0) <;> cases c0 : (cd == 0) <;> simp_all [-beq_eq_false_iff_ne, F14_21, nmR, bne]
def F14_22 (sz cd : Int) (k1 : List Int → Prop) : Prop :=
  (bif (!(sz == 8)) then (k1 ([] : List Int)) else (bif (!(cd == 0)) then (k1 ([] : List Int)) else (k1 ([99, 97, 108, 108] : List Int))))
theorem F14_22_ok (sz cd : Int) (K : V → Mem → Prop) : cbody Tryz.prog C0 (fun _ => none) 1000 (fnOf Tryz.prog 14) [(.I .i64 22), (.I .i64 sz), (.I .i64 cd)] [] K = F14_22 sz cd (fun u => K (.S u) []) := by kernel_rfl
theorem h14_22 (sz cd : Int) (k1 : List Int → Prop) (h : k1 (nameI 22 sz cd)) : F14_22 sz cd k1 := by
  have e : nameI 22 sz cd = nmR [([99, 97, 108, 108], 8, 0)] sz cd := rfl
  rw [e] at h
  clear e
  cases a1 : (sz == 1) <;> cases a4 : (sz == 4) <;> cases a8 : (sz == 8) <;> cases a0 : (sz == 0) <;> cases c0 : (cd == 0) <;> simp_all [-beq_eq_false_iff_ne, F14_22, nmR, bne]
def F14_23 (sz cd : Int) (k1 : List Int → Prop) : Prop :=
  (bif (!(sz == 8)) then (k1 ([] : List Int)) else (bif (!(cd == 0)) then (k1 ([] : List Int)) else (k1 ([106, 109, 112] : List Int))))
theorem F14_23_ok (sz cd : Int) (K : V → Mem → Prop) : cbody Tryz.prog C0 (fun _ => none) 1000 (fnOf Tryz.prog 14) [(.I .i64 23), (.I .i64 sz), (.I .i64 cd)] [] K = F14_23 sz cd (fun u => K (.S u) []) := by kernel_rfl
theorem h14_23 (sz cd : Int) (k1 : List Int → Prop) (h : k1 (nameI 23 sz cd)) : F14_23 sz cd k1 := by
  have e : nameI 23 sz cd = nmR [([106, 109, 112], 8, 0)] sz cd := rfl
  rw [e] at h
  clear e
  cases a1 : (sz == 1) <;> cases a4 : (sz == 4) <;> cases a8 : (sz == 8) <;> cases a0 : (sz == 0) <;> cases c0 : (cd == 0) <;> simp_all [-beq_eq_false_iff_ne, F14_23, nmR, bne]
def F14_24 (sz cd : Int) (k1 : List Int → Prop) : Prop :=
  (bif (!(sz == 8)) then (k1 ([] : List Int)) else (bif (decide (cd ≥ 0)) then (bif (!(decide (cd < 16))) then (k1 ([] : List Int)) else (bif ((decide (0 ≤ cd)) && (decide (cd < 16))) then (bif (decide ((1 + (List.length (List.getD condT (Int.toNat cd) ([] : List Int)))) ≤ 4611686018427387904)) then (k1 (([106] : List Int) ++ (List.getD condT (Int.toNat cd) ([] : List Int)))) else False) else False)) else (k1 ([] : List Int))))
theorem F14_24_ok (sz cd : Int) (K : V → Mem → Prop) : cbody Tryz.prog C0 (fun _ => none) 1000 (fnOf Tryz.prog 14) [(.I .i64 24), (.I .i64 sz), (.I .i64 cd)] [] K = F14_24 sz cd (fun u => K (.S u) []) := by kernel_rfl
theorem h14_24 (sz cd : Int) (k1 : List Int → Prop) (h : k1 (nameI 24 sz cd)) : F14_24 sz cd k1 := by
  rcases cd_cases cd with hc | hc | rfl | rfl | rfl | rfl | rfl | rfl | rfl | rfl | rfl | rfl | rfl | rfl | rfl | rfl | rfl | rfl
  · rw [nameI_out (by omega)] at h
    have n2 : decide (cd ≥ 0) = false := by simp; omega
    cases a1 : (sz == 1) <;> cases a4 : (sz == 4) <;> cases a8 : (sz == 8) <;> simp_all [-beq_eq_false_iff_ne, -ge_iff_le, bne, F14_24] <;> (intros; exfalso; omega)
  · rw [nameI_out (by omega)] at h
    have n4 : decide (cd < 16) = false := by simp; omega
    have n2 : decide (cd ≥ 0) = true := by simp; omega
    cases a1 : (sz == 1) <;> cases a4 : (sz == 4) <;> cases a8 : (sz == 8) <;> simp_all [-beq_eq_false_iff_ne, -ge_iff_le, bne, F14_24] <;> (intros; exfalso; omega)
  all_goals
    have e : ∀ c, nameI 24 sz c = nmR [([106, 111], 8, 0), ([106, 110, 111], 8, 1), ([106, 98], 8, 2), ([106, 97, 101], 8, 3), ([106, 101], 8, 4), ([106, 110, 101], 8, 5), ([106, 98, 101], 8, 6), ([106, 97], 8, 7), ([106, 115], 8, 8), ([106, 110, 115], 8, 9), ([106, 112], 8, 10), ([106, 110, 112], 8, 11), ([106, 108], 8, 12), ([106, 103, 101], 8, 13), ([106, 108, 101], 8, 14), ([106, 103], 8, 15)] sz c := fun _ => rfl
    rw [e] at h
    clear e
    cases a1 : (sz == 1) <;> cases a4 : (sz == 4) <;> cases a8 : (sz == 8) <;> simp_all [-beq_eq_false_iff_ne, bne, F14_24, nmR, condT]
def F14_25 (sz cd : Int) (k1 : List Int → Prop) : Prop :=
  (bif (!(sz == 0)) then (k1 ([] : List Int)) else (bif (!(cd == 0)) then (k1 ([] : List Int)) else (bif (sz == 1) then (k1 ([114, 101, 116, 98] : List Int)) else (bif (sz == 4) then (k1 ([114, 101, 116, 108] : List Int)) else (bif (sz == 8) then (k1 ([114, 101, 116, 113] : List Int)) else (k1 ([114, 101, 116] : List Int)))))))
theorem F14_25_ok (sz cd : Int) (K : V → Mem → Prop) : cbody Tryz.prog C0 (fun _ => none) 1000 (fnOf Tryz.prog 14) [(.I .i64 25), (.I .i64 sz), (.I .i64 cd)] [] K = F14_25 sz cd (fun u => K (.S u) []) := by kernel_rfl
theorem h14_25 (sz cd : Int) (k1 : List Int → Prop) (h : k1 (nameI 25 sz cd)) : F14_25 sz cd k1 := by
  have e : nameI 25 sz cd = nmR [([114, 101, 116], 0, 0)] sz cd := rfl
  rw [e] at h
  clear e
  cases a1 : (sz == 1) <;> cases a4 : (sz == 4) <;> cases a8 : (sz == 8) <;> cases a0 : (sz == 0) <;> cases c0 : (cd == 0) <;> simp_all [-beq_eq_false_iff_ne, F14_25, nmR, bne]
def F14_26 (sz cd : Int) (k1 : List Int → Prop) : Prop :=
  (bif (!(sz == 0)) then (k1 ([] : List Int)) else (bif (!(cd == 0)) then (k1 ([] : List Int)) else (bif (sz == 1) then (k1 ([108, 101, 97, 118, 101, 98] : List Int)) else (bif (sz == 4) then (k1 ([108, 101, 97, 118, 101, 108] : List Int)) else (bif (sz == 8) then (k1 ([108, 101, 97, 118, 101, 113] : List Int)) else (k1 ([108, 101, 97, 118, 101] : List Int)))))))
theorem F14_26_ok (sz cd : Int) (K : V → Mem → Prop) : cbody Tryz.prog C0 (fun _ => none) 1000 (fnOf Tryz.prog 14) [(.I .i64 26), (.I .i64 sz), (.I .i64 cd)] [] K = F14_26 sz cd (fun u => K (.S u) []) := by kernel_rfl
theorem h14_26 (sz cd : Int) (k1 : List Int → Prop) (h : k1 (nameI 26 sz cd)) : F14_26 sz cd k1 := by
  have e : nameI 26 sz cd = nmR [([108, 101, 97, 118, 101], 0, 0)] sz cd := rfl
  rw [e] at h
  clear e
  cases a1 : (sz == 1) <;> cases a4 : (sz == 4) <;> cases a8 : (sz == 8) <;> cases a0 : (sz == 0) <;> cases c0 : (cd == 0) <;> simp_all [-beq_eq_false_iff_ne, F14_26, nmR, bne]
def F14_27 (sz cd : Int) (k1 : List Int → Prop) : Prop :=
  (bif (!(sz == 1)) then (k1 ([] : List Int)) else (bif (decide (cd ≥ 0)) then (bif (!(decide (cd < 16))) then (k1 ([] : List Int)) else (bif ((decide (0 ≤ cd)) && (decide (cd < 16))) then (bif (decide ((3 + (List.length (List.getD condT (Int.toNat cd) ([] : List Int)))) ≤ 4611686018427387904)) then (k1 (([115, 101, 116] : List Int) ++ (List.getD condT (Int.toNat cd) ([] : List Int)))) else False) else False)) else (k1 ([] : List Int))))
theorem F14_27_ok (sz cd : Int) (K : V → Mem → Prop) : cbody Tryz.prog C0 (fun _ => none) 1000 (fnOf Tryz.prog 14) [(.I .i64 27), (.I .i64 sz), (.I .i64 cd)] [] K = F14_27 sz cd (fun u => K (.S u) []) := by kernel_rfl
theorem h14_27 (sz cd : Int) (k1 : List Int → Prop) (h : k1 (nameI 27 sz cd)) : F14_27 sz cd k1 := by
  rcases cd_cases cd with hc | hc | rfl | rfl | rfl | rfl | rfl | rfl | rfl | rfl | rfl | rfl | rfl | rfl | rfl | rfl | rfl | rfl
  · rw [nameI_out (by omega)] at h
    have n2 : decide (cd ≥ 0) = false := by simp; omega
    cases a1 : (sz == 1) <;> cases a4 : (sz == 4) <;> cases a8 : (sz == 8) <;> simp_all [-beq_eq_false_iff_ne, -ge_iff_le, bne, F14_27] <;> (intros; exfalso; omega)
  · rw [nameI_out (by omega)] at h
    have n4 : decide (cd < 16) = false := by simp; omega
    have n2 : decide (cd ≥ 0) = true := by simp; omega
    cases a1 : (sz == 1) <;> cases a4 : (sz == 4) <;> cases a8 : (sz == 8) <;> simp_all [-beq_eq_false_iff_ne, -ge_iff_le, bne, F14_27] <;> (intros; exfalso; omega)
  all_goals
    have e : ∀ c, nameI 27 sz c = nmR [([115, 101, 116, 111], 1, 0), ([115, 101, 116, 110, 111], 1, 1), ([115, 101, 116, 98], 1, 2), ([115, 101, 116, 97, 101], 1, 3), ([115, 101, 116, 101], 1, 4), ([115, 101, 116, 110, 101], 1, 5), ([115, 101, 116, 98, 101], 1, 6), ([115, 101, 116, 97], 1, 7), ([115, 101, 116, 115], 1, 8), ([115, 101, 116, 110, 115], 1, 9), ([115, 101, 116, 112], 1, 10), ([115, 101, 116, 110, 112], 1, 11), ([115, 101, 116, 108], 1, 12), ([115, 101, 116, 103, 101], 1, 13), ([115, 101, 116, 108, 101], 1, 14), ([115, 101, 116, 103], 1, 15)] sz c := fun _ => rfl
    rw [e] at h
    clear e
    cases a1 : (sz == 1) <;> cases a4 : (sz == 4) <;> cases a8 : (sz == 8) <;> simp_all [-beq_eq_false_iff_ne, bne, F14_27, nmR, condT]
def F14_28 (sz cd : Int) (k1 : List Int → Prop) : Prop :=
  let q1 := (([99, 109, 111, 118] : List Int) ++ (List.getD condT (Int.toNat cd) ([] : List Int)))
  let q2 := (decide (((List.length q1) + 1) ≤ 4611686018427387904))
  let q0 := (bif (decide (cd ≥ 0)) then (bif (!(decide (cd < 16))) then (k1 ([] : List Int)) else (bif ((decide (0 ≤ cd)) && (decide (cd < 16))) then (bif (decide ((4 + (List.length (List.getD condT (Int.toNat cd) ([] : List Int)))) ≤ 4611686018427387904)) then (bif (sz == 1) then (bif q2 then (k1 (q1 ++ ([98] : List Int))) else False) else (bif (sz == 4) then (bif q2 then (k1 (q1 ++ ([108] : List Int))) else False) else (bif (sz == 8) then (bif q2 then (k1 (q1 ++ ([113] : List Int))) else False) else (k1 q1)))) else False) else False)) else (k1 ([] : List Int)))
  (bif (sz == 4) then q0 else (bif (!(sz == 8)) then (k1 ([] : List Int)) else q0))
theorem F14_28_ok (sz cd : Int) (K : V → Mem → Prop) : cbody Tryz.prog C0 (fun _ => none) 1000 (fnOf Tryz.prog 14) [(.I .i64 28), (.I .i64 sz), (.I .i64 cd)] [] K = F14_28 sz cd (fun u => K (.S u) []) := by kernel_rfl
theorem h14_28 (sz cd : Int) (k1 : List Int → Prop) (h : k1 (nameI 28 sz cd)) : F14_28 sz cd k1 := by
  rcases cd_cases cd with hc | hc | rfl | rfl | rfl | rfl | rfl | rfl | rfl | rfl | rfl | rfl | rfl | rfl | rfl | rfl | rfl | rfl
  · rw [nameI_out (by omega)] at h
    have n2 : decide (cd ≥ 0) = false := by simp; omega
    cases a1 : (sz == 1) <;> cases a4 : (sz == 4) <;> cases a8 : (sz == 8) <;> simp_all [-beq_eq_false_iff_ne, -ge_iff_le, bne, F14_28] <;> (intros; exfalso; omega)
  · rw [nameI_out (by omega)] at h
    have n4 : decide (cd < 16) = false := by simp; omega
    have n2 : decide (cd ≥ 0) = true := by simp; omega
    cases a1 : (sz == 1) <;> cases a4 : (sz == 4) <;> cases a8 : (sz == 8) <;> simp_all [-beq_eq_false_iff_ne, -ge_iff_le, bne, F14_28] <;> (intros; exfalso; omega)
  all_goals
    have e : ∀ c, nameI 28 sz c = nmR [([99, 109, 111, 118, 111, 108], 4, 0), ([99, 109, 111, 118, 110, 111, 108], 4, 1), ([99, 109, 111, 118, 98, 108], 4, 2), ([99, 109, 111, 118, 97, 101, 108], 4, 3), ([99, 109, 111, 118, 101, 108], 4, 4), ([99, 109, 111, 118, 110, 101, 108], 4, 5), ([99, 109, 111, 118, 98, 101, 108], 4, 6), ([99, 109, 111, 118, 97, 108], 4, 7), ([99, 109, 111, 118, 115, 108], 4, 8), ([99, 109, 111, 118, 110, 115, 108], 4, 9), ([99, 109, 111, 118, 112, 108], 4, 10), ([99, 109, 111, 118, 110, 112, 108], 4, 11), ([99, 109, 111, 118, 108, 108], 4, 12), ([99, 109, 111, 118, 103, 101, 108], 4, 13), ([99, 109, 111, 118, 108, 101, 108], 4, 14), ([99, 109, 111, 118, 103, 108], 4, 15), ([99, 109, 111, 118, 111, 113], 8, 0), ([99, 109, 111, 118, 110, 111, 113], 8, 1), ([99, 109, 111, 118, 98, 113], 8, 2), ([99, 109, 111, 118, 97, 101, 113], 8, 3), ([99, 109, 111, 118, 101, 113], 8, 4), ([99, 109, 111, 118, 110, 101, 113], 8, 5), ([99, 109, 111, 118, 98, 101, 113], 8, 6), ([99, 109, 111, 118, 97, 113], 8, 7), ([99, 109, 111, 118, 115, 113], 8, 8), ([99, 109, 111, 118, 110, 115, 113], 8, 9), ([99, 109, 111, 118, 112, 113], 8, 10), ([99, 109, 111, 118, 110, 112, 113], 8, 11), ([99, 109, 111, 118, 108, 113], 8, 12), ([99, 109, 111, 118, 103, 101, 113], 8, 13), ([99, 109, 111, 118, 108, 101, 113], 8, 14), ([99, 109, 111, 118, 103, 113], 8, 15)] sz c := fun _ => rfl
    rw [e] at h
    clear e
    cases a1 : (sz == 1) <;> cases a4 : (sz == 4) <;> cases a8 : (sz == 8) <;> simp_all [-beq_eq_false_iff_ne, bne, F14_28, nmR, condT]
def F14_29 (sz cd : Int) (k1 : List Int → Prop) : Prop :=
  (bif (sz == 4) then (bif (!(cd == 0)) then (k1 ([] : List Int)) else (bif (sz == 1) then (k1 ([109, 111, 118, 122, 98, 98] : List Int)) else (bif (sz == 4) then (k1 ([109, 111, 118, 122, 98, 108] : List Int)) else (bif (sz == 8) then (k1 ([109, 111, 118, 122, 98, 113] : List Int)) else (k1 ([109, 111, 118, 122, 98] : List Int)))))) else (bif (!(sz == 8)) then (k1 ([] : List Int)) else (bif (!(cd == 0)) then (k1 ([] : List Int)) else (bif (sz == 1) then (k1 ([109, 111, 118, 122, 98, 98] : List Int)) else (bif (sz == 4) then (k1 ([109, 111, 118, 122, 98, 108] : List Int)) else (bif (sz == 8) then (k1 ([109, 111, 118, 122, 98, 113] : List Int)) else (k1 ([109, 111, 118, 122, 98] : List Int))))))))
theorem F14_29_ok (sz cd : Int) (K : V → Mem → Prop) : cbody Tryz.prog C0 (fun _ => none) 1000 (fnOf Tryz.prog 14) [(.I .i64 29), (.I .i64 sz), (.I .i64 cd)] [] K = F14_29 sz cd (fun u => K (.S u) []) := by kernel_rfl
theorem h14_29 (sz cd : Int) (k1 : List Int → Prop) (h : k1 (nameI 29 sz cd)) : F14_29 sz cd k1 := by
  have e : nameI 29 sz cd = nmR [([109, 111, 118, 122, 98, 108], 4, 0), ([109, 111, 118, 122, 98, 113], 8, 0)] sz cd := rfl
  rw [e] at h
  clear e
  cases a1 : (sz == 1) <;> cases a4 : (sz == 4) <;> cases a8 : (sz == 8) <;> cases a0 : (sz == 0) <;> cases c0 : (cd == 0) <;> simp_all [-beq_eq_false_iff_ne, F14_29, nmR, bne]
def F14_30 (sz cd : Int) (k1 : List Int → Prop) : Prop :=
  (bif (sz == 4) then (bif (!(cd == 0)) then (k1 ([] : List Int)) else (bif (sz == 1) then (k1 ([109, 111, 118, 115, 98, 98] : List Int)) else (bif (sz == 4) then (k1 ([109, 111, 118, 115, 98, 108] : List Int)) else (bif (sz == 8) then (k1 ([109, 111, 118, 115, 98, 113] : List Int)) else (k1 ([109, 111, 118, 115, 98] : List Int)))))) else (bif (!(sz == 8)) then (k1 ([] : List Int)) else (bif (!(cd == 0)) then (k1 ([] : List Int)) else (bif (sz == 1) then (k1 ([109, 111, 118, 115, 98, 98] : List Int)) else (bif (sz == 4) then (k1 ([109, 111, 118, 115, 98, 108] : List Int)) else (bif (sz == 8) then (k1 ([109, 111, 118, 115, 98, 113] : List Int)) else (k1 ([109, 111, 118, 115, 98] : List Int))))))))
theorem F14_30_ok (sz cd : Int) (K : V → Mem → Prop) : cbody Tryz.prog C0 (fun _ => none) 1000 (fnOf Tryz.prog 14) [(.I .i64 30), (.I .i64 sz), (.I .i64 cd)] [] K = F14_30 sz cd (fun u => K (.S u) []) := by kernel_rfl
theorem h14_30 (sz cd : Int) (k1 : List Int → Prop) (h : k1 (nameI 30 sz cd)) : F14_30 sz cd k1 := by
  have e : nameI 30 sz cd = nmR [([109, 111, 118, 115, 98, 108], 4, 0), ([109, 111, 118, 115, 98, 113], 8, 0)] sz cd := rfl
  rw [e] at h
  clear e
  cases a1 : (sz == 1) <;> cases a4 : (sz == 4) <;> cases a8 : (sz == 8) <;> cases a0 : (sz == 0) <;> cases c0 : (cd == 0) <;> simp_all [-beq_eq_false_iff_ne, F14_30, nmR, bne]
def F14_31 (sz cd : Int) (k1 : List Int → Prop) : Prop :=
  (bif (sz == 4) then (bif (!(cd == 0)) then (k1 ([] : List Int)) else (bif (sz == 1) then (k1 ([120, 99, 104, 103, 98] : List Int)) else (bif (sz == 4) then (k1 ([120, 99, 104, 103, 108] : List Int)) else (bif (sz == 8) then (k1 ([120, 99, 104, 103, 113] : List Int)) else (k1 ([120, 99, 104, 103] : List Int)))))) else (bif (!(sz == 8)) then (k1 ([] : List Int)) else (bif (!(cd == 0)) then (k1 ([] : List Int)) else (bif (sz == 1) then (k1 ([120, 99, 104, 103, 98] : List Int)) else (bif (sz == 4) then (k1 ([120, 99, 104, 103, 108] : List Int)) else (bif (sz == 8) then (k1 ([120, 99, 104, 103, 113] : List Int)) else (k1 ([120, 99, 104, 103] : List Int))))))))
theorem F14_31_ok (sz cd : Int) (K : V → Mem → Prop) : cbody Tryz.prog C0 (fun _ => none) 1000 (fnOf Tryz.prog 14) [(.I .i64 31), (.I .i64 sz), (.I .i64 cd)] [] K = F14_31 sz cd (fun u => K (.S u) []) := by kernel_rfl
theorem h14_31 (sz cd : Int) (k1 : List Int → Prop) (h : k1 (nameI 31 sz cd)) : F14_31 sz cd k1 := by
  have e : nameI 31 sz cd = nmR [([120, 99, 104, 103, 108], 4, 0), ([120, 99, 104, 103, 113], 8, 0)] sz cd := rfl
  rw [e] at h
  clear e
  cases a1 : (sz == 1) <;> cases a4 : (sz == 4) <;> cases a8 : (sz == 8) <;> cases a0 : (sz == 0) <;> cases c0 : (cd == 0) <;> simp_all [-beq_eq_false_iff_ne, F14_31, nmR, bne]
def F14_32 (sz cd : Int) (k1 : List Int → Prop) : Prop :=
  (bif (!(sz == 0)) then (k1 ([] : List Int)) else (bif (!(cd == 0)) then (k1 ([] : List Int)) else (bif (sz == 1) then (k1 ([99, 113, 116, 111, 98] : List Int)) else (bif (sz == 4) then (k1 ([99, 113, 116, 111, 108] : List Int)) else (bif (sz == 8) then (k1 ([99, 113, 116, 111, 113] : List Int)) else (k1 ([99, 113, 116, 111] : List Int)))))))
theorem F14_32_ok (sz cd : Int) (K : V → Mem → Prop) : cbody Tryz.prog C0 (fun _ => none) 1000 (fnOf Tryz.prog 14) [(.I .i64 32), (.I .i64 sz), (.I .i64 cd)] [] K = F14_32 sz cd (fun u => K (.S u) []) := by kernel_rfl
theorem h14_32 (sz cd : Int) (k1 : List Int → Prop) (h : k1 (nameI 32 sz cd)) : F14_32 sz cd k1 := by
  have e : nameI 32 sz cd = nmR [([99, 113, 116, 111], 0, 0)] sz cd := rfl
  rw [e] at h
  clear e
  cases a1 : (sz == 1) <;> cases a4 : (sz == 4) <;> cases a8 : (sz == 8) <;> cases a0 : (sz == 0) <;> cases c0 : (cd == 0) <;> simp_all [-beq_eq_false_iff_ne, F14_32, nmR, bne]
def F14_33 (sz cd : Int) (k1 : List Int → Prop) : Prop :=
  (bif (!(sz == 0)) then (k1 ([] : List Int)) else (bif (!(cd == 0)) then (k1 ([] : List Int)) else (bif (sz == 1) then (k1 ([110, 111, 112, 98] : List Int)) else (bif (sz == 4) then (k1 ([110, 111, 112, 108] : List Int)) else (bif (sz == 8) then (k1 ([110, 111, 112, 113] : List Int)) else (k1 ([110, 111, 112] : List Int)))))))
theorem F14_33_ok (sz cd : Int) (K : V → Mem → Prop) : cbody Tryz.prog C0 (fun _ => none) 1000 (fnOf Tryz.prog 14) [(.I .i64 33), (.I .i64 sz), (.I .i64 cd)] [] K = F14_33 sz cd (fun u => K (.S u) []) := by kernel_rfl
theorem h14_33 (sz cd : Int) (k1 : List Int → Prop) (h : k1 (nameI 33 sz cd)) : F14_33 sz cd k1 := by
  have e : nameI 33 sz cd = nmR [([110, 111, 112], 0, 0)] sz cd := rfl
  rw [e] at h
  clear e
  cases a1 : (sz == 1) <;> cases a4 : (sz == 4) <;> cases a8 : (sz == 8) <;> cases a0 : (sz == 0) <;> cases c0 : (cd == 0) <;> simp_all [-beq_eq_false_iff_ne, F14_33, nmR, bne]
def F14_34 (sz cd : Int) (k1 : List Int → Prop) : Prop :=
  (bif (!(sz == 0)) then (k1 ([] : List Int)) else (bif (!(cd == 0)) then (k1 ([] : List Int)) else (bif (sz == 1) then (k1 ([117, 100, 50, 98] : List Int)) else (bif (sz == 4) then (k1 ([117, 100, 50, 108] : List Int)) else (bif (sz == 8) then (k1 ([117, 100, 50, 113] : List Int)) else (k1 ([117, 100, 50] : List Int)))))))
theorem F14_34_ok (sz cd : Int) (K : V → Mem → Prop) : cbody Tryz.prog C0 (fun _ => none) 1000 (fnOf Tryz.prog 14) [(.I .i64 34), (.I .i64 sz), (.I .i64 cd)] [] K = F14_34 sz cd (fun u => K (.S u) []) := by kernel_rfl
theorem h14_34 (sz cd : Int) (k1 : List Int → Prop) (h : k1 (nameI 34 sz cd)) : F14_34 sz cd k1 := by
  have e : nameI 34 sz cd = nmR [([117, 100, 50], 0, 0)] sz cd := rfl
  rw [e] at h
  clear e
  cases a1 : (sz == 1) <;> cases a4 : (sz == 4) <;> cases a8 : (sz == 8) <;> cases a0 : (sz == 0) <;> cases c0 : (cd == 0) <;> simp_all [-beq_eq_false_iff_ne, F14_34, nmR, bne]
def F14_35 (sz cd : Int) (k1 : List Int → Prop) : Prop :=
  (bif (!(sz == 0)) then (k1 ([] : List Int)) else (bif (!(cd == 0)) then (k1 ([] : List Int)) else (bif (sz == 1) then (k1 ([115, 121, 115, 99, 97, 108, 108, 98] : List Int)) else (bif (sz == 4) then (k1 ([115, 121, 115, 99, 97, 108, 108, 108] : List Int)) else (bif (sz == 8) then (k1 ([115, 121, 115, 99, 97, 108, 108, 113] : List Int)) else (k1 ([115, 121, 115, 99, 97, 108, 108] : List Int)))))))
theorem F14_35_ok (sz cd : Int) (K : V → Mem → Prop) : cbody Tryz.prog C0 (fun _ => none) 1000 (fnOf Tryz.prog 14) [(.I .i64 35), (.I .i64 sz), (.I .i64 cd)] [] K = F14_35 sz cd (fun u => K (.S u) []) := by kernel_rfl
theorem h14_35 (sz cd : Int) (k1 : List Int → Prop) (h : k1 (nameI 35 sz cd)) : F14_35 sz cd k1 := by
  have e : nameI 35 sz cd = nmR [([115, 121, 115, 99, 97, 108, 108], 0, 0)] sz cd := rfl
  rw [e] at h
  clear e
  cases a1 : (sz == 1) <;> cases a4 : (sz == 4) <;> cases a8 : (sz == 8) <;> cases a0 : (sz == 0) <;> cases c0 : (cd == 0) <;> simp_all [-beq_eq_false_iff_ne, F14_35, nmR, bne]
theorem H14 (op : Int) (sz : Int) (cd : Int) {E : Wh} {w' : World} {cargs : Array Value} {K : V → Mem → Prop} (hS : Sim E [] w') (ha : VsRel E [.I .i64 op, .I .i64 sz, .I .i64 cd] cargs.toList) (h : K (.S (nameI op sz cd)) []) :
    ((∃ fn, Tryz.prog.funcs[14]? = some fn ∧ fn.body.isSome = true) ∧ Calls Tryz.prog 14 cargs w' (Ret K E [] w')) ∨ ∃ cv w1, (callFunc 14 cargs).run Tryz.prog w' = .ok (.value cv) w1 ∧ Ret K E [] w' (.returned cv) w1 := by
  by_cases h1 : op < -1
  · obtain ⟨q, rfl⟩ : ∃ q : Nat, op = Int.negSucc (q + 1) := ⟨(-op - 2).toNat, by omega⟩
    exact cbody_use named C0_ok at14 (l := 0) rfl (LoopsOk.none _ _) (F14_n_ok q sz cd K) hS ha (by rw [nameI_out (by omega)] at h; exact h)
  by_cases h2 : op > 35
  · obtain ⟨q, rfl⟩ : ∃ q : Nat, op = Int.ofNat (q + 36) := ⟨(op - 36).toNat, by simp only [Int.ofNat_eq_natCast]; omega⟩
    exact cbody_use named C0_ok at14 (l := 0) rfl (LoopsOk.none _ _) (F14_b_ok q sz cd K) hS ha (by rw [nameI_out (by simp only [Int.ofNat_eq_natCast]; omega)] at h; exact h)
  have ho : op = -1 ∨ op = 0 ∨ op = 1 ∨ op = 2 ∨ op = 3 ∨ op = 4 ∨ op = 5 ∨ op = 6 ∨ op = 7 ∨ op = 8 ∨ op = 9 ∨ op = 10 ∨ op = 11 ∨ op = 12 ∨ op = 13 ∨ op = 14 ∨ op = 15 ∨ op = 16 ∨ op = 17 ∨ op = 18 ∨ op = 19 ∨ op = 20 ∨ op = 21 ∨ op = 22 ∨ op = 23 ∨ op = 24 ∨ op = 25 ∨ op = 26 ∨ op = 27 ∨ op = 28 ∨ op = 29 ∨ op = 30 ∨ op = 31 ∨ op = 32 ∨ op = 33 ∨ op = 34 ∨ op = 35 := by omega
  rcases ho with rfl | rfl | rfl | rfl | rfl | rfl | rfl | rfl | rfl | rfl | rfl | rfl | rfl | rfl | rfl | rfl | rfl | rfl | rfl | rfl | rfl | rfl | rfl | rfl | rfl | rfl | rfl | rfl | rfl | rfl | rfl | rfl | rfl | rfl | rfl | rfl | rfl
  · exact cbody_use named C0_ok at14 (l := 0) rfl (LoopsOk.none _ _) (F14_m_ok sz cd K) hS ha (by rw [nameI_out (by omega)] at h; exact h)
  · exact cbody_use named C0_ok at14 (l := 0) rfl (LoopsOk.none _ _) (F14_0_ok sz cd K) hS ha (by rw [nameI_out (by omega)] at h; exact h)
  · exact cbody_use named C0_ok at14 (l := 0) rfl (LoopsOk.none _ _) (F14_1_ok sz cd K) hS ha (h14_1 sz cd (fun u => K (.S u) []) h)
  · exact cbody_use named C0_ok at14 (l := 0) rfl (LoopsOk.none _ _) (F14_2_ok sz cd K) hS ha (h14_2 sz cd (fun u => K (.S u) []) h)
  · exact cbody_use named C0_ok at14 (l := 0) rfl (LoopsOk.none _ _) (F14_3_ok sz cd K) hS ha (h14_3 sz cd (fun u => K (.S u) []) h)
  · exact cbody_use named C0_ok at14 (l := 0) rfl (LoopsOk.none _ _) (F14_4_ok sz cd K) hS ha (h14_4 sz cd (fun u => K (.S u) []) h)
  · exact cbody_use named C0_ok at14 (l := 0) rfl (LoopsOk.none _ _) (F14_5_ok sz cd K) hS ha (h14_5 sz cd (fun u => K (.S u) []) h)
  · exact cbody_use named C0_ok at14 (l := 0) rfl (LoopsOk.none _ _) (F14_6_ok sz cd K) hS ha (h14_6 sz cd (fun u => K (.S u) []) h)
  · exact cbody_use named C0_ok at14 (l := 0) rfl (LoopsOk.none _ _) (F14_7_ok sz cd K) hS ha (h14_7 sz cd (fun u => K (.S u) []) h)
  · exact cbody_use named C0_ok at14 (l := 0) rfl (LoopsOk.none _ _) (F14_8_ok sz cd K) hS ha (h14_8 sz cd (fun u => K (.S u) []) h)
  · exact cbody_use named C0_ok at14 (l := 0) rfl (LoopsOk.none _ _) (F14_9_ok sz cd K) hS ha (h14_9 sz cd (fun u => K (.S u) []) h)
  · exact cbody_use named C0_ok at14 (l := 0) rfl (LoopsOk.none _ _) (F14_10_ok sz cd K) hS ha (h14_10 sz cd (fun u => K (.S u) []) h)
  · exact cbody_use named C0_ok at14 (l := 0) rfl (LoopsOk.none _ _) (F14_11_ok sz cd K) hS ha (h14_11 sz cd (fun u => K (.S u) []) h)
  · exact cbody_use named C0_ok at14 (l := 0) rfl (LoopsOk.none _ _) (F14_12_ok sz cd K) hS ha (h14_12 sz cd (fun u => K (.S u) []) h)
  · exact cbody_use named C0_ok at14 (l := 0) rfl (LoopsOk.none _ _) (F14_13_ok sz cd K) hS ha (h14_13 sz cd (fun u => K (.S u) []) h)
  · exact cbody_use named C0_ok at14 (l := 0) rfl (LoopsOk.none _ _) (F14_14_ok sz cd K) hS ha (h14_14 sz cd (fun u => K (.S u) []) h)
  · exact cbody_use named C0_ok at14 (l := 0) rfl (LoopsOk.none _ _) (F14_15_ok sz cd K) hS ha (h14_15 sz cd (fun u => K (.S u) []) h)
  · exact cbody_use named C0_ok at14 (l := 0) rfl (LoopsOk.none _ _) (F14_16_ok sz cd K) hS ha (h14_16 sz cd (fun u => K (.S u) []) h)
  · exact cbody_use named C0_ok at14 (l := 0) rfl (LoopsOk.none _ _) (F14_17_ok sz cd K) hS ha (h14_17 sz cd (fun u => K (.S u) []) h)
  · exact cbody_use named C0_ok at14 (l := 0) rfl (LoopsOk.none _ _) (F14_18_ok sz cd K) hS ha (h14_18 sz cd (fun u => K (.S u) []) h)
  · exact cbody_use named C0_ok at14 (l := 0) rfl (LoopsOk.none _ _) (F14_19_ok sz cd K) hS ha (h14_19 sz cd (fun u => K (.S u) []) h)
  · exact cbody_use named C0_ok at14 (l := 0) rfl (LoopsOk.none _ _) (F14_20_ok sz cd K) hS ha (h14_20 sz cd (fun u => K (.S u) []) h)
  · exact cbody_use named C0_ok at14 (l := 0) rfl (LoopsOk.none _ _) (F14_21_ok sz cd K) hS ha (h14_21 sz cd (fun u => K (.S u) []) h)
  · exact cbody_use named C0_ok at14 (l := 0) rfl (LoopsOk.none _ _) (F14_22_ok sz cd K) hS ha (h14_22 sz cd (fun u => K (.S u) []) h)
  · exact cbody_use named C0_ok at14 (l := 0) rfl (LoopsOk.none _ _) (F14_23_ok sz cd K) hS ha (h14_23 sz cd (fun u => K (.S u) []) h)
  · exact cbody_use named C0_ok at14 (l := 0) rfl (LoopsOk.none _ _) (F14_24_ok sz cd K) hS ha (h14_24 sz cd (fun u => K (.S u) []) h)
  · exact cbody_use named C0_ok at14 (l := 0) rfl (LoopsOk.none _ _) (F14_25_ok sz cd K) hS ha (h14_25 sz cd (fun u => K (.S u) []) h)
  · exact cbody_use named C0_ok at14 (l := 0) rfl (LoopsOk.none _ _) (F14_26_ok sz cd K) hS ha (h14_26 sz cd (fun u => K (.S u) []) h)
  · exact cbody_use named C0_ok at14 (l := 0) rfl (LoopsOk.none _ _) (F14_27_ok sz cd K) hS ha (h14_27 sz cd (fun u => K (.S u) []) h)
  · exact cbody_use named C0_ok at14 (l := 0) rfl (LoopsOk.none _ _) (F14_28_ok sz cd K) hS ha (h14_28 sz cd (fun u => K (.S u) []) h)
  · exact cbody_use named C0_ok at14 (l := 0) rfl (LoopsOk.none _ _) (F14_29_ok sz cd K) hS ha (h14_29 sz cd (fun u => K (.S u) []) h)
  · exact cbody_use named C0_ok at14 (l := 0) rfl (LoopsOk.none _ _) (F14_30_ok sz cd K) hS ha (h14_30 sz cd (fun u => K (.S u) []) h)
  · exact cbody_use named C0_ok at14 (l := 0) rfl (LoopsOk.none _ _) (F14_31_ok sz cd K) hS ha (h14_31 sz cd (fun u => K (.S u) []) h)
  · exact cbody_use named C0_ok at14 (l := 0) rfl (LoopsOk.none _ _) (F14_32_ok sz cd K) hS ha (h14_32 sz cd (fun u => K (.S u) []) h)
  · exact cbody_use named C0_ok at14 (l := 0) rfl (LoopsOk.none _ _) (F14_33_ok sz cd K) hS ha (h14_33 sz cd (fun u => K (.S u) []) h)
  · exact cbody_use named C0_ok at14 (l := 0) rfl (LoopsOk.none _ _) (F14_34_ok sz cd K) hS ha (h14_34 sz cd (fun u => K (.S u) []) h)
  · exact cbody_use named C0_ok at14 (l := 0) rfl (LoopsOk.none _ _) (F14_35_ok sz cd K) hS ha (h14_35 sz cd (fun u => K (.S u) []) h)

def P14 : Prim := fun args m K =>
  let F := False
  (seeCons args F fun a1 q2 => (seeI .i64 a1 F fun op => (seeCons q2 F fun a3 q4 => (seeI .i64 a3 F fun sz => (seeCons q4 F fun a5 q6 => (seeI .i64 a5 F fun cd => (seeNil q6 F (seeNil m F (K (.S (nameI op sz cd)) [])))))))))
theorem P14_ok : PrimOk Tryz.prog 14 P14 := by
  intro args m K E w cargs hS ha h
  unfold P14 at h
  dsimp only at h
  replace h := seeCons_use h
  rcases h with h | ⟨a1, q2, rfl, h⟩
  · exact h.elim
  replace h := seeI_use h
  rcases h with h | ⟨op, rfl, h⟩
  · exact h.elim
  replace h := seeCons_use h
  rcases h with h | ⟨a3, q4, rfl, h⟩
  · exact h.elim
  replace h := seeI_use h
  rcases h with h | ⟨sz, rfl, h⟩
  · exact h.elim
  replace h := seeCons_use h
  rcases h with h | ⟨a5, q6, rfl, h⟩
  · exact h.elim
  replace h := seeI_use h
  rcases h with h | ⟨cd, rfl, h⟩
  · exact h.elim
  replace h := seeNil_use h
  rcases h with h | ⟨rfl, h⟩
  · exact h.elim
  replace h := seeNil_use h
  rcases h with h | ⟨rfl, h⟩
  · exact h.elim
  exact H14 op sz cd hS ha h
end Go.Proofs.YtkbijhfikkjhpaaGreatDoor.frm
