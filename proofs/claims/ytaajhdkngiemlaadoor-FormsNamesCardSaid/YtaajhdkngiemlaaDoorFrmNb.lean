import Derived.Test.YtaajhdkngiemlaaDoorFrmNs
set_option linter.unusedVariables false
set_option linter.unusedSimpArgs false
set_option maxHeartbeats 4000000
set_option maxRecDepth 100000
namespace Go.Proofs.YtaajhdkngiemlaaDoor.frm
open Go Go.Ab
def F19_n (q : Nat) (sz : Int) (cd : Int) (k1 : List Int → Prop) : Prop :=
  (k1 ([] : List Int))
theorem F19_n_ok (q : Nat) (sz : Int) (cd : Int) (K : V → Mem → Prop) : cbody Tryd.prog C0 (fun _ => none) 1000 (fnOf Tryd.prog 19) [(.I .i64 (Int.negSucc (q + 1))), (.I .i64 sz), (.I .i64 cd)] [] K = F19_n q sz cd (fun u => K (.S u) []) := by kernel_rfl
def F19_m (sz : Int) (cd : Int) (k1 : List Int → Prop) : Prop :=
  (k1 ([] : List Int))
theorem F19_m_ok (sz : Int) (cd : Int) (K : V → Mem → Prop) : cbody Tryd.prog C0 (fun _ => none) 1000 (fnOf Tryd.prog 19) [(.I .i64 (-1 : Int)), (.I .i64 sz), (.I .i64 cd)] [] K = F19_m sz cd (fun u => K (.S u) []) := by kernel_rfl
def F19_0 (sz : Int) (cd : Int) (k1 : List Int → Prop) : Prop :=
  (k1 ([] : List Int))
theorem F19_0_ok (sz : Int) (cd : Int) (K : V → Mem → Prop) : cbody Tryd.prog C0 (fun _ => none) 1000 (fnOf Tryd.prog 19) [(.I .i64 (0 : Int)), (.I .i64 sz), (.I .i64 cd)] [] K = F19_0 sz cd (fun u => K (.S u) []) := by kernel_rfl
def F19_b (q : Nat) (sz : Int) (cd : Int) (k1 : List Int → Prop) : Prop :=
  (k1 ([] : List Int))
theorem F19_b_ok (q : Nat) (sz : Int) (cd : Int) (K : V → Mem → Prop) : cbody Tryd.prog C0 (fun _ => none) 1000 (fnOf Tryd.prog 19) [(.I .i64 (Int.ofNat (q + 36))), (.I .i64 sz), (.I .i64 cd)] [] K = F19_b q sz cd (fun u => K (.S u) []) := by kernel_rfl
def F19_1 (sz : Int) (cd : Int) (k1 : List Int → Prop) : Prop :=
  (bif (sz == 1) then (bif (!(cd == 0)) then (k1 ([] : List Int)) else (bif (sz == 1) then (k1 ([109, 111, 118, 98] : List Int)) else (bif (sz == 4) then (k1 ([109, 111, 118, 108] : List Int)) else (bif (sz == 8) then (k1 ([109, 111, 118, 113] : List Int)) else (k1 ([109, 111, 118] : List Int)))))) else (bif (sz == 4) then (bif (!(cd == 0)) then (k1 ([] : List Int)) else (bif (sz == 1) then (k1 ([109, 111, 118, 98] : List Int)) else (bif (sz == 4) then (k1 ([109, 111, 118, 108] : List Int)) else (bif (sz == 8) then (k1 ([109, 111, 118, 113] : List Int)) else (k1 ([109, 111, 118] : List Int)))))) else (bif (!(sz == 8)) then (k1 ([] : List Int)) else (bif (!(cd == 0)) then (k1 ([] : List Int)) else (bif (sz == 1) then (k1 ([109, 111, 118, 98] : List Int)) else (bif (sz == 4) then (k1 ([109, 111, 118, 108] : List Int)) else (bif (sz == 8) then (k1 ([109, 111, 118, 113] : List Int)) else (k1 ([109, 111, 118] : List Int)))))))))
theorem F19_1_ok (sz : Int) (cd : Int) (K : V → Mem → Prop) : cbody Tryd.prog C0 (fun _ => none) 1000 (fnOf Tryd.prog 19) [(.I .i64 (1 : Int)), (.I .i64 sz), (.I .i64 cd)] [] K = F19_1 sz cd (fun u => K (.S u) []) := by kernel_rfl
theorem h19_1 (sz cd : Int) (k1 : List Int → Prop) (h : k1 (nameI 1 sz cd)) : F19_1 sz cd k1 := by
  have e : nameI 1 sz cd = nmR [([109, 111, 118, 98], 1, 0), ([109, 111, 118, 108], 4, 0), ([109, 111, 118, 113], 8, 0)] sz cd := rfl
  rw [e] at h
  clear e
  cases a1 : (sz == 1) <;> cases a4 : (sz == 4) <;> cases a8 : (sz == 8) <;> cases a0 : (sz == 0) <;> cases c0 : (cd == 0) <;> simp_all [-beq_eq_false_iff_ne, F19_1, nmR, bne]
def F19_2 (sz : Int) (cd : Int) (k1 : List Int → Prop) : Prop :=
  (bif (sz == 4) then (bif (!(cd == 0)) then (k1 ([] : List Int)) else (bif (sz == 1) then (k1 ([108, 101, 97, 98] : List Int)) else (bif (sz == 4) then (k1 ([108, 101, 97, 108] : List Int)) else (bif (sz == 8) then (k1 ([108, 101, 97, 113] : List Int)) else (k1 ([108, 101, 97] : List Int)))))) else (bif (!(sz == 8)) then (k1 ([] : List Int)) else (bif (!(cd == 0)) then (k1 ([] : List Int)) else (bif (sz == 1) then (k1 ([108, 101, 97, 98] : List Int)) else (bif (sz == 4) then (k1 ([108, 101, 97, 108] : List Int)) else (bif (sz == 8) then (k1 ([108, 101, 97, 113] : List Int)) else (k1 ([108, 101, 97] : List Int))))))))
theorem F19_2_ok (sz : Int) (cd : Int) (K : V → Mem → Prop) : cbody Tryd.prog C0 (fun _ => none) 1000 (fnOf Tryd.prog 19) [(.I .i64 (2 : Int)), (.I .i64 sz), (.I .i64 cd)] [] K = F19_2 sz cd (fun u => K (.S u) []) := by kernel_rfl
theorem h19_2 (sz cd : Int) (k1 : List Int → Prop) (h : k1 (nameI 2 sz cd)) : F19_2 sz cd k1 := by
  have e : nameI 2 sz cd = nmR [([108, 101, 97, 108], 4, 0), ([108, 101, 97, 113], 8, 0)] sz cd := rfl
  rw [e] at h
  clear e
  cases a1 : (sz == 1) <;> cases a4 : (sz == 4) <;> cases a8 : (sz == 8) <;> cases a0 : (sz == 0) <;> cases c0 : (cd == 0) <;> simp_all [-beq_eq_false_iff_ne, F19_2, nmR, bne]
def F19_3 (sz : Int) (cd : Int) (k1 : List Int → Prop) : Prop :=
  (bif (sz == 1) then (bif (!(cd == 0)) then (k1 ([] : List Int)) else (bif (sz == 1) then (k1 ([97, 100, 100, 98] : List Int)) else (bif (sz == 4) then (k1 ([97, 100, 100, 108] : List Int)) else (bif (sz == 8) then (k1 ([97, 100, 100, 113] : List Int)) else (k1 ([97, 100, 100] : List Int)))))) else (bif (sz == 4) then (bif (!(cd == 0)) then (k1 ([] : List Int)) else (bif (sz == 1) then (k1 ([97, 100, 100, 98] : List Int)) else (bif (sz == 4) then (k1 ([97, 100, 100, 108] : List Int)) else (bif (sz == 8) then (k1 ([97, 100, 100, 113] : List Int)) else (k1 ([97, 100, 100] : List Int)))))) else (bif (!(sz == 8)) then (k1 ([] : List Int)) else (bif (!(cd == 0)) then (k1 ([] : List Int)) else (bif (sz == 1) then (k1 ([97, 100, 100, 98] : List Int)) else (bif (sz == 4) then (k1 ([97, 100, 100, 108] : List Int)) else (bif (sz == 8) then (k1 ([97, 100, 100, 113] : List Int)) else (k1 ([97, 100, 100] : List Int)))))))))
theorem F19_3_ok (sz : Int) (cd : Int) (K : V → Mem → Prop) : cbody Tryd.prog C0 (fun _ => none) 1000 (fnOf Tryd.prog 19) [(.I .i64 (3 : Int)), (.I .i64 sz), (.I .i64 cd)] [] K = F19_3 sz cd (fun u => K (.S u) []) := by kernel_rfl
theorem h19_3 (sz cd : Int) (k1 : List Int → Prop) (h : k1 (nameI 3 sz cd)) : F19_3 sz cd k1 := by
  have e : nameI 3 sz cd = nmR [([97, 100, 100, 98], 1, 0), ([97, 100, 100, 108], 4, 0), ([97, 100, 100, 113], 8, 0)] sz cd := rfl
  rw [e] at h
  clear e
  cases a1 : (sz == 1) <;> cases a4 : (sz == 4) <;> cases a8 : (sz == 8) <;> cases a0 : (sz == 0) <;> cases c0 : (cd == 0) <;> simp_all [-beq_eq_false_iff_ne, F19_3, nmR, bne]
def F19_4 (sz : Int) (cd : Int) (k1 : List Int → Prop) : Prop :=
  (bif (sz == 1) then (bif (!(cd == 0)) then (k1 ([] : List Int)) else (bif (sz == 1) then (k1 ([111, 114, 98] : List Int)) else (bif (sz == 4) then (k1 ([111, 114, 108] : List Int)) else (bif (sz == 8) then (k1 ([111, 114, 113] : List Int)) else (k1 ([111, 114] : List Int)))))) else (bif (sz == 4) then (bif (!(cd == 0)) then (k1 ([] : List Int)) else (bif (sz == 1) then (k1 ([111, 114, 98] : List Int)) else (bif (sz == 4) then (k1 ([111, 114, 108] : List Int)) else (bif (sz == 8) then (k1 ([111, 114, 113] : List Int)) else (k1 ([111, 114] : List Int)))))) else (bif (!(sz == 8)) then (k1 ([] : List Int)) else (bif (!(cd == 0)) then (k1 ([] : List Int)) else (bif (sz == 1) then (k1 ([111, 114, 98] : List Int)) else (bif (sz == 4) then (k1 ([111, 114, 108] : List Int)) else (bif (sz == 8) then (k1 ([111, 114, 113] : List Int)) else (k1 ([111, 114] : List Int)))))))))
theorem F19_4_ok (sz : Int) (cd : Int) (K : V → Mem → Prop) : cbody Tryd.prog C0 (fun _ => none) 1000 (fnOf Tryd.prog 19) [(.I .i64 (4 : Int)), (.I .i64 sz), (.I .i64 cd)] [] K = F19_4 sz cd (fun u => K (.S u) []) := by kernel_rfl
theorem h19_4 (sz cd : Int) (k1 : List Int → Prop) (h : k1 (nameI 4 sz cd)) : F19_4 sz cd k1 := by
  have e : nameI 4 sz cd = nmR [([111, 114, 98], 1, 0), ([111, 114, 108], 4, 0), ([111, 114, 113], 8, 0)] sz cd := rfl
  rw [e] at h
  clear e
  cases a1 : (sz == 1) <;> cases a4 : (sz == 4) <;> cases a8 : (sz == 8) <;> cases a0 : (sz == 0) <;> cases c0 : (cd == 0) <;> simp_all [-beq_eq_false_iff_ne, F19_4, nmR, bne]
def F19_5 (sz : Int) (cd : Int) (k1 : List Int → Prop) : Prop :=
  (bif (sz == 1) then (bif (!(cd == 0)) then (k1 ([] : List Int)) else (bif (sz == 1) then (k1 ([97, 100, 99, 98] : List Int)) else (bif (sz == 4) then (k1 ([97, 100, 99, 108] : List Int)) else (bif (sz == 8) then (k1 ([97, 100, 99, 113] : List Int)) else (k1 ([97, 100, 99] : List Int)))))) else (bif (sz == 4) then (bif (!(cd == 0)) then (k1 ([] : List Int)) else (bif (sz == 1) then (k1 ([97, 100, 99, 98] : List Int)) else (bif (sz == 4) then (k1 ([97, 100, 99, 108] : List Int)) else (bif (sz == 8) then (k1 ([97, 100, 99, 113] : List Int)) else (k1 ([97, 100, 99] : List Int)))))) else (bif (!(sz == 8)) then (k1 ([] : List Int)) else (bif (!(cd == 0)) then (k1 ([] : List Int)) else (bif (sz == 1) then (k1 ([97, 100, 99, 98] : List Int)) else (bif (sz == 4) then (k1 ([97, 100, 99, 108] : List Int)) else (bif (sz == 8) then (k1 ([97, 100, 99, 113] : List Int)) else (k1 ([97, 100, 99] : List Int)))))))))
theorem F19_5_ok (sz : Int) (cd : Int) (K : V → Mem → Prop) : cbody Tryd.prog C0 (fun _ => none) 1000 (fnOf Tryd.prog 19) [(.I .i64 (5 : Int)), (.I .i64 sz), (.I .i64 cd)] [] K = F19_5 sz cd (fun u => K (.S u) []) := by kernel_rfl
theorem h19_5 (sz cd : Int) (k1 : List Int → Prop) (h : k1 (nameI 5 sz cd)) : F19_5 sz cd k1 := by
  have e : nameI 5 sz cd = nmR [([97, 100, 99, 98], 1, 0), ([97, 100, 99, 108], 4, 0), ([97, 100, 99, 113], 8, 0)] sz cd := rfl
  rw [e] at h
  clear e
  cases a1 : (sz == 1) <;> cases a4 : (sz == 4) <;> cases a8 : (sz == 8) <;> cases a0 : (sz == 0) <;> cases c0 : (cd == 0) <;> simp_all [-beq_eq_false_iff_ne, F19_5, nmR, bne]
def F19_6 (sz : Int) (cd : Int) (k1 : List Int → Prop) : Prop :=
  (bif (sz == 1) then (bif (!(cd == 0)) then (k1 ([] : List Int)) else (bif (sz == 1) then (k1 ([115, 98, 98, 98] : List Int)) else (bif (sz == 4) then (k1 ([115, 98, 98, 108] : List Int)) else (bif (sz == 8) then (k1 ([115, 98, 98, 113] : List Int)) else (k1 ([115, 98, 98] : List Int)))))) else (bif (sz == 4) then (bif (!(cd == 0)) then (k1 ([] : List Int)) else (bif (sz == 1) then (k1 ([115, 98, 98, 98] : List Int)) else (bif (sz == 4) then (k1 ([115, 98, 98, 108] : List Int)) else (bif (sz == 8) then (k1 ([115, 98, 98, 113] : List Int)) else (k1 ([115, 98, 98] : List Int)))))) else (bif (!(sz == 8)) then (k1 ([] : List Int)) else (bif (!(cd == 0)) then (k1 ([] : List Int)) else (bif (sz == 1) then (k1 ([115, 98, 98, 98] : List Int)) else (bif (sz == 4) then (k1 ([115, 98, 98, 108] : List Int)) else (bif (sz == 8) then (k1 ([115, 98, 98, 113] : List Int)) else (k1 ([115, 98, 98] : List Int)))))))))
theorem F19_6_ok (sz : Int) (cd : Int) (K : V → Mem → Prop) : cbody Tryd.prog C0 (fun _ => none) 1000 (fnOf Tryd.prog 19) [(.I .i64 (6 : Int)), (.I .i64 sz), (.I .i64 cd)] [] K = F19_6 sz cd (fun u => K (.S u) []) := by kernel_rfl
theorem h19_6 (sz cd : Int) (k1 : List Int → Prop) (h : k1 (nameI 6 sz cd)) : F19_6 sz cd k1 := by
  have e : nameI 6 sz cd = nmR [([115, 98, 98, 98], 1, 0), ([115, 98, 98, 108], 4, 0), ([115, 98, 98, 113], 8, 0)] sz cd := rfl
  rw [e] at h
  clear e
  cases a1 : (sz == 1) <;> cases a4 : (sz == 4) <;> cases a8 : (sz == 8) <;> cases a0 : (sz == 0) <;> cases c0 : (cd == 0) <;> simp_all [-beq_eq_false_iff_ne, F19_6, nmR, bne]
def F19_7 (sz : Int) (cd : Int) (k1 : List Int → Prop) : Prop :=
  (bif (sz == 1) then (bif (!(cd == 0)) then (k1 ([] : List Int)) else (bif (sz == 1) then (k1 ([97, 110, 100, 98] : List Int)) else (bif (sz == 4) then (k1 ([97, 110, 100, 108] : List Int)) else (bif (sz == 8) then (k1 ([97, 110, 100, 113] : List Int)) else (k1 ([97, 110, 100] : List Int)))))) else (bif (sz == 4) then (bif (!(cd == 0)) then (k1 ([] : List Int)) else (bif (sz == 1) then (k1 ([97, 110, 100, 98] : List Int)) else (bif (sz == 4) then (k1 ([97, 110, 100, 108] : List Int)) else (bif (sz == 8) then (k1 ([97, 110, 100, 113] : List Int)) else (k1 ([97, 110, 100] : List Int)))))) else (bif (!(sz == 8)) then (k1 ([] : List Int)) else (bif (!(cd == 0)) then (k1 ([] : List Int)) else (bif (sz == 1) then (k1 ([97, 110, 100, 98] : List Int)) else (bif (sz == 4) then (k1 ([97, 110, 100, 108] : List Int)) else (bif (sz == 8) then (k1 ([97, 110, 100, 113] : List Int)) else (k1 ([97, 110, 100] : List Int)))))))))
theorem F19_7_ok (sz : Int) (cd : Int) (K : V → Mem → Prop) : cbody Tryd.prog C0 (fun _ => none) 1000 (fnOf Tryd.prog 19) [(.I .i64 (7 : Int)), (.I .i64 sz), (.I .i64 cd)] [] K = F19_7 sz cd (fun u => K (.S u) []) := by kernel_rfl
theorem h19_7 (sz cd : Int) (k1 : List Int → Prop) (h : k1 (nameI 7 sz cd)) : F19_7 sz cd k1 := by
  have e : nameI 7 sz cd = nmR [([97, 110, 100, 98], 1, 0), ([97, 110, 100, 108], 4, 0), ([97, 110, 100, 113], 8, 0)] sz cd := rfl
  rw [e] at h
  clear e
  cases a1 : (sz == 1) <;> cases a4 : (sz == 4) <;> cases a8 : (sz == 8) <;> cases a0 : (sz == 0) <;> cases c0 : (cd == 0) <;> simp_all [-beq_eq_false_iff_ne, F19_7, nmR, bne]
def F19_8 (sz : Int) (cd : Int) (k1 : List Int → Prop) : Prop :=
  (bif (sz == 1) then (bif (!(cd == 0)) then (k1 ([] : List Int)) else (bif (sz == 1) then (k1 ([115, 117, 98, 98] : List Int)) else (bif (sz == 4) then (k1 ([115, 117, 98, 108] : List Int)) else (bif (sz == 8) then (k1 ([115, 117, 98, 113] : List Int)) else (k1 ([115, 117, 98] : List Int)))))) else (bif (sz == 4) then (bif (!(cd == 0)) then (k1 ([] : List Int)) else (bif (sz == 1) then (k1 ([115, 117, 98, 98] : List Int)) else (bif (sz == 4) then (k1 ([115, 117, 98, 108] : List Int)) else (bif (sz == 8) then (k1 ([115, 117, 98, 113] : List Int)) else (k1 ([115, 117, 98] : List Int)))))) else (bif (!(sz == 8)) then (k1 ([] : List Int)) else (bif (!(cd == 0)) then (k1 ([] : List Int)) else (bif (sz == 1) then (k1 ([115, 117, 98, 98] : List Int)) else (bif (sz == 4) then (k1 ([115, 117, 98, 108] : List Int)) else (bif (sz == 8) then (k1 ([115, 117, 98, 113] : List Int)) else (k1 ([115, 117, 98] : List Int)))))))))
theorem F19_8_ok (sz : Int) (cd : Int) (K : V → Mem → Prop) : cbody Tryd.prog C0 (fun _ => none) 1000 (fnOf Tryd.prog 19) [(.I .i64 (8 : Int)), (.I .i64 sz), (.I .i64 cd)] [] K = F19_8 sz cd (fun u => K (.S u) []) := by kernel_rfl
theorem h19_8 (sz cd : Int) (k1 : List Int → Prop) (h : k1 (nameI 8 sz cd)) : F19_8 sz cd k1 := by
  have e : nameI 8 sz cd = nmR [([115, 117, 98, 98], 1, 0), ([115, 117, 98, 108], 4, 0), ([115, 117, 98, 113], 8, 0)] sz cd := rfl
  rw [e] at h
  clear e
  cases a1 : (sz == 1) <;> cases a4 : (sz == 4) <;> cases a8 : (sz == 8) <;> cases a0 : (sz == 0) <;> cases c0 : (cd == 0) <;> simp_all [-beq_eq_false_iff_ne, F19_8, nmR, bne]
def F19_9 (sz : Int) (cd : Int) (k1 : List Int → Prop) : Prop :=
  (bif (sz == 1) then (bif (!(cd == 0)) then (k1 ([] : List Int)) else (bif (sz == 1) then (k1 ([120, 111, 114, 98] : List Int)) else (bif (sz == 4) then (k1 ([120, 111, 114, 108] : List Int)) else (bif (sz == 8) then (k1 ([120, 111, 114, 113] : List Int)) else (k1 ([120, 111, 114] : List Int)))))) else (bif (sz == 4) then (bif (!(cd == 0)) then (k1 ([] : List Int)) else (bif (sz == 1) then (k1 ([120, 111, 114, 98] : List Int)) else (bif (sz == 4) then (k1 ([120, 111, 114, 108] : List Int)) else (bif (sz == 8) then (k1 ([120, 111, 114, 113] : List Int)) else (k1 ([120, 111, 114] : List Int)))))) else (bif (!(sz == 8)) then (k1 ([] : List Int)) else (bif (!(cd == 0)) then (k1 ([] : List Int)) else (bif (sz == 1) then (k1 ([120, 111, 114, 98] : List Int)) else (bif (sz == 4) then (k1 ([120, 111, 114, 108] : List Int)) else (bif (sz == 8) then (k1 ([120, 111, 114, 113] : List Int)) else (k1 ([120, 111, 114] : List Int)))))))))
theorem F19_9_ok (sz : Int) (cd : Int) (K : V → Mem → Prop) : cbody Tryd.prog C0 (fun _ => none) 1000 (fnOf Tryd.prog 19) [(.I .i64 (9 : Int)), (.I .i64 sz), (.I .i64 cd)] [] K = F19_9 sz cd (fun u => K (.S u) []) := by kernel_rfl
theorem h19_9 (sz cd : Int) (k1 : List Int → Prop) (h : k1 (nameI 9 sz cd)) : F19_9 sz cd k1 := by
  have e : nameI 9 sz cd = nmR [([120, 111, 114, 98], 1, 0), ([120, 111, 114, 108], 4, 0), ([120, 111, 114, 113], 8, 0)] sz cd := rfl
  rw [e] at h
  clear e
  cases a1 : (sz == 1) <;> cases a4 : (sz == 4) <;> cases a8 : (sz == 8) <;> cases a0 : (sz == 0) <;> cases c0 : (cd == 0) <;> simp_all [-beq_eq_false_iff_ne, F19_9, nmR, bne]
def F19_10 (sz : Int) (cd : Int) (k1 : List Int → Prop) : Prop :=
  (bif (sz == 1) then (bif (!(cd == 0)) then (k1 ([] : List Int)) else (bif (sz == 1) then (k1 ([99, 109, 112, 98] : List Int)) else (bif (sz == 4) then (k1 ([99, 109, 112, 108] : List Int)) else (bif (sz == 8) then (k1 ([99, 109, 112, 113] : List Int)) else (k1 ([99, 109, 112] : List Int)))))) else (bif (sz == 4) then (bif (!(cd == 0)) then (k1 ([] : List Int)) else (bif (sz == 1) then (k1 ([99, 109, 112, 98] : List Int)) else (bif (sz == 4) then (k1 ([99, 109, 112, 108] : List Int)) else (bif (sz == 8) then (k1 ([99, 109, 112, 113] : List Int)) else (k1 ([99, 109, 112] : List Int)))))) else (bif (!(sz == 8)) then (k1 ([] : List Int)) else (bif (!(cd == 0)) then (k1 ([] : List Int)) else (bif (sz == 1) then (k1 ([99, 109, 112, 98] : List Int)) else (bif (sz == 4) then (k1 ([99, 109, 112, 108] : List Int)) else (bif (sz == 8) then (k1 ([99, 109, 112, 113] : List Int)) else (k1 ([99, 109, 112] : List Int)))))))))
theorem F19_10_ok (sz : Int) (cd : Int) (K : V → Mem → Prop) : cbody Tryd.prog C0 (fun _ => none) 1000 (fnOf Tryd.prog 19) [(.I .i64 (10 : Int)), (.I .i64 sz), (.I .i64 cd)] [] K = F19_10 sz cd (fun u => K (.S u) []) := by kernel_rfl
theorem h19_10 (sz cd : Int) (k1 : List Int → Prop) (h : k1 (nameI 10 sz cd)) : F19_10 sz cd k1 := by
  have e : nameI 10 sz cd = nmR [([99, 109, 112, 98], 1, 0), ([99, 109, 112, 108], 4, 0), ([99, 109, 112, 113], 8, 0)] sz cd := rfl
  rw [e] at h
  clear e
  cases a1 : (sz == 1) <;> cases a4 : (sz == 4) <;> cases a8 : (sz == 8) <;> cases a0 : (sz == 0) <;> cases c0 : (cd == 0) <;> simp_all [-beq_eq_false_iff_ne, F19_10, nmR, bne]
def F19_11 (sz : Int) (cd : Int) (k1 : List Int → Prop) : Prop :=
  (bif (sz == 1) then (bif (!(cd == 0)) then (k1 ([] : List Int)) else (bif (sz == 1) then (k1 ([116, 101, 115, 116, 98] : List Int)) else (bif (sz == 4) then (k1 ([116, 101, 115, 116, 108] : List Int)) else (bif (sz == 8) then (k1 ([116, 101, 115, 116, 113] : List Int)) else (k1 ([116, 101, 115, 116] : List Int)))))) else (bif (sz == 4) then (bif (!(cd == 0)) then (k1 ([] : List Int)) else (bif (sz == 1) then (k1 ([116, 101, 115, 116, 98] : List Int)) else (bif (sz == 4) then (k1 ([116, 101, 115, 116, 108] : List Int)) else (bif (sz == 8) then (k1 ([116, 101, 115, 116, 113] : List Int)) else (k1 ([116, 101, 115, 116] : List Int)))))) else (bif (!(sz == 8)) then (k1 ([] : List Int)) else (bif (!(cd == 0)) then (k1 ([] : List Int)) else (bif (sz == 1) then (k1 ([116, 101, 115, 116, 98] : List Int)) else (bif (sz == 4) then (k1 ([116, 101, 115, 116, 108] : List Int)) else (bif (sz == 8) then (k1 ([116, 101, 115, 116, 113] : List Int)) else (k1 ([116, 101, 115, 116] : List Int)))))))))
theorem F19_11_ok (sz : Int) (cd : Int) (K : V → Mem → Prop) : cbody Tryd.prog C0 (fun _ => none) 1000 (fnOf Tryd.prog 19) [(.I .i64 (11 : Int)), (.I .i64 sz), (.I .i64 cd)] [] K = F19_11 sz cd (fun u => K (.S u) []) := by kernel_rfl
theorem h19_11 (sz cd : Int) (k1 : List Int → Prop) (h : k1 (nameI 11 sz cd)) : F19_11 sz cd k1 := by
  have e : nameI 11 sz cd = nmR [([116, 101, 115, 116, 98], 1, 0), ([116, 101, 115, 116, 108], 4, 0), ([116, 101, 115, 116, 113], 8, 0)] sz cd := rfl
  rw [e] at h
  clear e
  cases a1 : (sz == 1) <;> cases a4 : (sz == 4) <;> cases a8 : (sz == 8) <;> cases a0 : (sz == 0) <;> cases c0 : (cd == 0) <;> simp_all [-beq_eq_false_iff_ne, F19_11, nmR, bne]
def F19_12 (sz : Int) (cd : Int) (k1 : List Int → Prop) : Prop :=
  (bif (sz == 4) then (bif (!(cd == 0)) then (k1 ([] : List Int)) else (bif (sz == 1) then (k1 ([105, 109, 117, 108, 98] : List Int)) else (bif (sz == 4) then (k1 ([105, 109, 117, 108, 108] : List Int)) else (bif (sz == 8) then (k1 ([105, 109, 117, 108, 113] : List Int)) else (k1 ([105, 109, 117, 108] : List Int)))))) else (bif (!(sz == 8)) then (k1 ([] : List Int)) else (bif (!(cd == 0)) then (k1 ([] : List Int)) else (bif (sz == 1) then (k1 ([105, 109, 117, 108, 98] : List Int)) else (bif (sz == 4) then (k1 ([105, 109, 117, 108, 108] : List Int)) else (bif (sz == 8) then (k1 ([105, 109, 117, 108, 113] : List Int)) else (k1 ([105, 109, 117, 108] : List Int))))))))
theorem F19_12_ok (sz : Int) (cd : Int) (K : V → Mem → Prop) : cbody Tryd.prog C0 (fun _ => none) 1000 (fnOf Tryd.prog 19) [(.I .i64 (12 : Int)), (.I .i64 sz), (.I .i64 cd)] [] K = F19_12 sz cd (fun u => K (.S u) []) := by kernel_rfl
theorem h19_12 (sz cd : Int) (k1 : List Int → Prop) (h : k1 (nameI 12 sz cd)) : F19_12 sz cd k1 := by
  have e : nameI 12 sz cd = nmR [([105, 109, 117, 108, 108], 4, 0), ([105, 109, 117, 108, 113], 8, 0)] sz cd := rfl
  rw [e] at h
  clear e
  cases a1 : (sz == 1) <;> cases a4 : (sz == 4) <;> cases a8 : (sz == 8) <;> cases a0 : (sz == 0) <;> cases c0 : (cd == 0) <;> simp_all [-beq_eq_false_iff_ne, F19_12, nmR, bne]
def F19_13 (sz : Int) (cd : Int) (k1 : List Int → Prop) : Prop :=
  (bif (sz == 1) then (bif (!(cd == 0)) then (k1 ([] : List Int)) else (bif (sz == 1) then (k1 ([110, 101, 103, 98] : List Int)) else (bif (sz == 4) then (k1 ([110, 101, 103, 108] : List Int)) else (bif (sz == 8) then (k1 ([110, 101, 103, 113] : List Int)) else (k1 ([110, 101, 103] : List Int)))))) else (bif (sz == 4) then (bif (!(cd == 0)) then (k1 ([] : List Int)) else (bif (sz == 1) then (k1 ([110, 101, 103, 98] : List Int)) else (bif (sz == 4) then (k1 ([110, 101, 103, 108] : List Int)) else (bif (sz == 8) then (k1 ([110, 101, 103, 113] : List Int)) else (k1 ([110, 101, 103] : List Int)))))) else (bif (!(sz == 8)) then (k1 ([] : List Int)) else (bif (!(cd == 0)) then (k1 ([] : List Int)) else (bif (sz == 1) then (k1 ([110, 101, 103, 98] : List Int)) else (bif (sz == 4) then (k1 ([110, 101, 103, 108] : List Int)) else (bif (sz == 8) then (k1 ([110, 101, 103, 113] : List Int)) else (k1 ([110, 101, 103] : List Int)))))))))
theorem F19_13_ok (sz : Int) (cd : Int) (K : V → Mem → Prop) : cbody Tryd.prog C0 (fun _ => none) 1000 (fnOf Tryd.prog 19) [(.I .i64 (13 : Int)), (.I .i64 sz), (.I .i64 cd)] [] K = F19_13 sz cd (fun u => K (.S u) []) := by kernel_rfl
theorem h19_13 (sz cd : Int) (k1 : List Int → Prop) (h : k1 (nameI 13 sz cd)) : F19_13 sz cd k1 := by
  have e : nameI 13 sz cd = nmR [([110, 101, 103, 98], 1, 0), ([110, 101, 103, 108], 4, 0), ([110, 101, 103, 113], 8, 0)] sz cd := rfl
  rw [e] at h
  clear e
  cases a1 : (sz == 1) <;> cases a4 : (sz == 4) <;> cases a8 : (sz == 8) <;> cases a0 : (sz == 0) <;> cases c0 : (cd == 0) <;> simp_all [-beq_eq_false_iff_ne, F19_13, nmR, bne]
def F19_14 (sz : Int) (cd : Int) (k1 : List Int → Prop) : Prop :=
  (bif (sz == 1) then (bif (!(cd == 0)) then (k1 ([] : List Int)) else (bif (sz == 1) then (k1 ([110, 111, 116, 98] : List Int)) else (bif (sz == 4) then (k1 ([110, 111, 116, 108] : List Int)) else (bif (sz == 8) then (k1 ([110, 111, 116, 113] : List Int)) else (k1 ([110, 111, 116] : List Int)))))) else (bif (sz == 4) then (bif (!(cd == 0)) then (k1 ([] : List Int)) else (bif (sz == 1) then (k1 ([110, 111, 116, 98] : List Int)) else (bif (sz == 4) then (k1 ([110, 111, 116, 108] : List Int)) else (bif (sz == 8) then (k1 ([110, 111, 116, 113] : List Int)) else (k1 ([110, 111, 116] : List Int)))))) else (bif (!(sz == 8)) then (k1 ([] : List Int)) else (bif (!(cd == 0)) then (k1 ([] : List Int)) else (bif (sz == 1) then (k1 ([110, 111, 116, 98] : List Int)) else (bif (sz == 4) then (k1 ([110, 111, 116, 108] : List Int)) else (bif (sz == 8) then (k1 ([110, 111, 116, 113] : List Int)) else (k1 ([110, 111, 116] : List Int)))))))))
theorem F19_14_ok (sz : Int) (cd : Int) (K : V → Mem → Prop) : cbody Tryd.prog C0 (fun _ => none) 1000 (fnOf Tryd.prog 19) [(.I .i64 (14 : Int)), (.I .i64 sz), (.I .i64 cd)] [] K = F19_14 sz cd (fun u => K (.S u) []) := by kernel_rfl
theorem h19_14 (sz cd : Int) (k1 : List Int → Prop) (h : k1 (nameI 14 sz cd)) : F19_14 sz cd k1 := by
  have e : nameI 14 sz cd = nmR [([110, 111, 116, 98], 1, 0), ([110, 111, 116, 108], 4, 0), ([110, 111, 116, 113], 8, 0)] sz cd := rfl
  rw [e] at h
  clear e
  cases a1 : (sz == 1) <;> cases a4 : (sz == 4) <;> cases a8 : (sz == 8) <;> cases a0 : (sz == 0) <;> cases c0 : (cd == 0) <;> simp_all [-beq_eq_false_iff_ne, F19_14, nmR, bne]
def F19_15 (sz : Int) (cd : Int) (k1 : List Int → Prop) : Prop :=
  (bif (sz == 1) then (bif (!(cd == 0)) then (k1 ([] : List Int)) else (bif (sz == 1) then (k1 ([105, 110, 99, 98] : List Int)) else (bif (sz == 4) then (k1 ([105, 110, 99, 108] : List Int)) else (bif (sz == 8) then (k1 ([105, 110, 99, 113] : List Int)) else (k1 ([105, 110, 99] : List Int)))))) else (bif (sz == 4) then (bif (!(cd == 0)) then (k1 ([] : List Int)) else (bif (sz == 1) then (k1 ([105, 110, 99, 98] : List Int)) else (bif (sz == 4) then (k1 ([105, 110, 99, 108] : List Int)) else (bif (sz == 8) then (k1 ([105, 110, 99, 113] : List Int)) else (k1 ([105, 110, 99] : List Int)))))) else (bif (!(sz == 8)) then (k1 ([] : List Int)) else (bif (!(cd == 0)) then (k1 ([] : List Int)) else (bif (sz == 1) then (k1 ([105, 110, 99, 98] : List Int)) else (bif (sz == 4) then (k1 ([105, 110, 99, 108] : List Int)) else (bif (sz == 8) then (k1 ([105, 110, 99, 113] : List Int)) else (k1 ([105, 110, 99] : List Int)))))))))
theorem F19_15_ok (sz : Int) (cd : Int) (K : V → Mem → Prop) : cbody Tryd.prog C0 (fun _ => none) 1000 (fnOf Tryd.prog 19) [(.I .i64 (15 : Int)), (.I .i64 sz), (.I .i64 cd)] [] K = F19_15 sz cd (fun u => K (.S u) []) := by kernel_rfl
theorem h19_15 (sz cd : Int) (k1 : List Int → Prop) (h : k1 (nameI 15 sz cd)) : F19_15 sz cd k1 := by
  have e : nameI 15 sz cd = nmR [([105, 110, 99, 98], 1, 0), ([105, 110, 99, 108], 4, 0), ([105, 110, 99, 113], 8, 0)] sz cd := rfl
  rw [e] at h
  clear e
  cases a1 : (sz == 1) <;> cases a4 : (sz == 4) <;> cases a8 : (sz == 8) <;> cases a0 : (sz == 0) <;> cases c0 : (cd == 0) <;> simp_all [-beq_eq_false_iff_ne, F19_15, nmR, bne]
def F19_16 (sz : Int) (cd : Int) (k1 : List Int → Prop) : Prop :=
  (bif (sz == 1) then (bif (!(cd == 0)) then (k1 ([] : List Int)) else (bif (sz == 1) then (k1 ([100, 101, 99, 98] : List Int)) else (bif (sz == 4) then (k1 ([100, 101, 99, 108] : List Int)) else (bif (sz == 8) then (k1 ([100, 101, 99, 113] : List Int)) else (k1 ([100, 101, 99] : List Int)))))) else (bif (sz == 4) then (bif (!(cd == 0)) then (k1 ([] : List Int)) else (bif (sz == 1) then (k1 ([100, 101, 99, 98] : List Int)) else (bif (sz == 4) then (k1 ([100, 101, 99, 108] : List Int)) else (bif (sz == 8) then (k1 ([100, 101, 99, 113] : List Int)) else (k1 ([100, 101, 99] : List Int)))))) else (bif (!(sz == 8)) then (k1 ([] : List Int)) else (bif (!(cd == 0)) then (k1 ([] : List Int)) else (bif (sz == 1) then (k1 ([100, 101, 99, 98] : List Int)) else (bif (sz == 4) then (k1 ([100, 101, 99, 108] : List Int)) else (bif (sz == 8) then (k1 ([100, 101, 99, 113] : List Int)) else (k1 ([100, 101, 99] : List Int)))))))))
theorem F19_16_ok (sz : Int) (cd : Int) (K : V → Mem → Prop) : cbody Tryd.prog C0 (fun _ => none) 1000 (fnOf Tryd.prog 19) [(.I .i64 (16 : Int)), (.I .i64 sz), (.I .i64 cd)] [] K = F19_16 sz cd (fun u => K (.S u) []) := by kernel_rfl
theorem h19_16 (sz cd : Int) (k1 : List Int → Prop) (h : k1 (nameI 16 sz cd)) : F19_16 sz cd k1 := by
  have e : nameI 16 sz cd = nmR [([100, 101, 99, 98], 1, 0), ([100, 101, 99, 108], 4, 0), ([100, 101, 99, 113], 8, 0)] sz cd := rfl
  rw [e] at h
  clear e
  cases a1 : (sz == 1) <;> cases a4 : (sz == 4) <;> cases a8 : (sz == 8) <;> cases a0 : (sz == 0) <;> cases c0 : (cd == 0) <;> simp_all [-beq_eq_false_iff_ne, F19_16, nmR, bne]
def F19_17 (sz : Int) (cd : Int) (k1 : List Int → Prop) : Prop :=
  (bif (sz == 1) then (bif (!(cd == 0)) then (k1 ([] : List Int)) else (bif (sz == 1) then (k1 ([115, 104, 108, 98] : List Int)) else (bif (sz == 4) then (k1 ([115, 104, 108, 108] : List Int)) else (bif (sz == 8) then (k1 ([115, 104, 108, 113] : List Int)) else (k1 ([115, 104, 108] : List Int)))))) else (bif (sz == 4) then (bif (!(cd == 0)) then (k1 ([] : List Int)) else (bif (sz == 1) then (k1 ([115, 104, 108, 98] : List Int)) else (bif (sz == 4) then (k1 ([115, 104, 108, 108] : List Int)) else (bif (sz == 8) then (k1 ([115, 104, 108, 113] : List Int)) else (k1 ([115, 104, 108] : List Int)))))) else (bif (!(sz == 8)) then (k1 ([] : List Int)) else (bif (!(cd == 0)) then (k1 ([] : List Int)) else (bif (sz == 1) then (k1 ([115, 104, 108, 98] : List Int)) else (bif (sz == 4) then (k1 ([115, 104, 108, 108] : List Int)) else (bif (sz == 8) then (k1 ([115, 104, 108, 113] : List Int)) else (k1 ([115, 104, 108] : List Int)))))))))
theorem F19_17_ok (sz : Int) (cd : Int) (K : V → Mem → Prop) : cbody Tryd.prog C0 (fun _ => none) 1000 (fnOf Tryd.prog 19) [(.I .i64 (17 : Int)), (.I .i64 sz), (.I .i64 cd)] [] K = F19_17 sz cd (fun u => K (.S u) []) := by kernel_rfl
theorem h19_17 (sz cd : Int) (k1 : List Int → Prop) (h : k1 (nameI 17 sz cd)) : F19_17 sz cd k1 := by
  have e : nameI 17 sz cd = nmR [([115, 104, 108, 98], 1, 0), ([115, 104, 108, 108], 4, 0), ([115, 104, 108, 113], 8, 0)] sz cd := rfl
  rw [e] at h
  clear e
  cases a1 : (sz == 1) <;> cases a4 : (sz == 4) <;> cases a8 : (sz == 8) <;> cases a0 : (sz == 0) <;> cases c0 : (cd == 0) <;> simp_all [-beq_eq_false_iff_ne, F19_17, nmR, bne]
def F19_18 (sz : Int) (cd : Int) (k1 : List Int → Prop) : Prop :=
  (bif (sz == 1) then (bif (!(cd == 0)) then (k1 ([] : List Int)) else (bif (sz == 1) then (k1 ([115, 104, 114, 98] : List Int)) else (bif (sz == 4) then (k1 ([115, 104, 114, 108] : List Int)) else (bif (sz == 8) then (k1 ([115, 104, 114, 113] : List Int)) else (k1 ([115, 104, 114] : List Int)))))) else (bif (sz == 4) then (bif (!(cd == 0)) then (k1 ([] : List Int)) else (bif (sz == 1) then (k1 ([115, 104, 114, 98] : List Int)) else (bif (sz == 4) then (k1 ([115, 104, 114, 108] : List Int)) else (bif (sz == 8) then (k1 ([115, 104, 114, 113] : List Int)) else (k1 ([115, 104, 114] : List Int)))))) else (bif (!(sz == 8)) then (k1 ([] : List Int)) else (bif (!(cd == 0)) then (k1 ([] : List Int)) else (bif (sz == 1) then (k1 ([115, 104, 114, 98] : List Int)) else (bif (sz == 4) then (k1 ([115, 104, 114, 108] : List Int)) else (bif (sz == 8) then (k1 ([115, 104, 114, 113] : List Int)) else (k1 ([115, 104, 114] : List Int)))))))))
theorem F19_18_ok (sz : Int) (cd : Int) (K : V → Mem → Prop) : cbody Tryd.prog C0 (fun _ => none) 1000 (fnOf Tryd.prog 19) [(.I .i64 (18 : Int)), (.I .i64 sz), (.I .i64 cd)] [] K = F19_18 sz cd (fun u => K (.S u) []) := by kernel_rfl
theorem h19_18 (sz cd : Int) (k1 : List Int → Prop) (h : k1 (nameI 18 sz cd)) : F19_18 sz cd k1 := by
  have e : nameI 18 sz cd = nmR [([115, 104, 114, 98], 1, 0), ([115, 104, 114, 108], 4, 0), ([115, 104, 114, 113], 8, 0)] sz cd := rfl
  rw [e] at h
  clear e
  cases a1 : (sz == 1) <;> cases a4 : (sz == 4) <;> cases a8 : (sz == 8) <;> cases a0 : (sz == 0) <;> cases c0 : (cd == 0) <;> simp_all [-beq_eq_false_iff_ne, F19_18, nmR, bne]
def F19_19 (sz : Int) (cd : Int) (k1 : List Int → Prop) : Prop :=
  (bif (sz == 1) then (bif (!(cd == 0)) then (k1 ([] : List Int)) else (bif (sz == 1) then (k1 ([115, 97, 114, 98] : List Int)) else (bif (sz == 4) then (k1 ([115, 97, 114, 108] : List Int)) else (bif (sz == 8) then (k1 ([115, 97, 114, 113] : List Int)) else (k1 ([115, 97, 114] : List Int)))))) else (bif (sz == 4) then (bif (!(cd == 0)) then (k1 ([] : List Int)) else (bif (sz == 1) then (k1 ([115, 97, 114, 98] : List Int)) else (bif (sz == 4) then (k1 ([115, 97, 114, 108] : List Int)) else (bif (sz == 8) then (k1 ([115, 97, 114, 113] : List Int)) else (k1 ([115, 97, 114] : List Int)))))) else (bif (!(sz == 8)) then (k1 ([] : List Int)) else (bif (!(cd == 0)) then (k1 ([] : List Int)) else (bif (sz == 1) then (k1 ([115, 97, 114, 98] : List Int)) else (bif (sz == 4) then (k1 ([115, 97, 114, 108] : List Int)) else (bif (sz == 8) then (k1 ([115, 97, 114, 113] : List Int)) else (k1 ([115, 97, 114] : List Int)))))))))
theorem F19_19_ok (sz : Int) (cd : Int) (K : V → Mem → Prop) : cbody Tryd.prog C0 (fun _ => none) 1000 (fnOf Tryd.prog 19) [(.I .i64 (19 : Int)), (.I .i64 sz), (.I .i64 cd)] [] K = F19_19 sz cd (fun u => K (.S u) []) := by kernel_rfl
theorem h19_19 (sz cd : Int) (k1 : List Int → Prop) (h : k1 (nameI 19 sz cd)) : F19_19 sz cd k1 := by
  have e : nameI 19 sz cd = nmR [([115, 97, 114, 98], 1, 0), ([115, 97, 114, 108], 4, 0), ([115, 97, 114, 113], 8, 0)] sz cd := rfl
  rw [e] at h
  clear e
  cases a1 : (sz == 1) <;> cases a4 : (sz == 4) <;> cases a8 : (sz == 8) <;> cases a0 : (sz == 0) <;> cases c0 : (cd == 0) <;> simp_all [-beq_eq_false_iff_ne, F19_19, nmR, bne]
def F19_20 (sz : Int) (cd : Int) (k1 : List Int → Prop) : Prop :=
  (bif (!(sz == 8)) then (k1 ([] : List Int)) else (bif (!(cd == 0)) then (k1 ([] : List Int)) else (bif (sz == 1) then (k1 ([112, 117, 115, 104, 98] : List Int)) else (bif (sz == 4) then (k1 ([112, 117, 115, 104, 108] : List Int)) else (bif (sz == 8) then (k1 ([112, 117, 115, 104, 113] : List Int)) else (k1 ([112, 117, 115, 104] : List Int)))))))
theorem F19_20_ok (sz : Int) (cd : Int) (K : V → Mem → Prop) : cbody Tryd.prog C0 (fun _ => none) 1000 (fnOf Tryd.prog 19) [(.I .i64 (20 : Int)), (.I .i64 sz), (.I .i64 cd)] [] K = F19_20 sz cd (fun u => K (.S u) []) := by kernel_rfl
theorem h19_20 (sz cd : Int) (k1 : List Int → Prop) (h : k1 (nameI 20 sz cd)) : F19_20 sz cd k1 := by
  have e : nameI 20 sz cd = nmR [([112, 117, 115, 104, 113], 8, 0)] sz cd := rfl
  rw [e] at h
  clear e
  cases a1 : (sz == 1) <;> cases a4 : (sz == 4) <;> cases a8 : (sz == 8) <;> cases a0 : (sz == 0) <;> cases c0 : (cd == 0) <;> simp_all [-beq_eq_false_iff_ne, F19_20, nmR, bne]
def F19_21 (sz : Int) (cd : Int) (k1 : List Int → Prop) : Prop :=
  (bif (!(sz == 8)) then (k1 ([] : List Int)) else (bif (!(cd == 0)) then (k1 ([] : List Int)) else (bif (sz == 1) then (k1 ([112, 111, 112, 98] : List Int)) else (bif (sz == 4) then (k1 ([112, 111, 112, 108] : List Int)) else (bif (sz == 8) then (k1 ([112, 111, 112, 113] : List Int)) else (k1 ([112, 111, 112] : List Int)))))))
theorem F19_21_ok (sz : Int) (cd : Int) (K : V → Mem → Prop) : cbody Tryd.prog C0 (fun _ => none) 1000 (fnOf Tryd.prog 19) [(.I .i64 (21 : Int)), (.I .i64 sz), (.I .i64 cd)] [] K = F19_21 sz cd (fun u => K (.S u) []) := by kernel_rfl
theorem h19_21 (sz cd : Int) (k1 : List Int → Prop) (h : k1 (nameI 21 sz cd)) : F19_21 sz cd k1 := by
  have e : nameI 21 sz cd = nmR [([112, 111, 112, 113], 8, 0)] sz cd := rfl
  rw [e] at h
  clear e
  cases a1 : (sz == 1) <;> cases a4 : (sz == 4) <;> cases a8 : (sz == 8) <;> cases a0 : (sz == 0) <;> cases c0 : (cd == 0) <;> simp_all [-beq_eq_false_iff_ne, F19_21, nmR, bne]
def F19_22 (sz : Int) (cd : Int) (k1 : List Int → Prop) : Prop :=
  (bif (!(sz == 8)) then (k1 ([] : List Int)) else (bif (!(cd == 0)) then (k1 ([] : List Int)) else (k1 ([99, 97, 108, 108] : List Int))))
theorem F19_22_ok (sz : Int) (cd : Int) (K : V → Mem → Prop) : cbody Tryd.prog C0 (fun _ => none) 1000 (fnOf Tryd.prog 19) [(.I .i64 (22 : Int)), (.I .i64 sz), (.I .i64 cd)] [] K = F19_22 sz cd (fun u => K (.S u) []) := by kernel_rfl
theorem h19_22 (sz cd : Int) (k1 : List Int → Prop) (h : k1 (nameI 22 sz cd)) : F19_22 sz cd k1 := by
  have e : nameI 22 sz cd = nmR [([99, 97, 108, 108], 8, 0)] sz cd := rfl
  rw [e] at h
  clear e
  cases a1 : (sz == 1) <;> cases a4 : (sz == 4) <;> cases a8 : (sz == 8) <;> cases a0 : (sz == 0) <;> cases c0 : (cd == 0) <;> simp_all [-beq_eq_false_iff_ne, F19_22, nmR, bne]
def F19_23 (sz : Int) (cd : Int) (k1 : List Int → Prop) : Prop :=
  (bif (!(sz == 8)) then (k1 ([] : List Int)) else (bif (!(cd == 0)) then (k1 ([] : List Int)) else (k1 ([106, 109, 112] : List Int))))
theorem F19_23_ok (sz : Int) (cd : Int) (K : V → Mem → Prop) : cbody Tryd.prog C0 (fun _ => none) 1000 (fnOf Tryd.prog 19) [(.I .i64 (23 : Int)), (.I .i64 sz), (.I .i64 cd)] [] K = F19_23 sz cd (fun u => K (.S u) []) := by kernel_rfl
theorem h19_23 (sz cd : Int) (k1 : List Int → Prop) (h : k1 (nameI 23 sz cd)) : F19_23 sz cd k1 := by
  have e : nameI 23 sz cd = nmR [([106, 109, 112], 8, 0)] sz cd := rfl
  rw [e] at h
  clear e
  cases a1 : (sz == 1) <;> cases a4 : (sz == 4) <;> cases a8 : (sz == 8) <;> cases a0 : (sz == 0) <;> cases c0 : (cd == 0) <;> simp_all [-beq_eq_false_iff_ne, F19_23, nmR, bne]
def F19_24 (sz : Int) (cd : Int) (k1 : List Int → Prop) : Prop :=
  (bif (!(sz == 8)) then (k1 ([] : List Int)) else (bif (decide (cd ≥ 0)) then (bif (!(decide (cd < 16))) then (k1 ([] : List Int)) else (bif ((decide (0 ≤ cd)) && (decide (cd < 16))) then (bif (decide (((1 : Nat) + (List.length (List.getD condT (Int.toNat cd) ([] : List Int)))) ≤ (4611686018427387904 : Nat))) then (k1 (([106] : List Int) ++ (List.getD condT (Int.toNat cd) ([] : List Int)))) else False) else False)) else (k1 ([] : List Int))))
theorem F19_24_ok (sz : Int) (cd : Int) (K : V → Mem → Prop) : cbody Tryd.prog C0 (fun _ => none) 1000 (fnOf Tryd.prog 19) [(.I .i64 (24 : Int)), (.I .i64 sz), (.I .i64 cd)] [] K = F19_24 sz cd (fun u => K (.S u) []) := by kernel_rfl
theorem h19_24 (sz cd : Int) (k1 : List Int → Prop) (h : k1 (nameI 24 sz cd)) : F19_24 sz cd k1 := by
  rcases cd_cases cd with hc | hc | rfl | rfl | rfl | rfl | rfl | rfl | rfl | rfl | rfl | rfl | rfl | rfl | rfl | rfl | rfl | rfl
  · rw [nameI_out (by omega)] at h
    have n2 : decide (cd ≥ 0) = false := by simp; omega
    cases a1 : (sz == 1) <;> cases a4 : (sz == 4) <;> cases a8 : (sz == 8) <;> simp_all [-beq_eq_false_iff_ne, -ge_iff_le, bne, F19_24] <;> (intros; exfalso; omega)
  · rw [nameI_out (by omega)] at h
    have n4 : decide (cd < 16) = false := by simp; omega
    have n2 : decide (cd ≥ 0) = true := by simp; omega
    cases a1 : (sz == 1) <;> cases a4 : (sz == 4) <;> cases a8 : (sz == 8) <;> simp_all [-beq_eq_false_iff_ne, -ge_iff_le, bne, F19_24] <;> (intros; exfalso; omega)
  all_goals
    have e : ∀ c, nameI 24 sz c = nmR [([106, 111], 8, 0), ([106, 110, 111], 8, 1), ([106, 98], 8, 2), ([106, 97, 101], 8, 3), ([106, 101], 8, 4), ([106, 110, 101], 8, 5), ([106, 98, 101], 8, 6), ([106, 97], 8, 7), ([106, 115], 8, 8), ([106, 110, 115], 8, 9), ([106, 112], 8, 10), ([106, 110, 112], 8, 11), ([106, 108], 8, 12), ([106, 103, 101], 8, 13), ([106, 108, 101], 8, 14), ([106, 103], 8, 15)] sz c := fun _ => rfl
    rw [e] at h
    clear e
    cases a1 : (sz == 1) <;> cases a4 : (sz == 4) <;> cases a8 : (sz == 8) <;> simp_all [-beq_eq_false_iff_ne, bne, F19_24, nmR, condT]
def F19_25 (sz : Int) (cd : Int) (k1 : List Int → Prop) : Prop :=
  (bif (!(sz == 0)) then (k1 ([] : List Int)) else (bif (!(cd == 0)) then (k1 ([] : List Int)) else (bif (sz == 1) then (k1 ([114, 101, 116, 98] : List Int)) else (bif (sz == 4) then (k1 ([114, 101, 116, 108] : List Int)) else (bif (sz == 8) then (k1 ([114, 101, 116, 113] : List Int)) else (k1 ([114, 101, 116] : List Int)))))))
theorem F19_25_ok (sz : Int) (cd : Int) (K : V → Mem → Prop) : cbody Tryd.prog C0 (fun _ => none) 1000 (fnOf Tryd.prog 19) [(.I .i64 (25 : Int)), (.I .i64 sz), (.I .i64 cd)] [] K = F19_25 sz cd (fun u => K (.S u) []) := by kernel_rfl
theorem h19_25 (sz cd : Int) (k1 : List Int → Prop) (h : k1 (nameI 25 sz cd)) : F19_25 sz cd k1 := by
  have e : nameI 25 sz cd = nmR [([114, 101, 116], 0, 0)] sz cd := rfl
  rw [e] at h
  clear e
  cases a1 : (sz == 1) <;> cases a4 : (sz == 4) <;> cases a8 : (sz == 8) <;> cases a0 : (sz == 0) <;> cases c0 : (cd == 0) <;> simp_all [-beq_eq_false_iff_ne, F19_25, nmR, bne]
def F19_26 (sz : Int) (cd : Int) (k1 : List Int → Prop) : Prop :=
  (bif (!(sz == 0)) then (k1 ([] : List Int)) else (bif (!(cd == 0)) then (k1 ([] : List Int)) else (bif (sz == 1) then (k1 ([108, 101, 97, 118, 101, 98] : List Int)) else (bif (sz == 4) then (k1 ([108, 101, 97, 118, 101, 108] : List Int)) else (bif (sz == 8) then (k1 ([108, 101, 97, 118, 101, 113] : List Int)) else (k1 ([108, 101, 97, 118, 101] : List Int)))))))
theorem F19_26_ok (sz : Int) (cd : Int) (K : V → Mem → Prop) : cbody Tryd.prog C0 (fun _ => none) 1000 (fnOf Tryd.prog 19) [(.I .i64 (26 : Int)), (.I .i64 sz), (.I .i64 cd)] [] K = F19_26 sz cd (fun u => K (.S u) []) := by kernel_rfl
theorem h19_26 (sz cd : Int) (k1 : List Int → Prop) (h : k1 (nameI 26 sz cd)) : F19_26 sz cd k1 := by
  have e : nameI 26 sz cd = nmR [([108, 101, 97, 118, 101], 0, 0)] sz cd := rfl
  rw [e] at h
  clear e
  cases a1 : (sz == 1) <;> cases a4 : (sz == 4) <;> cases a8 : (sz == 8) <;> cases a0 : (sz == 0) <;> cases c0 : (cd == 0) <;> simp_all [-beq_eq_false_iff_ne, F19_26, nmR, bne]
def F19_27 (sz : Int) (cd : Int) (k1 : List Int → Prop) : Prop :=
  (bif (!(sz == 1)) then (k1 ([] : List Int)) else (bif (decide (cd ≥ 0)) then (bif (!(decide (cd < 16))) then (k1 ([] : List Int)) else (bif ((decide (0 ≤ cd)) && (decide (cd < 16))) then (bif (decide (((3 : Nat) + (List.length (List.getD condT (Int.toNat cd) ([] : List Int)))) ≤ (4611686018427387904 : Nat))) then (k1 (([115, 101, 116] : List Int) ++ (List.getD condT (Int.toNat cd) ([] : List Int)))) else False) else False)) else (k1 ([] : List Int))))
theorem F19_27_ok (sz : Int) (cd : Int) (K : V → Mem → Prop) : cbody Tryd.prog C0 (fun _ => none) 1000 (fnOf Tryd.prog 19) [(.I .i64 (27 : Int)), (.I .i64 sz), (.I .i64 cd)] [] K = F19_27 sz cd (fun u => K (.S u) []) := by kernel_rfl
theorem h19_27 (sz cd : Int) (k1 : List Int → Prop) (h : k1 (nameI 27 sz cd)) : F19_27 sz cd k1 := by
  rcases cd_cases cd with hc | hc | rfl | rfl | rfl | rfl | rfl | rfl | rfl | rfl | rfl | rfl | rfl | rfl | rfl | rfl | rfl | rfl
  · rw [nameI_out (by omega)] at h
    have n2 : decide (cd ≥ 0) = false := by simp; omega
    cases a1 : (sz == 1) <;> cases a4 : (sz == 4) <;> cases a8 : (sz == 8) <;> simp_all [-beq_eq_false_iff_ne, -ge_iff_le, bne, F19_27] <;> (intros; exfalso; omega)
  · rw [nameI_out (by omega)] at h
    have n4 : decide (cd < 16) = false := by simp; omega
    have n2 : decide (cd ≥ 0) = true := by simp; omega
    cases a1 : (sz == 1) <;> cases a4 : (sz == 4) <;> cases a8 : (sz == 8) <;> simp_all [-beq_eq_false_iff_ne, -ge_iff_le, bne, F19_27] <;> (intros; exfalso; omega)
  all_goals
    have e : ∀ c, nameI 27 sz c = nmR [([115, 101, 116, 111], 1, 0), ([115, 101, 116, 110, 111], 1, 1), ([115, 101, 116, 98], 1, 2), ([115, 101, 116, 97, 101], 1, 3), ([115, 101, 116, 101], 1, 4), ([115, 101, 116, 110, 101], 1, 5), ([115, 101, 116, 98, 101], 1, 6), ([115, 101, 116, 97], 1, 7), ([115, 101, 116, 115], 1, 8), ([115, 101, 116, 110, 115], 1, 9), ([115, 101, 116, 112], 1, 10), ([115, 101, 116, 110, 112], 1, 11), ([115, 101, 116, 108], 1, 12), ([115, 101, 116, 103, 101], 1, 13), ([115, 101, 116, 108, 101], 1, 14), ([115, 101, 116, 103], 1, 15)] sz c := fun _ => rfl
    rw [e] at h
    clear e
    cases a1 : (sz == 1) <;> cases a4 : (sz == 4) <;> cases a8 : (sz == 8) <;> simp_all [-beq_eq_false_iff_ne, bne, F19_27, nmR, condT]
def F19_28 (sz : Int) (cd : Int) (k1 : List Int → Prop) : Prop :=
  (bif (sz == 4) then (bif (decide (cd ≥ 0)) then (bif (!(decide (cd < 16))) then (k1 ([] : List Int)) else (bif ((decide (0 ≤ cd)) && (decide (cd < 16))) then (bif (decide (((4 : Nat) + (List.length (List.getD condT (Int.toNat cd) ([] : List Int)))) ≤ (4611686018427387904 : Nat))) then (bif (sz == 1) then (bif (decide (((List.length (([99, 109, 111, 118] : List Int) ++ (List.getD condT (Int.toNat cd) ([] : List Int)))) + (1 : Nat)) ≤ (4611686018427387904 : Nat))) then (k1 ((([99, 109, 111, 118] : List Int) ++ (List.getD condT (Int.toNat cd) ([] : List Int))) ++ ([98] : List Int))) else False) else (bif (sz == 4) then (bif (decide (((List.length (([99, 109, 111, 118] : List Int) ++ (List.getD condT (Int.toNat cd) ([] : List Int)))) + (1 : Nat)) ≤ (4611686018427387904 : Nat))) then (k1 ((([99, 109, 111, 118] : List Int) ++ (List.getD condT (Int.toNat cd) ([] : List Int))) ++ ([108] : List Int))) else False) else (bif (sz == 8) then (bif (decide (((List.length (([99, 109, 111, 118] : List Int) ++ (List.getD condT (Int.toNat cd) ([] : List Int)))) + (1 : Nat)) ≤ (4611686018427387904 : Nat))) then (k1 ((([99, 109, 111, 118] : List Int) ++ (List.getD condT (Int.toNat cd) ([] : List Int))) ++ ([113] : List Int))) else False) else (k1 (([99, 109, 111, 118] : List Int) ++ (List.getD condT (Int.toNat cd) ([] : List Int))))))) else False) else False)) else (k1 ([] : List Int))) else (bif (!(sz == 8)) then (k1 ([] : List Int)) else (bif (decide (cd ≥ 0)) then (bif (!(decide (cd < 16))) then (k1 ([] : List Int)) else (bif ((decide (0 ≤ cd)) && (decide (cd < 16))) then (bif (decide (((4 : Nat) + (List.length (List.getD condT (Int.toNat cd) ([] : List Int)))) ≤ (4611686018427387904 : Nat))) then (bif (sz == 1) then (bif (decide (((List.length (([99, 109, 111, 118] : List Int) ++ (List.getD condT (Int.toNat cd) ([] : List Int)))) + (1 : Nat)) ≤ (4611686018427387904 : Nat))) then (k1 ((([99, 109, 111, 118] : List Int) ++ (List.getD condT (Int.toNat cd) ([] : List Int))) ++ ([98] : List Int))) else False) else (bif (sz == 4) then (bif (decide (((List.length (([99, 109, 111, 118] : List Int) ++ (List.getD condT (Int.toNat cd) ([] : List Int)))) + (1 : Nat)) ≤ (4611686018427387904 : Nat))) then (k1 ((([99, 109, 111, 118] : List Int) ++ (List.getD condT (Int.toNat cd) ([] : List Int))) ++ ([108] : List Int))) else False) else (bif (sz == 8) then (bif (decide (((List.length (([99, 109, 111, 118] : List Int) ++ (List.getD condT (Int.toNat cd) ([] : List Int)))) + (1 : Nat)) ≤ (4611686018427387904 : Nat))) then (k1 ((([99, 109, 111, 118] : List Int) ++ (List.getD condT (Int.toNat cd) ([] : List Int))) ++ ([113] : List Int))) else False) else (k1 (([99, 109, 111, 118] : List Int) ++ (List.getD condT (Int.toNat cd) ([] : List Int))))))) else False) else False)) else (k1 ([] : List Int)))))
theorem F19_28_ok (sz : Int) (cd : Int) (K : V → Mem → Prop) : cbody Tryd.prog C0 (fun _ => none) 1000 (fnOf Tryd.prog 19) [(.I .i64 (28 : Int)), (.I .i64 sz), (.I .i64 cd)] [] K = F19_28 sz cd (fun u => K (.S u) []) := by kernel_rfl
theorem h19_28 (sz cd : Int) (k1 : List Int → Prop) (h : k1 (nameI 28 sz cd)) : F19_28 sz cd k1 := by
  rcases cd_cases cd with hc | hc | rfl | rfl | rfl | rfl | rfl | rfl | rfl | rfl | rfl | rfl | rfl | rfl | rfl | rfl | rfl | rfl
  · rw [nameI_out (by omega)] at h
    have n2 : decide (cd ≥ 0) = false := by simp; omega
    cases a1 : (sz == 1) <;> cases a4 : (sz == 4) <;> cases a8 : (sz == 8) <;> simp_all [-beq_eq_false_iff_ne, -ge_iff_le, bne, F19_28] <;> (intros; exfalso; omega)
  · rw [nameI_out (by omega)] at h
    have n4 : decide (cd < 16) = false := by simp; omega
    have n2 : decide (cd ≥ 0) = true := by simp; omega
    cases a1 : (sz == 1) <;> cases a4 : (sz == 4) <;> cases a8 : (sz == 8) <;> simp_all [-beq_eq_false_iff_ne, -ge_iff_le, bne, F19_28] <;> (intros; exfalso; omega)
  all_goals
    have e : ∀ c, nameI 28 sz c = nmR [([99, 109, 111, 118, 111, 108], 4, 0), ([99, 109, 111, 118, 110, 111, 108], 4, 1), ([99, 109, 111, 118, 98, 108], 4, 2), ([99, 109, 111, 118, 97, 101, 108], 4, 3), ([99, 109, 111, 118, 101, 108], 4, 4), ([99, 109, 111, 118, 110, 101, 108], 4, 5), ([99, 109, 111, 118, 98, 101, 108], 4, 6), ([99, 109, 111, 118, 97, 108], 4, 7), ([99, 109, 111, 118, 115, 108], 4, 8), ([99, 109, 111, 118, 110, 115, 108], 4, 9), ([99, 109, 111, 118, 112, 108], 4, 10), ([99, 109, 111, 118, 110, 112, 108], 4, 11), ([99, 109, 111, 118, 108, 108], 4, 12), ([99, 109, 111, 118, 103, 101, 108], 4, 13), ([99, 109, 111, 118, 108, 101, 108], 4, 14), ([99, 109, 111, 118, 103, 108], 4, 15), ([99, 109, 111, 118, 111, 113], 8, 0), ([99, 109, 111, 118, 110, 111, 113], 8, 1), ([99, 109, 111, 118, 98, 113], 8, 2), ([99, 109, 111, 118, 97, 101, 113], 8, 3), ([99, 109, 111, 118, 101, 113], 8, 4), ([99, 109, 111, 118, 110, 101, 113], 8, 5), ([99, 109, 111, 118, 98, 101, 113], 8, 6), ([99, 109, 111, 118, 97, 113], 8, 7), ([99, 109, 111, 118, 115, 113], 8, 8), ([99, 109, 111, 118, 110, 115, 113], 8, 9), ([99, 109, 111, 118, 112, 113], 8, 10), ([99, 109, 111, 118, 110, 112, 113], 8, 11), ([99, 109, 111, 118, 108, 113], 8, 12), ([99, 109, 111, 118, 103, 101, 113], 8, 13), ([99, 109, 111, 118, 108, 101, 113], 8, 14), ([99, 109, 111, 118, 103, 113], 8, 15)] sz c := fun _ => rfl
    rw [e] at h
    clear e
    cases a1 : (sz == 1) <;> cases a4 : (sz == 4) <;> cases a8 : (sz == 8) <;> simp_all [-beq_eq_false_iff_ne, bne, F19_28, nmR, condT]
def F19_29 (sz : Int) (cd : Int) (k1 : List Int → Prop) : Prop :=
  (bif (sz == 4) then (bif (!(cd == 0)) then (k1 ([] : List Int)) else (bif (sz == 1) then (k1 ([109, 111, 118, 122, 98, 98] : List Int)) else (bif (sz == 4) then (k1 ([109, 111, 118, 122, 98, 108] : List Int)) else (bif (sz == 8) then (k1 ([109, 111, 118, 122, 98, 113] : List Int)) else (k1 ([109, 111, 118, 122, 98] : List Int)))))) else (bif (!(sz == 8)) then (k1 ([] : List Int)) else (bif (!(cd == 0)) then (k1 ([] : List Int)) else (bif (sz == 1) then (k1 ([109, 111, 118, 122, 98, 98] : List Int)) else (bif (sz == 4) then (k1 ([109, 111, 118, 122, 98, 108] : List Int)) else (bif (sz == 8) then (k1 ([109, 111, 118, 122, 98, 113] : List Int)) else (k1 ([109, 111, 118, 122, 98] : List Int))))))))
theorem F19_29_ok (sz : Int) (cd : Int) (K : V → Mem → Prop) : cbody Tryd.prog C0 (fun _ => none) 1000 (fnOf Tryd.prog 19) [(.I .i64 (29 : Int)), (.I .i64 sz), (.I .i64 cd)] [] K = F19_29 sz cd (fun u => K (.S u) []) := by kernel_rfl
theorem h19_29 (sz cd : Int) (k1 : List Int → Prop) (h : k1 (nameI 29 sz cd)) : F19_29 sz cd k1 := by
  have e : nameI 29 sz cd = nmR [([109, 111, 118, 122, 98, 108], 4, 0), ([109, 111, 118, 122, 98, 113], 8, 0)] sz cd := rfl
  rw [e] at h
  clear e
  cases a1 : (sz == 1) <;> cases a4 : (sz == 4) <;> cases a8 : (sz == 8) <;> cases a0 : (sz == 0) <;> cases c0 : (cd == 0) <;> simp_all [-beq_eq_false_iff_ne, F19_29, nmR, bne]
def F19_30 (sz : Int) (cd : Int) (k1 : List Int → Prop) : Prop :=
  (bif (sz == 4) then (bif (!(cd == 0)) then (k1 ([] : List Int)) else (bif (sz == 1) then (k1 ([109, 111, 118, 115, 98, 98] : List Int)) else (bif (sz == 4) then (k1 ([109, 111, 118, 115, 98, 108] : List Int)) else (bif (sz == 8) then (k1 ([109, 111, 118, 115, 98, 113] : List Int)) else (k1 ([109, 111, 118, 115, 98] : List Int)))))) else (bif (!(sz == 8)) then (k1 ([] : List Int)) else (bif (!(cd == 0)) then (k1 ([] : List Int)) else (bif (sz == 1) then (k1 ([109, 111, 118, 115, 98, 98] : List Int)) else (bif (sz == 4) then (k1 ([109, 111, 118, 115, 98, 108] : List Int)) else (bif (sz == 8) then (k1 ([109, 111, 118, 115, 98, 113] : List Int)) else (k1 ([109, 111, 118, 115, 98] : List Int))))))))
theorem F19_30_ok (sz : Int) (cd : Int) (K : V → Mem → Prop) : cbody Tryd.prog C0 (fun _ => none) 1000 (fnOf Tryd.prog 19) [(.I .i64 (30 : Int)), (.I .i64 sz), (.I .i64 cd)] [] K = F19_30 sz cd (fun u => K (.S u) []) := by kernel_rfl
theorem h19_30 (sz cd : Int) (k1 : List Int → Prop) (h : k1 (nameI 30 sz cd)) : F19_30 sz cd k1 := by
  have e : nameI 30 sz cd = nmR [([109, 111, 118, 115, 98, 108], 4, 0), ([109, 111, 118, 115, 98, 113], 8, 0)] sz cd := rfl
  rw [e] at h
  clear e
  cases a1 : (sz == 1) <;> cases a4 : (sz == 4) <;> cases a8 : (sz == 8) <;> cases a0 : (sz == 0) <;> cases c0 : (cd == 0) <;> simp_all [-beq_eq_false_iff_ne, F19_30, nmR, bne]
def F19_31 (sz : Int) (cd : Int) (k1 : List Int → Prop) : Prop :=
  (bif (sz == 4) then (bif (!(cd == 0)) then (k1 ([] : List Int)) else (bif (sz == 1) then (k1 ([120, 99, 104, 103, 98] : List Int)) else (bif (sz == 4) then (k1 ([120, 99, 104, 103, 108] : List Int)) else (bif (sz == 8) then (k1 ([120, 99, 104, 103, 113] : List Int)) else (k1 ([120, 99, 104, 103] : List Int)))))) else (bif (!(sz == 8)) then (k1 ([] : List Int)) else (bif (!(cd == 0)) then (k1 ([] : List Int)) else (bif (sz == 1) then (k1 ([120, 99, 104, 103, 98] : List Int)) else (bif (sz == 4) then (k1 ([120, 99, 104, 103, 108] : List Int)) else (bif (sz == 8) then (k1 ([120, 99, 104, 103, 113] : List Int)) else (k1 ([120, 99, 104, 103] : List Int))))))))
theorem F19_31_ok (sz : Int) (cd : Int) (K : V → Mem → Prop) : cbody Tryd.prog C0 (fun _ => none) 1000 (fnOf Tryd.prog 19) [(.I .i64 (31 : Int)), (.I .i64 sz), (.I .i64 cd)] [] K = F19_31 sz cd (fun u => K (.S u) []) := by kernel_rfl
theorem h19_31 (sz cd : Int) (k1 : List Int → Prop) (h : k1 (nameI 31 sz cd)) : F19_31 sz cd k1 := by
  have e : nameI 31 sz cd = nmR [([120, 99, 104, 103, 108], 4, 0), ([120, 99, 104, 103, 113], 8, 0)] sz cd := rfl
  rw [e] at h
  clear e
  cases a1 : (sz == 1) <;> cases a4 : (sz == 4) <;> cases a8 : (sz == 8) <;> cases a0 : (sz == 0) <;> cases c0 : (cd == 0) <;> simp_all [-beq_eq_false_iff_ne, F19_31, nmR, bne]
def F19_32 (sz : Int) (cd : Int) (k1 : List Int → Prop) : Prop :=
  (bif (!(sz == 0)) then (k1 ([] : List Int)) else (bif (!(cd == 0)) then (k1 ([] : List Int)) else (bif (sz == 1) then (k1 ([99, 113, 116, 111, 98] : List Int)) else (bif (sz == 4) then (k1 ([99, 113, 116, 111, 108] : List Int)) else (bif (sz == 8) then (k1 ([99, 113, 116, 111, 113] : List Int)) else (k1 ([99, 113, 116, 111] : List Int)))))))
theorem F19_32_ok (sz : Int) (cd : Int) (K : V → Mem → Prop) : cbody Tryd.prog C0 (fun _ => none) 1000 (fnOf Tryd.prog 19) [(.I .i64 (32 : Int)), (.I .i64 sz), (.I .i64 cd)] [] K = F19_32 sz cd (fun u => K (.S u) []) := by kernel_rfl
theorem h19_32 (sz cd : Int) (k1 : List Int → Prop) (h : k1 (nameI 32 sz cd)) : F19_32 sz cd k1 := by
  have e : nameI 32 sz cd = nmR [([99, 113, 116, 111], 0, 0)] sz cd := rfl
  rw [e] at h
  clear e
  cases a1 : (sz == 1) <;> cases a4 : (sz == 4) <;> cases a8 : (sz == 8) <;> cases a0 : (sz == 0) <;> cases c0 : (cd == 0) <;> simp_all [-beq_eq_false_iff_ne, F19_32, nmR, bne]
def F19_33 (sz : Int) (cd : Int) (k1 : List Int → Prop) : Prop :=
  (bif (!(sz == 0)) then (k1 ([] : List Int)) else (bif (!(cd == 0)) then (k1 ([] : List Int)) else (bif (sz == 1) then (k1 ([110, 111, 112, 98] : List Int)) else (bif (sz == 4) then (k1 ([110, 111, 112, 108] : List Int)) else (bif (sz == 8) then (k1 ([110, 111, 112, 113] : List Int)) else (k1 ([110, 111, 112] : List Int)))))))
theorem F19_33_ok (sz : Int) (cd : Int) (K : V → Mem → Prop) : cbody Tryd.prog C0 (fun _ => none) 1000 (fnOf Tryd.prog 19) [(.I .i64 (33 : Int)), (.I .i64 sz), (.I .i64 cd)] [] K = F19_33 sz cd (fun u => K (.S u) []) := by kernel_rfl
theorem h19_33 (sz cd : Int) (k1 : List Int → Prop) (h : k1 (nameI 33 sz cd)) : F19_33 sz cd k1 := by
  have e : nameI 33 sz cd = nmR [([110, 111, 112], 0, 0)] sz cd := rfl
  rw [e] at h
  clear e
  cases a1 : (sz == 1) <;> cases a4 : (sz == 4) <;> cases a8 : (sz == 8) <;> cases a0 : (sz == 0) <;> cases c0 : (cd == 0) <;> simp_all [-beq_eq_false_iff_ne, F19_33, nmR, bne]
def F19_34 (sz : Int) (cd : Int) (k1 : List Int → Prop) : Prop :=
  (bif (!(sz == 0)) then (k1 ([] : List Int)) else (bif (!(cd == 0)) then (k1 ([] : List Int)) else (bif (sz == 1) then (k1 ([117, 100, 50, 98] : List Int)) else (bif (sz == 4) then (k1 ([117, 100, 50, 108] : List Int)) else (bif (sz == 8) then (k1 ([117, 100, 50, 113] : List Int)) else (k1 ([117, 100, 50] : List Int)))))))
theorem F19_34_ok (sz : Int) (cd : Int) (K : V → Mem → Prop) : cbody Tryd.prog C0 (fun _ => none) 1000 (fnOf Tryd.prog 19) [(.I .i64 (34 : Int)), (.I .i64 sz), (.I .i64 cd)] [] K = F19_34 sz cd (fun u => K (.S u) []) := by kernel_rfl
theorem h19_34 (sz cd : Int) (k1 : List Int → Prop) (h : k1 (nameI 34 sz cd)) : F19_34 sz cd k1 := by
  have e : nameI 34 sz cd = nmR [([117, 100, 50], 0, 0)] sz cd := rfl
  rw [e] at h
  clear e
  cases a1 : (sz == 1) <;> cases a4 : (sz == 4) <;> cases a8 : (sz == 8) <;> cases a0 : (sz == 0) <;> cases c0 : (cd == 0) <;> simp_all [-beq_eq_false_iff_ne, F19_34, nmR, bne]
def F19_35 (sz : Int) (cd : Int) (k1 : List Int → Prop) : Prop :=
  (bif (!(sz == 0)) then (k1 ([] : List Int)) else (bif (!(cd == 0)) then (k1 ([] : List Int)) else (bif (sz == 1) then (k1 ([115, 121, 115, 99, 97, 108, 108, 98] : List Int)) else (bif (sz == 4) then (k1 ([115, 121, 115, 99, 97, 108, 108, 108] : List Int)) else (bif (sz == 8) then (k1 ([115, 121, 115, 99, 97, 108, 108, 113] : List Int)) else (k1 ([115, 121, 115, 99, 97, 108, 108] : List Int)))))))
theorem F19_35_ok (sz : Int) (cd : Int) (K : V → Mem → Prop) : cbody Tryd.prog C0 (fun _ => none) 1000 (fnOf Tryd.prog 19) [(.I .i64 (35 : Int)), (.I .i64 sz), (.I .i64 cd)] [] K = F19_35 sz cd (fun u => K (.S u) []) := by kernel_rfl
theorem h19_35 (sz cd : Int) (k1 : List Int → Prop) (h : k1 (nameI 35 sz cd)) : F19_35 sz cd k1 := by
  have e : nameI 35 sz cd = nmR [([115, 121, 115, 99, 97, 108, 108], 0, 0)] sz cd := rfl
  rw [e] at h
  clear e
  cases a1 : (sz == 1) <;> cases a4 : (sz == 4) <;> cases a8 : (sz == 8) <;> cases a0 : (sz == 0) <;> cases c0 : (cd == 0) <;> simp_all [-beq_eq_false_iff_ne, F19_35, nmR, bne]
theorem H19 (op : Int) (sz : Int) (cd : Int) {E : Wh} {w' : World} {cargs : Array Value} {K : V → Mem → Prop} (hS : Sim E [] w') (ha : VsRel E [.I .i64 op, .I .i64 sz, .I .i64 cd] cargs.toList) (h : K (.S (nameI op sz cd)) []) :
    ((∃ fn, Tryd.prog.funcs[19]? = some fn ∧ fn.body.isSome = true) ∧ Calls Tryd.prog 19 cargs w' (Ret K E [] w')) ∨ ∃ cv w1, (callFunc 19 cargs).run Tryd.prog w' = .ok (.value cv) w1 ∧ Ret K E [] w' (.returned cv) w1 := by
  by_cases h1 : op < -1
  · obtain ⟨q, rfl⟩ : ∃ q : Nat, op = Int.negSucc (q + 1) := ⟨(-op - 2).toNat, by omega⟩
    exact cbody_use named C0_ok at19 (l := 0) rfl (LoopsOk.none _ _) (F19_n_ok q sz cd K) hS ha (by rw [nameI_out (by omega)] at h; exact h)
  by_cases h2 : op > 35
  · obtain ⟨q, rfl⟩ : ∃ q : Nat, op = Int.ofNat (q + 36) := ⟨(op - 36).toNat, by simp only [Int.ofNat_eq_natCast]; omega⟩
    exact cbody_use named C0_ok at19 (l := 0) rfl (LoopsOk.none _ _) (F19_b_ok q sz cd K) hS ha (by rw [nameI_out (by simp only [Int.ofNat_eq_natCast]; omega)] at h; exact h)
  have ho : op = -1 ∨ op = 0 ∨ op = 1 ∨ op = 2 ∨ op = 3 ∨ op = 4 ∨ op = 5 ∨ op = 6 ∨ op = 7 ∨ op = 8 ∨ op = 9 ∨ op = 10 ∨ op = 11 ∨ op = 12 ∨ op = 13 ∨ op = 14 ∨ op = 15 ∨ op = 16 ∨ op = 17 ∨ op = 18 ∨ op = 19 ∨ op = 20 ∨ op = 21 ∨ op = 22 ∨ op = 23 ∨ op = 24 ∨ op = 25 ∨ op = 26 ∨ op = 27 ∨ op = 28 ∨ op = 29 ∨ op = 30 ∨ op = 31 ∨ op = 32 ∨ op = 33 ∨ op = 34 ∨ op = 35 := by omega
  rcases ho with rfl | rfl | rfl | rfl | rfl | rfl | rfl | rfl | rfl | rfl | rfl | rfl | rfl | rfl | rfl | rfl | rfl | rfl | rfl | rfl | rfl | rfl | rfl | rfl | rfl | rfl | rfl | rfl | rfl | rfl | rfl | rfl | rfl | rfl | rfl | rfl | rfl
  · exact cbody_use named C0_ok at19 (l := 0) rfl (LoopsOk.none _ _) (F19_m_ok sz cd K) hS ha (by rw [nameI_out (by omega)] at h; exact h)
  · exact cbody_use named C0_ok at19 (l := 0) rfl (LoopsOk.none _ _) (F19_0_ok sz cd K) hS ha (by rw [nameI_out (by omega)] at h; exact h)
  · exact cbody_use named C0_ok at19 (l := 0) rfl (LoopsOk.none _ _) (F19_1_ok sz cd K) hS ha (h19_1 sz cd (fun u => K (.S u) []) h)
  · exact cbody_use named C0_ok at19 (l := 0) rfl (LoopsOk.none _ _) (F19_2_ok sz cd K) hS ha (h19_2 sz cd (fun u => K (.S u) []) h)
  · exact cbody_use named C0_ok at19 (l := 0) rfl (LoopsOk.none _ _) (F19_3_ok sz cd K) hS ha (h19_3 sz cd (fun u => K (.S u) []) h)
  · exact cbody_use named C0_ok at19 (l := 0) rfl (LoopsOk.none _ _) (F19_4_ok sz cd K) hS ha (h19_4 sz cd (fun u => K (.S u) []) h)
  · exact cbody_use named C0_ok at19 (l := 0) rfl (LoopsOk.none _ _) (F19_5_ok sz cd K) hS ha (h19_5 sz cd (fun u => K (.S u) []) h)
  · exact cbody_use named C0_ok at19 (l := 0) rfl (LoopsOk.none _ _) (F19_6_ok sz cd K) hS ha (h19_6 sz cd (fun u => K (.S u) []) h)
  · exact cbody_use named C0_ok at19 (l := 0) rfl (LoopsOk.none _ _) (F19_7_ok sz cd K) hS ha (h19_7 sz cd (fun u => K (.S u) []) h)
  · exact cbody_use named C0_ok at19 (l := 0) rfl (LoopsOk.none _ _) (F19_8_ok sz cd K) hS ha (h19_8 sz cd (fun u => K (.S u) []) h)
  · exact cbody_use named C0_ok at19 (l := 0) rfl (LoopsOk.none _ _) (F19_9_ok sz cd K) hS ha (h19_9 sz cd (fun u => K (.S u) []) h)
  · exact cbody_use named C0_ok at19 (l := 0) rfl (LoopsOk.none _ _) (F19_10_ok sz cd K) hS ha (h19_10 sz cd (fun u => K (.S u) []) h)
  · exact cbody_use named C0_ok at19 (l := 0) rfl (LoopsOk.none _ _) (F19_11_ok sz cd K) hS ha (h19_11 sz cd (fun u => K (.S u) []) h)
  · exact cbody_use named C0_ok at19 (l := 0) rfl (LoopsOk.none _ _) (F19_12_ok sz cd K) hS ha (h19_12 sz cd (fun u => K (.S u) []) h)
  · exact cbody_use named C0_ok at19 (l := 0) rfl (LoopsOk.none _ _) (F19_13_ok sz cd K) hS ha (h19_13 sz cd (fun u => K (.S u) []) h)
  · exact cbody_use named C0_ok at19 (l := 0) rfl (LoopsOk.none _ _) (F19_14_ok sz cd K) hS ha (h19_14 sz cd (fun u => K (.S u) []) h)
  · exact cbody_use named C0_ok at19 (l := 0) rfl (LoopsOk.none _ _) (F19_15_ok sz cd K) hS ha (h19_15 sz cd (fun u => K (.S u) []) h)
  · exact cbody_use named C0_ok at19 (l := 0) rfl (LoopsOk.none _ _) (F19_16_ok sz cd K) hS ha (h19_16 sz cd (fun u => K (.S u) []) h)
  · exact cbody_use named C0_ok at19 (l := 0) rfl (LoopsOk.none _ _) (F19_17_ok sz cd K) hS ha (h19_17 sz cd (fun u => K (.S u) []) h)
  · exact cbody_use named C0_ok at19 (l := 0) rfl (LoopsOk.none _ _) (F19_18_ok sz cd K) hS ha (h19_18 sz cd (fun u => K (.S u) []) h)
  · exact cbody_use named C0_ok at19 (l := 0) rfl (LoopsOk.none _ _) (F19_19_ok sz cd K) hS ha (h19_19 sz cd (fun u => K (.S u) []) h)
  · exact cbody_use named C0_ok at19 (l := 0) rfl (LoopsOk.none _ _) (F19_20_ok sz cd K) hS ha (h19_20 sz cd (fun u => K (.S u) []) h)
  · exact cbody_use named C0_ok at19 (l := 0) rfl (LoopsOk.none _ _) (F19_21_ok sz cd K) hS ha (h19_21 sz cd (fun u => K (.S u) []) h)
  · exact cbody_use named C0_ok at19 (l := 0) rfl (LoopsOk.none _ _) (F19_22_ok sz cd K) hS ha (h19_22 sz cd (fun u => K (.S u) []) h)
  · exact cbody_use named C0_ok at19 (l := 0) rfl (LoopsOk.none _ _) (F19_23_ok sz cd K) hS ha (h19_23 sz cd (fun u => K (.S u) []) h)
  · exact cbody_use named C0_ok at19 (l := 0) rfl (LoopsOk.none _ _) (F19_24_ok sz cd K) hS ha (h19_24 sz cd (fun u => K (.S u) []) h)
  · exact cbody_use named C0_ok at19 (l := 0) rfl (LoopsOk.none _ _) (F19_25_ok sz cd K) hS ha (h19_25 sz cd (fun u => K (.S u) []) h)
  · exact cbody_use named C0_ok at19 (l := 0) rfl (LoopsOk.none _ _) (F19_26_ok sz cd K) hS ha (h19_26 sz cd (fun u => K (.S u) []) h)
  · exact cbody_use named C0_ok at19 (l := 0) rfl (LoopsOk.none _ _) (F19_27_ok sz cd K) hS ha (h19_27 sz cd (fun u => K (.S u) []) h)
  · exact cbody_use named C0_ok at19 (l := 0) rfl (LoopsOk.none _ _) (F19_28_ok sz cd K) hS ha (h19_28 sz cd (fun u => K (.S u) []) h)
  · exact cbody_use named C0_ok at19 (l := 0) rfl (LoopsOk.none _ _) (F19_29_ok sz cd K) hS ha (h19_29 sz cd (fun u => K (.S u) []) h)
  · exact cbody_use named C0_ok at19 (l := 0) rfl (LoopsOk.none _ _) (F19_30_ok sz cd K) hS ha (h19_30 sz cd (fun u => K (.S u) []) h)
  · exact cbody_use named C0_ok at19 (l := 0) rfl (LoopsOk.none _ _) (F19_31_ok sz cd K) hS ha (h19_31 sz cd (fun u => K (.S u) []) h)
  · exact cbody_use named C0_ok at19 (l := 0) rfl (LoopsOk.none _ _) (F19_32_ok sz cd K) hS ha (h19_32 sz cd (fun u => K (.S u) []) h)
  · exact cbody_use named C0_ok at19 (l := 0) rfl (LoopsOk.none _ _) (F19_33_ok sz cd K) hS ha (h19_33 sz cd (fun u => K (.S u) []) h)
  · exact cbody_use named C0_ok at19 (l := 0) rfl (LoopsOk.none _ _) (F19_34_ok sz cd K) hS ha (h19_34 sz cd (fun u => K (.S u) []) h)
  · exact cbody_use named C0_ok at19 (l := 0) rfl (LoopsOk.none _ _) (F19_35_ok sz cd K) hS ha (h19_35 sz cd (fun u => K (.S u) []) h)

def P19 : Prim := fun args m K =>
  let F := False
  (seeCons args F fun a1 q2 => (seeI .i64 a1 F fun op => (seeCons q2 F fun a3 q4 => (seeI .i64 a3 F fun sz => (seeCons q4 F fun a5 q6 => (seeI .i64 a5 F fun cd => (seeNil q6 F (seeNil m F (K (.S (nameI op sz cd)) [])))))))))
theorem P19_ok : PrimOk Tryd.prog 19 P19 := by
  intro args m K E w cargs hS ha h
  unfold P19 at h
  dsimp only at h
  replace h := seeCons_use h
  rcases h with h | ⟨a1, q2, rfl, h⟩
  · exact h.elim
  replace h := seeI_use h
  rcases h with h | ⟨op, rfl, h⟩
  · exact h.elim
  replace h := seeCons_use h
  rcases h with h | ⟨a3, q4, rfl, h⟩
  · exact h.elim
  replace h := seeI_use h
  rcases h with h | ⟨sz, rfl, h⟩
  · exact h.elim
  replace h := seeCons_use h
  rcases h with h | ⟨a5, q6, rfl, h⟩
  · exact h.elim
  replace h := seeI_use h
  rcases h with h | ⟨cd, rfl, h⟩
  · exact h.elim
  replace h := seeNil_use h
  rcases h with h | ⟨rfl, h⟩
  · exact h.elim
  replace h := seeNil_use h
  rcases h with h | ⟨rfl, h⟩
  · exact h.elim
  exact H19 op sz cd hS ha h
end Go.Proofs.YtaajhdkngiemlaaDoor.frm
