import Derived.Test.YtgdmellcbgalaaaGreatDoorTb0
import Derived.Test.YtgdmellcbgalaaaGreatDoorTbS
set_option linter.unusedVariables false
set_option linter.unusedSimpArgs false
set_option maxHeartbeats 4000000
set_option maxRecDepth 100000
namespace Go.Proofs.YtgdmellcbgalaaaGreatDoor.tlb
open Go Go.Ab
def prims_2  : Prims := fun f => prims1 f
theorem prims_2_ok : PrimsOk Tryz.prog (prims_2 ) := by
  intro f g hg
  unfold prims_2 at hg
  exact prims1_ok f g hg
def C_2  : CC := callD Tryz.prog (prims_2 ) 1000
theorem C_2_ok : CallsOk Tryz.prog (C_2 ) := callD_sound named prims_2_ok 1000
def F_2  (o : Int) (K : V → Mem → Prop) : Prop :=
  (bif (decide (o ≥ (-2147483648 : Int))) then (bif (!(decide (o < (2147483648 : Int)))) then (K (.B false) []) else (bif (decide (o < (-2147483648 : Int))) then (K (.B true) []) else (bif (decide (o ≥ (4294967296 : Int))) then (K (.B true) []) else (K (.B true) [])))) else (K (.B false) []))
theorem run_2  (o : Int) (j17 j18 j19 j20 j21 j22 j23 j24 j25 j26 j27 j28 j29 : V) (K : V → Mem → Prop) : cexec Tryz.prog (C_2 ) (fun _ => none) 0 1000 LawX (setsE [(0, (.I .i64 (2 : Int))), (1, (.I .i64 (0 : Int))), (2, (.I .i64 o)), (6, (.B false)), (17, j17), (18, j18), (19, j19), (20, j20), (21, j21), (22, j22), (23, j23), (24, j24), (25, j25), (26, j26), (27, j27), (28, j28), (29, j29)] (Tr.full (.tup []) 193 193)) [] (kbody Tryz.prog 0 (fnOf Tryz.prog 3) K) = F_2  o K := by kernel_rfl
theorem t2 {o : Int} {K : V → Mem → Prop} (h1 : -2147483648 ≤ o) (h2 : o < 2147483648) (h : K (.B true) []) : F_2 o K := by
  have e1 : decide (o ≥ -2147483648) = true := decide_eq_true h1
  have e2 : decide (o < 2147483648) = true := decide_eq_true h2
  have e3 : decide (o < -2147483648) = false := decide_eq_false (by omega)
  have e4 : decide (o ≥ 4294967296) = false := decide_eq_false (by omega)
  unfold F_2
  simp only [e1, e2, e3, e4, Bool.not_true, cond_true, cond_false]
  exact h
end Go.Proofs.YtgdmellcbgalaaaGreatDoor.tlb
