/-
  'gangwaylaw07.MachinePushed' returns true for every input, and leaves what it was handed as it was. No condition.
-/
import Derived.Test.YtalikdlmmhblkaaGreatMr0
import Derived.Test.YtalikdlmmhblkaaGreatMr1
import Derived.Test.YtalikdlmmhblkaaGreatMr2
import Derived.Test.YtalikdlmmhblkaaGreatMr3
import Derived.Test.YtalikdlmmhblkaaGreatMr5
import Derived.Test.YtalikdlmmhblkaaGreatMr6
import Derived.Test.YtalikdlmmhblkaaGreatMr7
import Derived.Test.YtalikdlmmhblkaaGreatMr8
import Derived.Test.YtalikdlmmhblkaaGreatMr9
import Derived.Test.YtalikdlmmhblkaaGreatMr10
import Derived.Test.YtalikdlmmhblkaaGreatMr11
import Derived.Test.YtalikdlmmhblkaaGreatMr12
import Derived.Test.YtalikdlmmhblkaaGreatMr13
import Derived.Test.YtalikdlmmhblkaaGreatMr14
import Derived.Test.YtalikdlmmhblkaaGreatMr15
import Derived.Test.YtalikdlmmhblkaaGreatRows
import Derived.WalkKit
import Derived.ProofKit
import Derived.OpenShut
import Derived.ChangeMaps5
import Derived.JoinedCond
import Derived.Test.YtalikdlmmhblkaaGreatAbLaw
namespace Go.Proofs.YtalikdlmmhblkaaGreat.machinePushed
open Go.ChangeMaps Go.ChangeShapes Go.WideShapes Go.ChangeAt Go.RowKit Go.Ab
set_option linter.unusedVariables false
theorem own : ownKnob Tryz.prog.godebug = none := by kernel_rfl
theorem kids : Kids Tryz.prog (· < Tryz.prog.types.size) := kids_rows (by kernel_rfl) (by kernel_rfl)
theorem full : ∀ t e, t < Tryz.prog.types.size → Tryz.prog.underlying t = some (.slice e) → 0 < Tryz.prog.cellsOf e := slices_full_of _ (by kernel_rfl)
/-- What the law asks of its outcome. -/
def K0 : V → Mem → Prop := fun v _ => v = .B true
theorem k0 : K0 (.B true) [] = True := eq_true rfl
theorem conv_true [ps : Pins] {a b : Bool} {A B : Prop} {ρ0 : Env} {F : Env → Prop} (h : bif a then A else bif b then B else ∃ ρ', Conv ρ0 ρ' ∧ (F ρ' = True)) : bif a then A else bif b then B else ∃ ρ', Conv ρ0 ρ' ∧ F ρ' := by
  cases a
  · cases b
    · obtain ⟨ρ', h1, h2⟩ := h; exact ⟨ρ', h1, of_eq_true h2⟩
    · exact h
  · exact h
set_option maxHeartbeats 4000000 in
theorem walkX [ps : Pins] (w : World) (hp : ∀ j, Pins.pin j → False) (a0 : Int) (w0 : inR .u64 a0 = true) (a1 : Int) (w1 : inR .u64 a1 = true) (z2_0 : Int) (wz2_0 : inR .u64 z2_0 = true) (z2_1 : Int) (wz2_1 : inR .u64 z2_1 = true) (z2_2 : Int) (wz2_2 : inR .u64 z2_2 = true) (z2_3 : Int) (wz2_3 : inR .u64 z2_3 = true) (z2_4 : Int) (wz2_4 : inR .u64 z2_4 = true) (z2_5 : Int) (wz2_5 : inR .u64 z2_5 = true) (z2_6 : Int) (wz2_6 : inR .u64 z2_6 = true) (z2_7 : Int) (wz2_7 : inR .u64 z2_7 = true) (z2_8 : Int) (wz2_8 : inR .u64 z2_8 = true) (z2_9 : Int) (wz2_9 : inR .u64 z2_9 = true) (z2_10 : Int) (wz2_10 : inR .u64 z2_10 = true) (z2_11 : Int) (wz2_11 : inR .u64 z2_11 = true) (z2_12 : Int) (wz2_12 : inR .u64 z2_12 = true) (z2_13 : Int) (wz2_13 : inR .u64 z2_13 = true) (z2_14 : Int) (wz2_14 : inR .u64 z2_14 = true) (z2_15 : Int) (wz2_15 : inR .u64 z2_15 = true) (z2_16 : Int) (wz2_16 : inR .u64 z2_16 = true) (z2_17 : Int) (wz2_17 : inR .u64 z2_17 = true) (z2_18 : Bool) (z2_19 : Bool) (z2_20 : Bool) (z2_21 : Bool) (z2_22 : Bool) (a3 : Int) (w3 : inR .i64 a3 = true) (hX : (bif (mp.tP a0 == mp.tP a1) then K0 (.B true) [] else bif (mp.tR a3 == 4) then K0 (.B true) [] else ∃ ρ', Conv (mp.frS a0 a1 a3 z2_0 z2_1 z2_2 z2_3 z2_4 z2_5 z2_6 z2_7 z2_8 z2_9 z2_10 z2_11 z2_12 z2_13 z2_14 z2_15 z2_16 z2_17 z2_18 z2_19 z2_20 z2_21 z2_22) ρ' ∧ cexec Tryz.prog mp.C1 noY (fun _ => none) 0 1000 (sub [true, true, true, true, true] (bodyOf Tryz.prog 3)) ρ' (mp.memS z2_0 z2_1 z2_2 z2_3 z2_4 z2_5 z2_6 z2_7 z2_8 z2_9 z2_10 z2_11 z2_12 z2_13 z2_14 z2_15 z2_16 z2_17 z2_18 z2_19 z2_20 z2_21 z2_22) (kbody Tryz.prog 0 (fnOf Tryz.prog 3) K0) = True)) :
    Calls Tryz.prog 3 #[.int .u64 a0, .int .u64 a1, .agg #[.int .u64 z2_0, .int .u64 z2_1, .int .u64 z2_2, .int .u64 z2_3, .int .u64 z2_4, .int .u64 z2_5, .int .u64 z2_6, .int .u64 z2_7, .int .u64 z2_8, .int .u64 z2_9, .int .u64 z2_10, .int .u64 z2_11, .int .u64 z2_12, .int .u64 z2_13, .int .u64 z2_14, .int .u64 z2_15, .int .u64 z2_16, .int .u64 z2_17, .bool z2_18, .bool z2_19, .bool z2_20, .bool z2_21, .bool z2_22], .int .i64 a3] w (Held w) := by
  have ha : VsRel (fun k => ([] : List BE)[k]?) [.I .u64 a0, .I .u64 a1, .agg [.I .u64 z2_0, .I .u64 z2_1, .I .u64 z2_2, .I .u64 z2_3, .I .u64 z2_4, .I .u64 z2_5, .I .u64 z2_6, .I .u64 z2_7, .I .u64 z2_8, .I .u64 z2_9, .I .u64 z2_10, .I .u64 z2_11, .I .u64 z2_12, .I .u64 z2_13, .I .u64 z2_14, .I .u64 z2_15, .I .u64 z2_16, .I .u64 z2_17, .B z2_18, .B z2_19, .B z2_20, .B z2_21, .B z2_22], .I .i64 a3] (#[.int .u64 a0, .int .u64 a1, .agg #[.int .u64 z2_0, .int .u64 z2_1, .int .u64 z2_2, .int .u64 z2_3, .int .u64 z2_4, .int .u64 z2_5, .int .u64 z2_6, .int .u64 z2_7, .int .u64 z2_8, .int .u64 z2_9, .int .u64 z2_10, .int .u64 z2_11, .int .u64 z2_12, .int .u64 z2_13, .int .u64 z2_14, .int .u64 z2_15, .int .u64 z2_16, .int .u64 z2_17, .bool z2_18, .bool z2_19, .bool z2_20, .bool z2_21, .bool z2_22], .int .i64 a3] : Array Value).toList := by
    simp only [VsRel, VRel]
    exact ⟨_, _, rfl, ⟨rfl, w0⟩, _, _, rfl, ⟨rfl, w1⟩, _, _, rfl, ⟨_, rfl, ⟨_, _, rfl, ⟨rfl, wz2_0⟩, _, _, rfl, ⟨rfl, wz2_1⟩, _, _, rfl, ⟨rfl, wz2_2⟩, _, _, rfl, ⟨rfl, wz2_3⟩, _, _, rfl, ⟨rfl, wz2_4⟩, _, _, rfl, ⟨rfl, wz2_5⟩, _, _, rfl, ⟨rfl, wz2_6⟩, _, _, rfl, ⟨rfl, wz2_7⟩, _, _, rfl, ⟨rfl, wz2_8⟩, _, _, rfl, ⟨rfl, wz2_9⟩, _, _, rfl, ⟨rfl, wz2_10⟩, _, _, rfl, ⟨rfl, wz2_11⟩, _, _, rfl, ⟨rfl, wz2_12⟩, _, _, rfl, ⟨rfl, wz2_13⟩, _, _, rfl, ⟨rfl, wz2_14⟩, _, _, rfl, ⟨rfl, wz2_15⟩, _, _, rfl, ⟨rfl, wz2_16⟩, _, _, rfl, ⟨rfl, wz2_17⟩, _, _, rfl, rfl, _, _, rfl, rfl, _, _, rfl, rfl, _, _, rfl, rfl, _, _, rfl, rfl, rfl⟩, by simp [Value.oneCell']⟩, _, _, rfl, ⟨rfl, w3⟩, rfl⟩
  exact (calls_of mp.named (by kernel_rfl) (cbodyC_use mp.named mp.C1_ok mp.at3 (c := bodyOf Tryz.prog 3) (by kernel_rfl) (n := 1000) (d := 5) (l := 0) (N := 133) rfl (by kernel_rfl) (LoopsOk.none _ _) (K := K0) (sim_ro [] (by intro k e he; simp at he) (fun j hj => (hp j hj).elim)) ha
    (mp.pre a0 a1 a3 z2_0 z2_1 z2_2 z2_3 z2_4 z2_5 z2_6 z2_7 z2_8 z2_9 z2_10 z2_11 z2_12 z2_13 z2_14 z2_15 z2_16 z2_17 z2_18 z2_19 z2_20 z2_21 z2_22 K0 (fun c ρ m K => ∃ ρ', Conv ρ ρ' ∧ cexec Tryz.prog mp.C1 noY (fun _ => none) 0 1000 c ρ' m K)) (conv_true hX))).mono fun e w' h => h.held (by simp)
/-- Two pages' numbers, the less one first. -/
abbrev pinsOf (a b : Int) (h : a < b) : Pins := ⟨fun _ => False, fun _ _ => False, fun i => match i with | 0 => a | i + 1 => b + i, by
  intro i j hij
  cases i with
  | zero => cases j with
    | zero => omega
    | succ j => simp only; omega
  | succ i => cases j with
    | zero => omega
    | succ j => simp only; omega⟩
theorem cases15 {P : Int → Prop} {ri : Int} (h : ri = 0 ∨ ri = 1 ∨ ri = 2 ∨ ri = 3 ∨ ri = 5 ∨ ri = 6 ∨ ri = 7 ∨ ri = 8 ∨ ri = 9 ∨ ri = 10 ∨ ri = 11 ∨ ri = 12 ∨ ri = 13 ∨ ri = 14 ∨ ri = 15) (h0 : P 0) (h1 : P 1) (h2 : P 2) (h3 : P 3) (h5 : P 5) (h6 : P 6) (h7 : P 7) (h8 : P 8) (h9 : P 9) (h10 : P 10) (h11 : P 11) (h12 : P 12) (h13 : P 13) (h14 : P 14) (h15 : P 15) : P ri := by
  rcases h with rfl | rfl | rfl | rfl | rfl | rfl | rfl | rfl | rfl | rfl | rfl | rfl | rfl | rfl | rfl <;> first | exact h0 | exact h1 | exact h2 | exact h3 | exact h5 | exact h6 | exact h7 | exact h8 | exact h9 | exact h10 | exact h11 | exact h12 | exact h13 | exact h14 | exact h15
theorem k00 : K0 (.B true) [] := rfl
theorem pick1 {a : Bool} {A B : Prop} (ha : a = true) (h : A) : (bif a then A else B) := by subst ha; exact h
theorem pick2 {a b : Bool} {A B C : Prop} (ha : a = false) (hb : b = true) (h : B) : (bif a then A else bif b then B else C) := by subst ha; subst hb; exact h
theorem pick3 {a b : Bool} {A B C : Prop} (ha : a = false) (hb : b = false) (h : C) : (bif a then A else bif b then B else C) := by subst ha; subst hb; exact h
set_option maxRecDepth 100000 in
theorem restLow (p q : Int) (z2_0 : Int) (wz2_0 : inR .u64 z2_0 = true) (z2_1 : Int) (wz2_1 : inR .u64 z2_1 = true) (z2_2 : Int) (wz2_2 : inR .u64 z2_2 = true) (z2_3 : Int) (wz2_3 : inR .u64 z2_3 = true) (z2_4 : Int) (wz2_4 : inR .u64 z2_4 = true) (z2_5 : Int) (wz2_5 : inR .u64 z2_5 = true) (z2_6 : Int) (wz2_6 : inR .u64 z2_6 = true) (z2_7 : Int) (wz2_7 : inR .u64 z2_7 = true) (z2_8 : Int) (wz2_8 : inR .u64 z2_8 = true) (z2_9 : Int) (wz2_9 : inR .u64 z2_9 = true) (z2_10 : Int) (wz2_10 : inR .u64 z2_10 = true) (z2_11 : Int) (wz2_11 : inR .u64 z2_11 = true) (z2_12 : Int) (wz2_12 : inR .u64 z2_12 = true) (z2_13 : Int) (wz2_13 : inR .u64 z2_13 = true) (z2_14 : Int) (wz2_14 : inR .u64 z2_14 = true) (z2_15 : Int) (wz2_15 : inR .u64 z2_15 = true) (z2_16 : Int) (wz2_16 : inR .u64 z2_16 = true) (z2_17 : Int) (wz2_17 : inR .u64 z2_17 = true) (z2_18 z2_19 z2_20 z2_21 z2_22 : Bool) (ri : Int) (h : ri = 0 ∨ ri = 1 ∨ ri = 2 ∨ ri = 3 ∨ ri = 5 ∨ ri = 6 ∨ ri = 7 ∨ ri = 8 ∨ ri = 9 ∨ ri = 10 ∨ ri = 11 ∨ ri = 12 ∨ ri = 13 ∨ ri = 14 ∨ ri = 15) : cexec Tryz.prog mp.C1 noY (fun _ => none) 0 1000 (sub [true, true, true, true, true] (bodyOf Tryz.prog 3)) (mp.frP 0 1 p q ri) (mp.memS z2_0 z2_1 z2_2 z2_3 z2_4 z2_5 z2_6 z2_7 z2_8 z2_9 z2_10 z2_11 z2_12 z2_13 z2_14 z2_15 z2_16 z2_17 z2_18 z2_19 z2_20 z2_21 z2_22) (kbody Tryz.prog 0 (fnOf Tryz.prog 3) K0) = True :=
  cases15 (P := fun ri => cexec Tryz.prog mp.C1 noY (fun _ => none) 0 1000 (sub [true, true, true, true, true] (bodyOf Tryz.prog 3)) (mp.frP 0 1 p q ri) (mp.memS z2_0 z2_1 z2_2 z2_3 z2_4 z2_5 z2_6 z2_7 z2_8 z2_9 z2_10 z2_11 z2_12 z2_13 z2_14 z2_15 z2_16 z2_17 z2_18 z2_19 z2_20 z2_21 z2_22) (kbody Tryz.prog 0 (fnOf Tryz.prog 3) K0) = True) h
    (((mp.run0_0 p q z2_0 z2_1 z2_2 z2_3 z2_4 z2_5 z2_6 z2_7 z2_8 z2_9 z2_10 z2_11 z2_12 z2_13 z2_14 z2_15 z2_16 z2_17 z2_18 z2_19 z2_20 z2_21 z2_22 K0 wz2_0).trans k0))
    (((mp.run1_0 p q z2_0 z2_1 z2_2 z2_3 z2_4 z2_5 z2_6 z2_7 z2_8 z2_9 z2_10 z2_11 z2_12 z2_13 z2_14 z2_15 z2_16 z2_17 z2_18 z2_19 z2_20 z2_21 z2_22 K0 wz2_1).trans k0))
    (((mp.run2_0 p q z2_0 z2_1 z2_2 z2_3 z2_4 z2_5 z2_6 z2_7 z2_8 z2_9 z2_10 z2_11 z2_12 z2_13 z2_14 z2_15 z2_16 z2_17 z2_18 z2_19 z2_20 z2_21 z2_22 K0 wz2_2).trans k0))
    (((mp.run3_0 p q z2_0 z2_1 z2_2 z2_3 z2_4 z2_5 z2_6 z2_7 z2_8 z2_9 z2_10 z2_11 z2_12 z2_13 z2_14 z2_15 z2_16 z2_17 z2_18 z2_19 z2_20 z2_21 z2_22 K0 wz2_3).trans k0))
    (((mp.run5_0 p q z2_0 z2_1 z2_2 z2_3 z2_4 z2_5 z2_6 z2_7 z2_8 z2_9 z2_10 z2_11 z2_12 z2_13 z2_14 z2_15 z2_16 z2_17 z2_18 z2_19 z2_20 z2_21 z2_22 K0 wz2_5).trans k0))
    (((mp.run6_0 p q z2_0 z2_1 z2_2 z2_3 z2_4 z2_5 z2_6 z2_7 z2_8 z2_9 z2_10 z2_11 z2_12 z2_13 z2_14 z2_15 z2_16 z2_17 z2_18 z2_19 z2_20 z2_21 z2_22 K0 wz2_6).trans k0))
    (((mp.run7_0 p q z2_0 z2_1 z2_2 z2_3 z2_4 z2_5 z2_6 z2_7 z2_8 z2_9 z2_10 z2_11 z2_12 z2_13 z2_14 z2_15 z2_16 z2_17 z2_18 z2_19 z2_20 z2_21 z2_22 K0 wz2_7).trans k0))
    (((mp.run8_0 p q z2_0 z2_1 z2_2 z2_3 z2_4 z2_5 z2_6 z2_7 z2_8 z2_9 z2_10 z2_11 z2_12 z2_13 z2_14 z2_15 z2_16 z2_17 z2_18 z2_19 z2_20 z2_21 z2_22 K0 wz2_8).trans k0))
    (((mp.run9_0 p q z2_0 z2_1 z2_2 z2_3 z2_4 z2_5 z2_6 z2_7 z2_8 z2_9 z2_10 z2_11 z2_12 z2_13 z2_14 z2_15 z2_16 z2_17 z2_18 z2_19 z2_20 z2_21 z2_22 K0 wz2_9).trans k0))
    (((mp.run10_0 p q z2_0 z2_1 z2_2 z2_3 z2_4 z2_5 z2_6 z2_7 z2_8 z2_9 z2_10 z2_11 z2_12 z2_13 z2_14 z2_15 z2_16 z2_17 z2_18 z2_19 z2_20 z2_21 z2_22 K0 wz2_10).trans k0))
    (((mp.run11_0 p q z2_0 z2_1 z2_2 z2_3 z2_4 z2_5 z2_6 z2_7 z2_8 z2_9 z2_10 z2_11 z2_12 z2_13 z2_14 z2_15 z2_16 z2_17 z2_18 z2_19 z2_20 z2_21 z2_22 K0 wz2_11).trans k0))
    (((mp.run12_0 p q z2_0 z2_1 z2_2 z2_3 z2_4 z2_5 z2_6 z2_7 z2_8 z2_9 z2_10 z2_11 z2_12 z2_13 z2_14 z2_15 z2_16 z2_17 z2_18 z2_19 z2_20 z2_21 z2_22 K0 wz2_12).trans k0))
    (((mp.run13_0 p q z2_0 z2_1 z2_2 z2_3 z2_4 z2_5 z2_6 z2_7 z2_8 z2_9 z2_10 z2_11 z2_12 z2_13 z2_14 z2_15 z2_16 z2_17 z2_18 z2_19 z2_20 z2_21 z2_22 K0 wz2_13).trans k0))
    (((mp.run14_0 p q z2_0 z2_1 z2_2 z2_3 z2_4 z2_5 z2_6 z2_7 z2_8 z2_9 z2_10 z2_11 z2_12 z2_13 z2_14 z2_15 z2_16 z2_17 z2_18 z2_19 z2_20 z2_21 z2_22 K0 wz2_14).trans k0))
    (((mp.run15_0 p q z2_0 z2_1 z2_2 z2_3 z2_4 z2_5 z2_6 z2_7 z2_8 z2_9 z2_10 z2_11 z2_12 z2_13 z2_14 z2_15 z2_16 z2_17 z2_18 z2_19 z2_20 z2_21 z2_22 K0 wz2_15).trans k0))
set_option maxRecDepth 100000 in
theorem restHigh (p q : Int) (z2_0 : Int) (wz2_0 : inR .u64 z2_0 = true) (z2_1 : Int) (wz2_1 : inR .u64 z2_1 = true) (z2_2 : Int) (wz2_2 : inR .u64 z2_2 = true) (z2_3 : Int) (wz2_3 : inR .u64 z2_3 = true) (z2_4 : Int) (wz2_4 : inR .u64 z2_4 = true) (z2_5 : Int) (wz2_5 : inR .u64 z2_5 = true) (z2_6 : Int) (wz2_6 : inR .u64 z2_6 = true) (z2_7 : Int) (wz2_7 : inR .u64 z2_7 = true) (z2_8 : Int) (wz2_8 : inR .u64 z2_8 = true) (z2_9 : Int) (wz2_9 : inR .u64 z2_9 = true) (z2_10 : Int) (wz2_10 : inR .u64 z2_10 = true) (z2_11 : Int) (wz2_11 : inR .u64 z2_11 = true) (z2_12 : Int) (wz2_12 : inR .u64 z2_12 = true) (z2_13 : Int) (wz2_13 : inR .u64 z2_13 = true) (z2_14 : Int) (wz2_14 : inR .u64 z2_14 = true) (z2_15 : Int) (wz2_15 : inR .u64 z2_15 = true) (z2_16 : Int) (wz2_16 : inR .u64 z2_16 = true) (z2_17 : Int) (wz2_17 : inR .u64 z2_17 = true) (z2_18 z2_19 z2_20 z2_21 z2_22 : Bool) (ri : Int) (h : ri = 0 ∨ ri = 1 ∨ ri = 2 ∨ ri = 3 ∨ ri = 5 ∨ ri = 6 ∨ ri = 7 ∨ ri = 8 ∨ ri = 9 ∨ ri = 10 ∨ ri = 11 ∨ ri = 12 ∨ ri = 13 ∨ ri = 14 ∨ ri = 15) (q0 : 0 ≤ q) (hlt : q < p) (p1 : p < 17179869184) : cexec Tryz.prog mp.C1 noY (fun _ => none) 0 1000 (sub [true, true, true, true, true] (bodyOf Tryz.prog 3)) (mp.frP 1 0 p q ri) (mp.memS z2_0 z2_1 z2_2 z2_3 z2_4 z2_5 z2_6 z2_7 z2_8 z2_9 z2_10 z2_11 z2_12 z2_13 z2_14 z2_15 z2_16 z2_17 z2_18 z2_19 z2_20 z2_21 z2_22) (kbody Tryz.prog 0 (fnOf Tryz.prog 3) K0) = True :=
  cases15 (P := fun ri => cexec Tryz.prog mp.C1 noY (fun _ => none) 0 1000 (sub [true, true, true, true, true] (bodyOf Tryz.prog 3)) (mp.frP 1 0 p q ri) (mp.memS z2_0 z2_1 z2_2 z2_3 z2_4 z2_5 z2_6 z2_7 z2_8 z2_9 z2_10 z2_11 z2_12 z2_13 z2_14 z2_15 z2_16 z2_17 z2_18 z2_19 z2_20 z2_21 z2_22) (kbody Tryz.prog 0 (fnOf Tryz.prog 3) K0) = True) h
    (((mp.run0_1 p q z2_0 z2_1 z2_2 z2_3 z2_4 z2_5 z2_6 z2_7 z2_8 z2_9 z2_10 z2_11 z2_12 z2_13 z2_14 z2_15 z2_16 z2_17 z2_18 z2_19 z2_20 z2_21 z2_22 K0 wz2_0 q0 hlt p1).trans k0))
    (((mp.run1_1 p q z2_0 z2_1 z2_2 z2_3 z2_4 z2_5 z2_6 z2_7 z2_8 z2_9 z2_10 z2_11 z2_12 z2_13 z2_14 z2_15 z2_16 z2_17 z2_18 z2_19 z2_20 z2_21 z2_22 K0 wz2_1 q0 hlt p1).trans k0))
    (((mp.run2_1 p q z2_0 z2_1 z2_2 z2_3 z2_4 z2_5 z2_6 z2_7 z2_8 z2_9 z2_10 z2_11 z2_12 z2_13 z2_14 z2_15 z2_16 z2_17 z2_18 z2_19 z2_20 z2_21 z2_22 K0 wz2_2 q0 hlt p1).trans k0))
    (((mp.run3_1 p q z2_0 z2_1 z2_2 z2_3 z2_4 z2_5 z2_6 z2_7 z2_8 z2_9 z2_10 z2_11 z2_12 z2_13 z2_14 z2_15 z2_16 z2_17 z2_18 z2_19 z2_20 z2_21 z2_22 K0 wz2_3 q0 hlt p1).trans k0))
    (((mp.run5_1 p q z2_0 z2_1 z2_2 z2_3 z2_4 z2_5 z2_6 z2_7 z2_8 z2_9 z2_10 z2_11 z2_12 z2_13 z2_14 z2_15 z2_16 z2_17 z2_18 z2_19 z2_20 z2_21 z2_22 K0 wz2_5 q0 hlt p1).trans k0))
    (((mp.run6_1 p q z2_0 z2_1 z2_2 z2_3 z2_4 z2_5 z2_6 z2_7 z2_8 z2_9 z2_10 z2_11 z2_12 z2_13 z2_14 z2_15 z2_16 z2_17 z2_18 z2_19 z2_20 z2_21 z2_22 K0 wz2_6 q0 hlt p1).trans k0))
    (((mp.run7_1 p q z2_0 z2_1 z2_2 z2_3 z2_4 z2_5 z2_6 z2_7 z2_8 z2_9 z2_10 z2_11 z2_12 z2_13 z2_14 z2_15 z2_16 z2_17 z2_18 z2_19 z2_20 z2_21 z2_22 K0 wz2_7 q0 hlt p1).trans k0))
    (((mp.run8_1 p q z2_0 z2_1 z2_2 z2_3 z2_4 z2_5 z2_6 z2_7 z2_8 z2_9 z2_10 z2_11 z2_12 z2_13 z2_14 z2_15 z2_16 z2_17 z2_18 z2_19 z2_20 z2_21 z2_22 K0 wz2_8 q0 hlt p1).trans k0))
    (((mp.run9_1 p q z2_0 z2_1 z2_2 z2_3 z2_4 z2_5 z2_6 z2_7 z2_8 z2_9 z2_10 z2_11 z2_12 z2_13 z2_14 z2_15 z2_16 z2_17 z2_18 z2_19 z2_20 z2_21 z2_22 K0 wz2_9 q0 hlt p1).trans k0))
    (((mp.run10_1 p q z2_0 z2_1 z2_2 z2_3 z2_4 z2_5 z2_6 z2_7 z2_8 z2_9 z2_10 z2_11 z2_12 z2_13 z2_14 z2_15 z2_16 z2_17 z2_18 z2_19 z2_20 z2_21 z2_22 K0 wz2_10 q0 hlt p1).trans k0))
    (((mp.run11_1 p q z2_0 z2_1 z2_2 z2_3 z2_4 z2_5 z2_6 z2_7 z2_8 z2_9 z2_10 z2_11 z2_12 z2_13 z2_14 z2_15 z2_16 z2_17 z2_18 z2_19 z2_20 z2_21 z2_22 K0 wz2_11 q0 hlt p1).trans k0))
    (((mp.run12_1 p q z2_0 z2_1 z2_2 z2_3 z2_4 z2_5 z2_6 z2_7 z2_8 z2_9 z2_10 z2_11 z2_12 z2_13 z2_14 z2_15 z2_16 z2_17 z2_18 z2_19 z2_20 z2_21 z2_22 K0 wz2_12 q0 hlt p1).trans k0))
    (((mp.run13_1 p q z2_0 z2_1 z2_2 z2_3 z2_4 z2_5 z2_6 z2_7 z2_8 z2_9 z2_10 z2_11 z2_12 z2_13 z2_14 z2_15 z2_16 z2_17 z2_18 z2_19 z2_20 z2_21 z2_22 K0 wz2_13 q0 hlt p1).trans k0))
    (((mp.run14_1 p q z2_0 z2_1 z2_2 z2_3 z2_4 z2_5 z2_6 z2_7 z2_8 z2_9 z2_10 z2_11 z2_12 z2_13 z2_14 z2_15 z2_16 z2_17 z2_18 z2_19 z2_20 z2_21 z2_22 K0 wz2_14 q0 hlt p1).trans k0))
    (((mp.run15_1 p q z2_0 z2_1 z2_2 z2_3 z2_4 z2_5 z2_6 z2_7 z2_8 z2_9 z2_10 z2_11 z2_12 z2_13 z2_14 z2_15 z2_16 z2_17 z2_18 z2_19 z2_20 z2_21 z2_22 K0 wz2_15 q0 hlt p1).trans k0))
set_option maxHeartbeats 4000000 in
set_option maxRecDepth 100000 in
theorem walk (w : World) (a0 : Int) (w0 : inR .u64 a0 = true) (a1 : Int) (w1 : inR .u64 a1 = true) (z2_0 : Int) (wz2_0 : inR .u64 z2_0 = true) (z2_1 : Int) (wz2_1 : inR .u64 z2_1 = true) (z2_2 : Int) (wz2_2 : inR .u64 z2_2 = true) (z2_3 : Int) (wz2_3 : inR .u64 z2_3 = true) (z2_4 : Int) (wz2_4 : inR .u64 z2_4 = true) (z2_5 : Int) (wz2_5 : inR .u64 z2_5 = true) (z2_6 : Int) (wz2_6 : inR .u64 z2_6 = true) (z2_7 : Int) (wz2_7 : inR .u64 z2_7 = true) (z2_8 : Int) (wz2_8 : inR .u64 z2_8 = true) (z2_9 : Int) (wz2_9 : inR .u64 z2_9 = true) (z2_10 : Int) (wz2_10 : inR .u64 z2_10 = true) (z2_11 : Int) (wz2_11 : inR .u64 z2_11 = true) (z2_12 : Int) (wz2_12 : inR .u64 z2_12 = true) (z2_13 : Int) (wz2_13 : inR .u64 z2_13 = true) (z2_14 : Int) (wz2_14 : inR .u64 z2_14 = true) (z2_15 : Int) (wz2_15 : inR .u64 z2_15 = true) (z2_16 : Int) (wz2_16 : inR .u64 z2_16 = true) (z2_17 : Int) (wz2_17 : inR .u64 z2_17 = true) (z2_18 : Bool) (z2_19 : Bool) (z2_20 : Bool) (z2_21 : Bool) (z2_22 : Bool) (a3 : Int) (w3 : inR .i64 a3 = true) :
    Calls Tryz.prog 3 #[.int .u64 a0, .int .u64 a1, .agg #[.int .u64 z2_0, .int .u64 z2_1, .int .u64 z2_2, .int .u64 z2_3, .int .u64 z2_4, .int .u64 z2_5, .int .u64 z2_6, .int .u64 z2_7, .int .u64 z2_8, .int .u64 z2_9, .int .u64 z2_10, .int .u64 z2_11, .int .u64 z2_12, .int .u64 z2_13, .int .u64 z2_14, .int .u64 z2_15, .int .u64 z2_16, .int .u64 z2_17, .bool z2_18, .bool z2_19, .bool z2_20, .bool z2_21, .bool z2_22], .int .i64 a3] w (Held w) := by
  obtain ⟨p, hp, p0, p1⟩ := mp.tP_page w0
  obtain ⟨q, hq, q0, q1⟩ := mp.tP_page w1
  obtain ⟨r, hr, hrr⟩ := mp.tR_cases a3
  by_cases he : mp.tP a0 = mp.tP a1
  · exact walkX (ps := noPins) w (fun _ h => h) a0 w0 a1 w1 z2_0 wz2_0 z2_1 wz2_1 z2_2 wz2_2 z2_3 wz2_3 z2_4 wz2_4 z2_5 wz2_5 z2_6 wz2_6 z2_7 wz2_7 z2_8 wz2_8 z2_9 wz2_9 z2_10 wz2_10 z2_11 wz2_11 z2_12 wz2_12 z2_13 wz2_13 z2_14 wz2_14 z2_15 wz2_15 z2_16 wz2_16 z2_17 wz2_17 z2_18 z2_19 z2_20 z2_21 z2_22 a3 w3 (pick1 (beq_iff_eq.2 he) k00)
  have he' : (mp.tP a0 == mp.tP a1) = false := beq_eq_false_iff_ne.2 he
  by_cases h4 : r = 4
  · exact walkX (ps := noPins) w (fun _ h => h) a0 w0 a1 w1 z2_0 wz2_0 z2_1 wz2_1 z2_2 wz2_2 z2_3 wz2_3 z2_4 wz2_4 z2_5 wz2_5 z2_6 wz2_6 z2_7 wz2_7 z2_8 wz2_8 z2_9 wz2_9 z2_10 wz2_10 z2_11 wz2_11 z2_12 wz2_12 z2_13 wz2_13 z2_14 wz2_14 z2_15 wz2_15 z2_16 wz2_16 z2_17 wz2_17 z2_18 z2_19 z2_20 z2_21 z2_22 a3 w3 (pick2 he' (beq_iff_eq.2 (by rw [hrr, h4]; rfl)) k00)
  have h4' : (mp.tR a3 == 4) = false := beq_eq_false_iff_ne.2 (by rw [hrr]; omega)
  have hor : ∀ ri : Int, ri = (r : Int) → (ri = 0 ∨ ri = 1 ∨ ri = 2 ∨ ri = 3 ∨ ri = 5 ∨ ri = 6 ∨ ri = 7 ∨ ri = 8 ∨ ri = 9 ∨ ri = 10 ∨ ri = 11 ∨ ri = 12 ∨ ri = 13 ∨ ri = 14 ∨ ri = 15) := fun ri h => by omega
  have hpq : p ≠ q := fun h => he (by rw [hp, hq, h])
  rcases Int.lt_or_gt_of_ne hpq with hlt | hlt
  · exact walkX (ps := pinsOf p q hlt) w (fun _ h => h) a0 w0 a1 w1 z2_0 wz2_0 z2_1 wz2_1 z2_2 wz2_2 z2_3 wz2_3 z2_4 wz2_4 z2_5 wz2_5 z2_6 wz2_6 z2_7 wz2_7 z2_8 wz2_8 z2_9 wz2_9 z2_10 wz2_10 z2_11 wz2_11 z2_12 wz2_12 z2_13 wz2_13 z2_14 wz2_14 z2_15 wz2_15 z2_16 wz2_16 z2_17 wz2_17 z2_18 z2_19 z2_20 z2_21 z2_22 a3 w3 (pick3 he' h4' (Exists.intro (mp.frP 0 1 p q (r : Int)) (And.intro
      (@mp.conv (pinsOf p q hlt) a0 a1 a3 z2_0 z2_1 z2_2 z2_3 z2_4 z2_5 z2_6 z2_7 z2_8 z2_9 z2_10 z2_11 z2_12 z2_13 z2_14 z2_15 z2_16 z2_17 z2_18 z2_19 z2_20 z2_21 z2_22 0 1 p q r hp hq hrr rfl (show q = q + ((0 : Nat) : Int) by omega) p0 p1 q0 q1) (restLow p q z2_0 wz2_0 z2_1 wz2_1 z2_2 wz2_2 z2_3 wz2_3 z2_4 wz2_4 z2_5 wz2_5 z2_6 wz2_6 z2_7 wz2_7 z2_8 wz2_8 z2_9 wz2_9 z2_10 wz2_10 z2_11 wz2_11 z2_12 wz2_12 z2_13 wz2_13 z2_14 wz2_14 z2_15 wz2_15 z2_16 wz2_16 z2_17 wz2_17 z2_18 z2_19 z2_20 z2_21 z2_22 r (hor _ rfl)))))
  · exact walkX (ps := pinsOf q p hlt) w (fun _ h => h) a0 w0 a1 w1 z2_0 wz2_0 z2_1 wz2_1 z2_2 wz2_2 z2_3 wz2_3 z2_4 wz2_4 z2_5 wz2_5 z2_6 wz2_6 z2_7 wz2_7 z2_8 wz2_8 z2_9 wz2_9 z2_10 wz2_10 z2_11 wz2_11 z2_12 wz2_12 z2_13 wz2_13 z2_14 wz2_14 z2_15 wz2_15 z2_16 wz2_16 z2_17 wz2_17 z2_18 z2_19 z2_20 z2_21 z2_22 a3 w3 (pick3 he' h4' (Exists.intro (mp.frP 1 0 p q (r : Int)) (And.intro
      (@mp.conv (pinsOf q p hlt) a0 a1 a3 z2_0 z2_1 z2_2 z2_3 z2_4 z2_5 z2_6 z2_7 z2_8 z2_9 z2_10 z2_11 z2_12 z2_13 z2_14 z2_15 z2_16 z2_17 z2_18 z2_19 z2_20 z2_21 z2_22 1 0 p q r hp hq hrr (show p = p + ((0 : Nat) : Int) by omega) rfl p0 p1 q0 q1) (restHigh p q z2_0 wz2_0 z2_1 wz2_1 z2_2 wz2_2 z2_3 wz2_3 z2_4 wz2_4 z2_5 wz2_5 z2_6 wz2_6 z2_7 wz2_7 z2_8 wz2_8 z2_9 wz2_9 z2_10 wz2_10 z2_11 wz2_11 z2_12 wz2_12 z2_13 wz2_13 z2_14 wz2_14 z2_15 wz2_15 z2_16 wz2_16 z2_17 wz2_17 z2_18 z2_19 z2_20 z2_21 z2_22 r (hor _ rfl) q0 hlt p1))))
set_option maxRecDepth 100000 in
set_option maxHeartbeats 4000000 in
theorem contract (H : Type) (enc : TypeId × Value → H) (W : World) (base : Nat) (args : Array Value) (ds gs : List (DataW H)) (before : List MemPlace)
    (hval0 : ∀ (j : Nat) t v, Tryz.f3.params[j]? = some t → args[j]? = some v → Value.okWide Tryz.prog W .any base t v)
    (hW : DataW.Whole enc Tryz.prog Tryz.f3.params.toList Rows.machinePushedSpec.vars false W args.toList ds gs before) :
    Calls Tryz.prog 3 args W fun e W' => ∃ v, e = .returned v ∧ Rows.machinePushedSpec.post enc Tryz.prog Tryz.f3 false true false false W args v W' := by
  have hval : ∀ (j : Nat) t v, Tryz.f3.params[j]? = some t → args[j]? = some v → Value.okWide Tryz.prog W .any base t v := hval0
  have hW' := hW
  obtain ⟨p, q, hA0, hV, rfl, hfz, hnd⟩ := hW
  have hA : DataW.TrodAll enc Tryz.prog W 0 (fun _ => true) true Tryz.f3.params.toList args.toList ds p := hA0
  have hlt : ∀ x ∈ p, x.block < W.heap.size := hA0.lt
  rw [Tryz.params3] at hA hval
  obtain ⟨v0, vs0, d0, ds0, p0, q0, hargs, rfl, rfl, h0, r0⟩ := trodAll_cons hA
  obtain ⟨v1, vs1, d1, ds1, p1, q1, rfl, rfl, rfl, h1, r1⟩ := trodAll_cons r0
  obtain ⟨v2, vs2, d2, ds2, p2, q2, rfl, rfl, rfl, h2, r2⟩ := trodAll_cons r1
  obtain ⟨v3, vs3, d3, ds3, p3, q3, rfl, rfl, rfl, h3, r3⟩ := trodAll_cons r2
  obtain ⟨rfl, rfl, rfl⟩ := trodAll_nil r3
  obtain rfl : args = #[v0, v1, v2, v3] := by cases args; simp_all
  obtain ⟨rfl, rfl⟩ := trodVars_none hV
  obtain ⟨a0, rfl, rfl, rfl, w0⟩ := open_int Tryz.underlying22 (hval 0 22 v0 rfl rfl) h0
  obtain ⟨a1, rfl, rfl, rfl, w1⟩ := open_int Tryz.underlying22 (hval 1 22 v1 rfl rfl) h1
  obtain ⟨cs2, rfl, hl2, hc2⟩ := open_cells Tryz.underlying27 (ts := [22, 22, 22, 22, 22, 22, 22, 22, 22, 22, 22, 22, 22, 22, 22, 22, 22, 22, 4, 4, 4, 4, 4]) (by kernel_rfl) (by kernel_rfl) (hval 2 27 v2 rfl rfl)
  obtain ⟨c2_0, c2_1, c2_2, c2_3, c2_4, c2_5, c2_6, c2_7, c2_8, c2_9, c2_10, c2_11, c2_12, c2_13, c2_14, c2_15, c2_16, c2_17, c2_18, c2_19, c2_20, c2_21, c2_22, rfl⟩ : ∃ c2_0 c2_1 c2_2 c2_3 c2_4 c2_5 c2_6 c2_7 c2_8 c2_9 c2_10 c2_11 c2_12 c2_13 c2_14 c2_15 c2_16 c2_17 c2_18 c2_19 c2_20 c2_21 c2_22, cs2 = [c2_0, c2_1, c2_2, c2_3, c2_4, c2_5, c2_6, c2_7, c2_8, c2_9, c2_10, c2_11, c2_12, c2_13, c2_14, c2_15, c2_16, c2_17, c2_18, c2_19, c2_20, c2_21, c2_22] := by
    match cs2, hl2 with
    | [c2_0, c2_1, c2_2, c2_3, c2_4, c2_5, c2_6, c2_7, c2_8, c2_9, c2_10, c2_11, c2_12, c2_13, c2_14, c2_15, c2_16, c2_17, c2_18, c2_19, c2_20, c2_21, c2_22], _ => exact ⟨c2_0, c2_1, c2_2, c2_3, c2_4, c2_5, c2_6, c2_7, c2_8, c2_9, c2_10, c2_11, c2_12, c2_13, c2_14, c2_15, c2_16, c2_17, c2_18, c2_19, c2_20, c2_21, c2_22, rfl⟩
  obtain ⟨z2_0, rfl, wz2_0⟩ := cell_int Tryz.underlying22 (hc2 0 22 c2_0 rfl rfl)
  obtain ⟨z2_1, rfl, wz2_1⟩ := cell_int Tryz.underlying22 (hc2 1 22 c2_1 rfl rfl)
  obtain ⟨z2_2, rfl, wz2_2⟩ := cell_int Tryz.underlying22 (hc2 2 22 c2_2 rfl rfl)
  obtain ⟨z2_3, rfl, wz2_3⟩ := cell_int Tryz.underlying22 (hc2 3 22 c2_3 rfl rfl)
  obtain ⟨z2_4, rfl, wz2_4⟩ := cell_int Tryz.underlying22 (hc2 4 22 c2_4 rfl rfl)
  obtain ⟨z2_5, rfl, wz2_5⟩ := cell_int Tryz.underlying22 (hc2 5 22 c2_5 rfl rfl)
  obtain ⟨z2_6, rfl, wz2_6⟩ := cell_int Tryz.underlying22 (hc2 6 22 c2_6 rfl rfl)
  obtain ⟨z2_7, rfl, wz2_7⟩ := cell_int Tryz.underlying22 (hc2 7 22 c2_7 rfl rfl)
  obtain ⟨z2_8, rfl, wz2_8⟩ := cell_int Tryz.underlying22 (hc2 8 22 c2_8 rfl rfl)
  obtain ⟨z2_9, rfl, wz2_9⟩ := cell_int Tryz.underlying22 (hc2 9 22 c2_9 rfl rfl)
  obtain ⟨z2_10, rfl, wz2_10⟩ := cell_int Tryz.underlying22 (hc2 10 22 c2_10 rfl rfl)
  obtain ⟨z2_11, rfl, wz2_11⟩ := cell_int Tryz.underlying22 (hc2 11 22 c2_11 rfl rfl)
  obtain ⟨z2_12, rfl, wz2_12⟩ := cell_int Tryz.underlying22 (hc2 12 22 c2_12 rfl rfl)
  obtain ⟨z2_13, rfl, wz2_13⟩ := cell_int Tryz.underlying22 (hc2 13 22 c2_13 rfl rfl)
  obtain ⟨z2_14, rfl, wz2_14⟩ := cell_int Tryz.underlying22 (hc2 14 22 c2_14 rfl rfl)
  obtain ⟨z2_15, rfl, wz2_15⟩ := cell_int Tryz.underlying22 (hc2 15 22 c2_15 rfl rfl)
  obtain ⟨z2_16, rfl, wz2_16⟩ := cell_int Tryz.underlying22 (hc2 16 22 c2_16 rfl rfl)
  obtain ⟨z2_17, rfl, wz2_17⟩ := cell_int Tryz.underlying22 (hc2 17 22 c2_17 rfl rfl)
  obtain ⟨z2_18, rfl⟩ := cell_bool Tryz.underlying4 (hc2 18 4 c2_18 rfl rfl)
  obtain ⟨z2_19, rfl⟩ := cell_bool Tryz.underlying4 (hc2 19 4 c2_19 rfl rfl)
  obtain ⟨z2_20, rfl⟩ := cell_bool Tryz.underlying4 (hc2 20 4 c2_20 rfl rfl)
  obtain ⟨z2_21, rfl⟩ := cell_bool Tryz.underlying4 (hc2 21 4 c2_21 rfl rfl)
  obtain ⟨z2_22, rfl⟩ := cell_bool Tryz.underlying4 (hc2 22 4 c2_22 rfl rfl)
  obtain ⟨a3, rfl, rfl, rfl, w3⟩ := open_int Tryz.underlying3 (hval 3 3 v3 rfl rfl) h3
  clear hval0
  refine (walk W a0 (by simpa [inR, Lit.wf] using w0) a1 (by simpa [inR, Lit.wf] using w1) z2_0 wz2_0 z2_1 wz2_1 z2_2 wz2_2 z2_3 wz2_3 z2_4 wz2_4 z2_5 wz2_5 z2_6 wz2_6 z2_7 wz2_7 z2_8 wz2_8 z2_9 wz2_9 z2_10 wz2_10 z2_11 wz2_11 z2_12 wz2_12 z2_13 wz2_13 z2_14 wz2_14 z2_15 wz2_15 z2_16 wz2_16 z2_17 wz2_17 z2_18 z2_19 z2_20 z2_21 z2_22 a3 (by simpa [inR, Lit.wf] using w3)).mono fun e W' ⟨he, hg, hold⟩ => ?_
  subst he
  exact ⟨_, rfl, post_of_held (pv := []) hW' (fun _ _ _ => (trodAll_cons_mk (shut_bool Tryz.underlying4 _) trodAll_mk0)) (fun sp hsp => DataW.TrodAll.respare kids full (by rw [Tryz.params3]; decide) (trodAll_grown hold hA0 hlt) (fun x hx => hsp x (by simpa using hx))) (fun _ _ => rfl) (by simp)
    (World.keptBut_mono (fun _ f => f.elim) hg.1) hold (ok_one (by kernel_rfl) rfl (okWide_bool_mk Tryz.underlying4 _))⟩
set_option maxRecDepth 100000 in
theorem lifted (os : Os) (started : os.Started) (H : Type) (enc : TypeId × Value → H) :
    ReturnsInHanded {} Tryz.checked os 3 .any (Rows.machinePushedSpec.pre6 enc Tryz.prog Tryz.f3 Rows.machinePushedRow.domain false) (Rows.machinePushedSpec.post enc Tryz.prog Tryz.f3 false true false false) := by
  refine returnsInHanded_of_change (C := Tryz.checked) own started (by kernel_rfl) Tryz.func3
    (ChangeSpec.witness6 (enc := enc) (C := Tryz.checked) false ⟨#[], #[.int .u64 0, .int .u64 0, .agg #[.int .u64 0, .int .u64 0, .int .u64 0, .int .u64 0, .int .u64 0, .int .u64 0, .int .u64 0, .int .u64 0, .int .u64 0, .int .u64 0, .int .u64 0, .int .u64 0, .int .u64 0, .int .u64 0, .int .u64 0, .int .u64 0, .int .u64 0, .int .u64 0, .bool false, .bool false, .bool false, .bool false, .bool false], .int .i64 0], []⟩ 12 (by kernel_rfl) (by kernel_rfl) (by kernel_rfl) (by kernel_rfl)) ?_
  intro W base args ds gs before hval hW hcnd _
  exact contract H enc W base args ds gs before hval hW
theorem over : Rows.machinePushedRow.holds Tryz.pinned (OpenSpec.ofChange Rows.machinePushedSpec) :=
  OpenClaim.holds_of_wide 3 Tryz.f3 rfl rfl rfl rfl rfl rfl rfl ⟨rfl, rfl, rfl, rfl, rfl⟩ rfl rfl rfl rfl rfl (by kernel_rfl) Tryz.func3 (by kernel_rfl)
    (of_decide_eq_true (by kernel_rfl)) (by unfold Func.isWrapper; first | (rw [if_pos (by decide +kernel)]; kernel_rfl) | (rw [if_neg (by decide +kernel)]; exact ⟨rfl, rfl⟩))
    (fun os started H enc _ => lifted os started H enc)
theorem proved : Rows.MachinePushedSaid := over
#print axioms proved
end Go.Proofs.YtalikdlmmhblkaaGreat.machinePushed
namespace Go.Proofs.YtalikdlmmhblkaaGreat
theorem machinePushed_holds : Rows.MachinePushedSaid := machinePushed.proved
end Go.Proofs.YtalikdlmmhblkaaGreat
