import Derived.Test.YtkbijhfikkjhpaaGreatDoorFrm8
import Derived.Test.YtkbijhfikkjhpaaGreatDoorFrm9
import Derived.Test.YtkbijhfikkjhpaaGreatDoorFrmA
set_option linter.unusedVariables false
set_option linter.unusedSimpArgs false
set_option maxHeartbeats 4000000
set_option maxRecDepth 100000
namespace Go.Proofs.YtkbijhfikkjhpaaGreatDoor.frm
open Go Go.Ab
theorem H7 (iop isz ico tk tr tb tx ts : Int) (tp tf : Bool) (tn : Int) (tw : List Int) (tm fk fr fb fx fs : Int) (fp ff : Bool) (fn : Int) (fw : List Int) (fm : Int) (sh : Bool) {E : Wh} {w' : World} {cargs : Array Value} {K : V → Mem → Prop} (hS : Sim E [] w') (ha : VsRel E [(insA iop isz ico tk tr tb tx ts tp tf tn tw tm fk fr fb fx fs fp ff fn fw fm sh)] cargs.toList) (h : K (.I .i64 (chkE iop isz ico tk tr tb tx ts tp tf tn tw tm fk fr fb fx fs fp ff fn fw fm sh)) []) :
    ((∃ fn, Tryz.prog.funcs[7]? = some fn ∧ fn.body.isSome = true) ∧ Calls Tryz.prog 7 cargs w' (Ret K E [] w')) ∨ ∃ cv w1, (callFunc 7 cargs).run Tryz.prog w' = .ok (.value cv) w1 ∧ Ret K E [] w' (.returned cv) w1 := by
  by_cases h1 : iop < 1
  · refine cbody_use named CX_ok at7 (l := 0) rfl (LoopsOk.none _ _) (F7_x_ok iop isz ico tk tr tb tx ts tp tf tn tw tm fk fr fb fx fs fp ff fn fw fm sh K) hS ha ?_
    unfold F7_x
    rw [dt h1, cond_true]
    have e : chkE iop isz ico tk tr tb tx ts tp tf tn tw tm fk fr fb fx fs fp ff fn fw fm sh = 30 := by unfold chkE validB; rw [df (show ¬ 1 ≤ iop by omega)]; rfl
    rw [e] at h; exact h
  by_cases h2 : iop > 35
  · refine cbody_use named CX_ok at7 (l := 0) rfl (LoopsOk.none _ _) (F7_x_ok iop isz ico tk tr tb tx ts tp tf tn tw tm fk fr fb fx fs fp ff fn fw fm sh K) hS ha ?_
    unfold F7_x
    rw [df h1, dt h2, cond_false, cond_true]
    have e : chkE iop isz ico tk tr tb tx ts tp tf tn tw tm fk fr fb fx fs fp ff fn fw fm sh = 30 := by unfold chkE validB; rw [df (show ¬ iop ≤ 35 by omega), Bool.and_false]; rfl
    rw [e] at h; exact h
  have hop : iop = 1 ∨ iop = 2 ∨ iop = 3 ∨ iop = 4 ∨ iop = 5 ∨ iop = 6 ∨ iop = 7 ∨ iop = 8 ∨ iop = 9 ∨ iop = 10 ∨ iop = 11 ∨ iop = 12 ∨ iop = 13 ∨ iop = 14 ∨ iop = 15 ∨ iop = 16 ∨ iop = 17 ∨ iop = 18 ∨ iop = 19 ∨ iop = 20 ∨ iop = 21 ∨ iop = 22 ∨ iop = 23 ∨ iop = 24 ∨ iop = 25 ∨ iop = 26 ∨ iop = 27 ∨ iop = 28 ∨ iop = 29 ∨ iop = 30 ∨ iop = 31 ∨ iop = 32 ∨ iop = 33 ∨ iop = 34 ∨ iop = 35 := by omega
  rcases hop with rfl | rfl | rfl | rfl | rfl | rfl | rfl | rfl | rfl | rfl | rfl | rfl | rfl | rfl | rfl | rfl | rfl | rfl | rfl | rfl | rfl | rfl | rfl | rfl | rfl | rfl | rfl | rfl | rfl | rfl | rfl | rfl | rfl | rfl | rfl
  · exact cbody_use named C2_ok at7 (l := 0) rfl (LoopsOk.none _ _) (F7_1_ok isz ico tk tr tb tx ts tp tf tn tw tm fk fr fb fx fs fp ff fn fw fm sh K) hS ha ((c7_A isz ico tk tr tb tx ts tp tf tn tw tm fk fr fb fx fs fp ff fn fw fm sh (fun u => K (.I .i64 u) [])).1 h)
  · exact cbody_use named C2_ok at7 (l := 0) rfl (LoopsOk.none _ _) (F7_2_ok isz ico tk tr tb tx ts tp tf tn tw tm fk fr fb fx fs fp ff fn fw fm sh K) hS ha ((c7_A isz ico tk tr tb tx ts tp tf tn tw tm fk fr fb fx fs fp ff fn fw fm sh (fun u => K (.I .i64 u) [])).2.1 h)
  · exact cbody_use named C2_ok at7 (l := 0) rfl (LoopsOk.none _ _) (F7_3_ok isz ico tk tr tb tx ts tp tf tn tw tm fk fr fb fx fs fp ff fn fw fm sh K) hS ha ((c7_A isz ico tk tr tb tx ts tp tf tn tw tm fk fr fb fx fs fp ff fn fw fm sh (fun u => K (.I .i64 u) [])).2.2.1 h)
  · exact cbody_use named C2_ok at7 (l := 0) rfl (LoopsOk.none _ _) (F7_4_ok isz ico tk tr tb tx ts tp tf tn tw tm fk fr fb fx fs fp ff fn fw fm sh K) hS ha ((c7_A isz ico tk tr tb tx ts tp tf tn tw tm fk fr fb fx fs fp ff fn fw fm sh (fun u => K (.I .i64 u) [])).2.2.2.1 h)
  · exact cbody_use named C2_ok at7 (l := 0) rfl (LoopsOk.none _ _) (F7_5_ok isz ico tk tr tb tx ts tp tf tn tw tm fk fr fb fx fs fp ff fn fw fm sh K) hS ha ((c7_A isz ico tk tr tb tx ts tp tf tn tw tm fk fr fb fx fs fp ff fn fw fm sh (fun u => K (.I .i64 u) [])).2.2.2.2.1 h)
  · exact cbody_use named C2_ok at7 (l := 0) rfl (LoopsOk.none _ _) (F7_6_ok isz ico tk tr tb tx ts tp tf tn tw tm fk fr fb fx fs fp ff fn fw fm sh K) hS ha ((c7_A isz ico tk tr tb tx ts tp tf tn tw tm fk fr fb fx fs fp ff fn fw fm sh (fun u => K (.I .i64 u) [])).2.2.2.2.2.1 h)
  · exact cbody_use named C2_ok at7 (l := 0) rfl (LoopsOk.none _ _) (F7_7_ok isz ico tk tr tb tx ts tp tf tn tw tm fk fr fb fx fs fp ff fn fw fm sh K) hS ha ((c7_A isz ico tk tr tb tx ts tp tf tn tw tm fk fr fb fx fs fp ff fn fw fm sh (fun u => K (.I .i64 u) [])).2.2.2.2.2.2.1 h)
  · exact cbody_use named C2_ok at7 (l := 0) rfl (LoopsOk.none _ _) (F7_8_ok isz ico tk tr tb tx ts tp tf tn tw tm fk fr fb fx fs fp ff fn fw fm sh K) hS ha ((c7_A isz ico tk tr tb tx ts tp tf tn tw tm fk fr fb fx fs fp ff fn fw fm sh (fun u => K (.I .i64 u) [])).2.2.2.2.2.2.2.1 h)
  · exact cbody_use named C2_ok at7 (l := 0) rfl (LoopsOk.none _ _) (F7_9_ok isz ico tk tr tb tx ts tp tf tn tw tm fk fr fb fx fs fp ff fn fw fm sh K) hS ha ((c7_A isz ico tk tr tb tx ts tp tf tn tw tm fk fr fb fx fs fp ff fn fw fm sh (fun u => K (.I .i64 u) [])).2.2.2.2.2.2.2.2 h)
  · exact cbody_use named C2_ok at7 (l := 0) rfl (LoopsOk.none _ _) (F7_10_ok isz ico tk tr tb tx ts tp tf tn tw tm fk fr fb fx fs fp ff fn fw fm sh K) hS ha ((c7_B isz ico tk tr tb tx ts tp tf tn tw tm fk fr fb fx fs fp ff fn fw fm sh (fun u => K (.I .i64 u) [])).1 h)
  · exact cbody_use named C2_ok at7 (l := 0) rfl (LoopsOk.none _ _) (F7_11_ok isz ico tk tr tb tx ts tp tf tn tw tm fk fr fb fx fs fp ff fn fw fm sh K) hS ha ((c7_B isz ico tk tr tb tx ts tp tf tn tw tm fk fr fb fx fs fp ff fn fw fm sh (fun u => K (.I .i64 u) [])).2.1 h)
  · exact cbody_use named C2_ok at7 (l := 0) rfl (LoopsOk.none _ _) (F7_12_ok isz ico tk tr tb tx ts tp tf tn tw tm fk fr fb fx fs fp ff fn fw fm sh K) hS ha ((c7_B isz ico tk tr tb tx ts tp tf tn tw tm fk fr fb fx fs fp ff fn fw fm sh (fun u => K (.I .i64 u) [])).2.2.1 h)
  · exact cbody_use named C2_ok at7 (l := 0) rfl (LoopsOk.none _ _) (F7_13_ok isz ico tk tr tb tx ts tp tf tn tw tm fk fr fb fx fs fp ff fn fw fm sh K) hS ha ((c7_B isz ico tk tr tb tx ts tp tf tn tw tm fk fr fb fx fs fp ff fn fw fm sh (fun u => K (.I .i64 u) [])).2.2.2.1 h)
  · exact cbody_use named C2_ok at7 (l := 0) rfl (LoopsOk.none _ _) (F7_14_ok isz ico tk tr tb tx ts tp tf tn tw tm fk fr fb fx fs fp ff fn fw fm sh K) hS ha ((c7_B isz ico tk tr tb tx ts tp tf tn tw tm fk fr fb fx fs fp ff fn fw fm sh (fun u => K (.I .i64 u) [])).2.2.2.2.1 h)
  · exact cbody_use named C2_ok at7 (l := 0) rfl (LoopsOk.none _ _) (F7_15_ok isz ico tk tr tb tx ts tp tf tn tw tm fk fr fb fx fs fp ff fn fw fm sh K) hS ha ((c7_B isz ico tk tr tb tx ts tp tf tn tw tm fk fr fb fx fs fp ff fn fw fm sh (fun u => K (.I .i64 u) [])).2.2.2.2.2.1 h)
  · exact cbody_use named C2_ok at7 (l := 0) rfl (LoopsOk.none _ _) (F7_16_ok isz ico tk tr tb tx ts tp tf tn tw tm fk fr fb fx fs fp ff fn fw fm sh K) hS ha ((c7_B isz ico tk tr tb tx ts tp tf tn tw tm fk fr fb fx fs fp ff fn fw fm sh (fun u => K (.I .i64 u) [])).2.2.2.2.2.2.1 h)
  · exact cbody_use named C2_ok at7 (l := 0) rfl (LoopsOk.none _ _) (F7_17_ok isz ico tk tr tb tx ts tp tf tn tw tm fk fr fb fx fs fp ff fn fw fm sh K) hS ha ((c7_B isz ico tk tr tb tx ts tp tf tn tw tm fk fr fb fx fs fp ff fn fw fm sh (fun u => K (.I .i64 u) [])).2.2.2.2.2.2.2.1 h)
  · exact cbody_use named C2_ok at7 (l := 0) rfl (LoopsOk.none _ _) (F7_18_ok isz ico tk tr tb tx ts tp tf tn tw tm fk fr fb fx fs fp ff fn fw fm sh K) hS ha ((c7_B isz ico tk tr tb tx ts tp tf tn tw tm fk fr fb fx fs fp ff fn fw fm sh (fun u => K (.I .i64 u) [])).2.2.2.2.2.2.2.2 h)
  · exact cbody_use named C2_ok at7 (l := 0) rfl (LoopsOk.none _ _) (F7_19_ok isz ico tk tr tb tx ts tp tf tn tw tm fk fr fb fx fs fp ff fn fw fm sh K) hS ha ((c7_C isz ico tk tr tb tx ts tp tf tn tw tm fk fr fb fx fs fp ff fn fw fm sh (fun u => K (.I .i64 u) [])).1 h)
  · exact cbody_use named C2_ok at7 (l := 0) rfl (LoopsOk.none _ _) (F7_20_ok isz ico tk tr tb tx ts tp tf tn tw tm fk fr fb fx fs fp ff fn fw fm sh K) hS ha ((c7_C isz ico tk tr tb tx ts tp tf tn tw tm fk fr fb fx fs fp ff fn fw fm sh (fun u => K (.I .i64 u) [])).2.1 h)
  · exact cbody_use named C2_ok at7 (l := 0) rfl (LoopsOk.none _ _) (F7_21_ok isz ico tk tr tb tx ts tp tf tn tw tm fk fr fb fx fs fp ff fn fw fm sh K) hS ha ((c7_C isz ico tk tr tb tx ts tp tf tn tw tm fk fr fb fx fs fp ff fn fw fm sh (fun u => K (.I .i64 u) [])).2.2.1 h)
  · exact cbody_use named C2_ok at7 (l := 0) rfl (LoopsOk.none _ _) (F7_22_ok isz ico tk tr tb tx ts tp tf tn tw tm fk fr fb fx fs fp ff fn fw fm sh K) hS ha ((c7_C isz ico tk tr tb tx ts tp tf tn tw tm fk fr fb fx fs fp ff fn fw fm sh (fun u => K (.I .i64 u) [])).2.2.2.1 h)
  · exact cbody_use named C2_ok at7 (l := 0) rfl (LoopsOk.none _ _) (F7_23_ok isz ico tk tr tb tx ts tp tf tn tw tm fk fr fb fx fs fp ff fn fw fm sh K) hS ha ((c7_C isz ico tk tr tb tx ts tp tf tn tw tm fk fr fb fx fs fp ff fn fw fm sh (fun u => K (.I .i64 u) [])).2.2.2.2.1 h)
  · exact cbody_use named C2_ok at7 (l := 0) rfl (LoopsOk.none _ _) (F7_24_ok isz ico tk tr tb tx ts tp tf tn tw tm fk fr fb fx fs fp ff fn fw fm sh K) hS ha ((c7_C isz ico tk tr tb tx ts tp tf tn tw tm fk fr fb fx fs fp ff fn fw fm sh (fun u => K (.I .i64 u) [])).2.2.2.2.2.1 h)
  · exact cbody_use named C2_ok at7 (l := 0) rfl (LoopsOk.none _ _) (F7_25_ok isz ico tk tr tb tx ts tp tf tn tw tm fk fr fb fx fs fp ff fn fw fm sh K) hS ha ((c7_C isz ico tk tr tb tx ts tp tf tn tw tm fk fr fb fx fs fp ff fn fw fm sh (fun u => K (.I .i64 u) [])).2.2.2.2.2.2.1 h)
  · exact cbody_use named C2_ok at7 (l := 0) rfl (LoopsOk.none _ _) (F7_26_ok isz ico tk tr tb tx ts tp tf tn tw tm fk fr fb fx fs fp ff fn fw fm sh K) hS ha ((c7_C isz ico tk tr tb tx ts tp tf tn tw tm fk fr fb fx fs fp ff fn fw fm sh (fun u => K (.I .i64 u) [])).2.2.2.2.2.2.2.1 h)
  · exact cbody_use named C2_ok at7 (l := 0) rfl (LoopsOk.none _ _) (F7_27_ok isz ico tk tr tb tx ts tp tf tn tw tm fk fr fb fx fs fp ff fn fw fm sh K) hS ha ((c7_C isz ico tk tr tb tx ts tp tf tn tw tm fk fr fb fx fs fp ff fn fw fm sh (fun u => K (.I .i64 u) [])).2.2.2.2.2.2.2.2 h)
  · exact cbody_use named C2_ok at7 (l := 0) rfl (LoopsOk.none _ _) (F7_28_ok isz ico tk tr tb tx ts tp tf tn tw tm fk fr fb fx fs fp ff fn fw fm sh K) hS ha ((c7_D isz ico tk tr tb tx ts tp tf tn tw tm fk fr fb fx fs fp ff fn fw fm sh (fun u => K (.I .i64 u) [])).1 h)
  · exact cbody_use named C2_ok at7 (l := 0) rfl (LoopsOk.none _ _) (F7_29_ok isz ico tk tr tb tx ts tp tf tn tw tm fk fr fb fx fs fp ff fn fw fm sh K) hS ha ((c7_D isz ico tk tr tb tx ts tp tf tn tw tm fk fr fb fx fs fp ff fn fw fm sh (fun u => K (.I .i64 u) [])).2.1 h)
  · exact cbody_use named C2_ok at7 (l := 0) rfl (LoopsOk.none _ _) (F7_30_ok isz ico tk tr tb tx ts tp tf tn tw tm fk fr fb fx fs fp ff fn fw fm sh K) hS ha ((c7_D isz ico tk tr tb tx ts tp tf tn tw tm fk fr fb fx fs fp ff fn fw fm sh (fun u => K (.I .i64 u) [])).2.2.1 h)
  · exact cbody_use named C2_ok at7 (l := 0) rfl (LoopsOk.none _ _) (F7_31_ok isz ico tk tr tb tx ts tp tf tn tw tm fk fr fb fx fs fp ff fn fw fm sh K) hS ha ((c7_D isz ico tk tr tb tx ts tp tf tn tw tm fk fr fb fx fs fp ff fn fw fm sh (fun u => K (.I .i64 u) [])).2.2.2.1 h)
  · exact cbody_use named C2_ok at7 (l := 0) rfl (LoopsOk.none _ _) (F7_32_ok isz ico tk tr tb tx ts tp tf tn tw tm fk fr fb fx fs fp ff fn fw fm sh K) hS ha ((c7_D isz ico tk tr tb tx ts tp tf tn tw tm fk fr fb fx fs fp ff fn fw fm sh (fun u => K (.I .i64 u) [])).2.2.2.2.1 h)
  · exact cbody_use named C2_ok at7 (l := 0) rfl (LoopsOk.none _ _) (F7_33_ok isz ico tk tr tb tx ts tp tf tn tw tm fk fr fb fx fs fp ff fn fw fm sh K) hS ha ((c7_D isz ico tk tr tb tx ts tp tf tn tw tm fk fr fb fx fs fp ff fn fw fm sh (fun u => K (.I .i64 u) [])).2.2.2.2.2.1 h)
  · exact cbody_use named C2_ok at7 (l := 0) rfl (LoopsOk.none _ _) (F7_34_ok isz ico tk tr tb tx ts tp tf tn tw tm fk fr fb fx fs fp ff fn fw fm sh K) hS ha ((c7_D isz ico tk tr tb tx ts tp tf tn tw tm fk fr fb fx fs fp ff fn fw fm sh (fun u => K (.I .i64 u) [])).2.2.2.2.2.2.1 h)
  · exact cbody_use named C2_ok at7 (l := 0) rfl (LoopsOk.none _ _) (F7_35_ok isz ico tk tr tb tx ts tp tf tn tw tm fk fr fb fx fs fp ff fn fw fm sh K) hS ha ((c7_D isz ico tk tr tb tx ts tp tf tn tw tm fk fr fb fx fs fp ff fn fw fm sh (fun u => K (.I .i64 u) [])).2.2.2.2.2.2.2 h)

def P7 : Prim := fun args m K =>
  let F := False
  (seeCons args F fun a1 q2 => (seeAgg a1 F fun vs3 => (seeCons vs3 F fun a4 q5 => (seeI .i64 a4 F fun iop => (seeCons q5 F fun a6 q7 => (seeI .i64 a6 F fun isz => (seeCons q7 F fun a8 q9 => (seeI .i64 a8 F fun ico => (seeCons q9 F fun a10 q11 => (seeI .i64 a10 F fun tk => (seeCons q11 F fun a12 q13 => (seeI .i64 a12 F fun tr => (seeCons q13 F fun a14 q15 => (seeI .i64 a14 F fun tb => (seeCons q15 F fun a16 q17 => (seeI .i64 a16 F fun tx => (seeCons q17 F fun a18 q19 => (seeI .i64 a18 F fun ts => (seeCons q19 F fun a20 q21 => (seeB a20 F fun tp => (seeCons q21 F fun a22 q23 => (seeB a22 F fun tf => (seeCons q23 F fun a24 q25 => (seeI .i64 a24 F fun tn => (seeCons q25 F fun a26 q27 => (seeS a26 F fun tw => (seeCons q27 F fun a28 q29 => (seeI .i64 a28 F fun tm => (seeCons q29 F fun a30 q31 => (seeI .i64 a30 F fun fk => (seeCons q31 F fun a32 q33 => (seeI .i64 a32 F fun fr => (seeCons q33 F fun a34 q35 => (seeI .i64 a34 F fun fb => (seeCons q35 F fun a36 q37 => (seeI .i64 a36 F fun fx => (seeCons q37 F fun a38 q39 => (seeI .i64 a38 F fun fs => (seeCons q39 F fun a40 q41 => (seeB a40 F fun fp => (seeCons q41 F fun a42 q43 => (seeB a42 F fun ff => (seeCons q43 F fun a44 q45 => (seeI .i64 a44 F fun fn => (seeCons q45 F fun a46 q47 => (seeS a46 F fun fw => (seeCons q47 F fun a48 q49 => (seeI .i64 a48 F fun fm => (seeCons q49 F fun a50 q51 => (seeB a50 F fun sh => (seeNil q51 F (seeNil q2 F (seeNil m F (K (.I .i64 (chkE iop isz ico tk tr tb tx ts tp tf tn tw tm fk fr fb fx fs fp ff fn fw fm sh)) []))))))))))))))))))))))))))))))))))))))))))))))))))))))
set_option maxRecDepth 100000 in
theorem P7_ok : PrimOk Tryz.prog 7 P7 := by
  intro args m K E w cargs hS ha h
  unfold P7 at h
  dsimp only at h
  replace h := seeCons_use h
  rcases h with h | ⟨a1, q2, rfl, h⟩
  · exact h.elim
  replace h := seeAgg_use h
  rcases h with h | ⟨vs3, rfl, h⟩
  · exact h.elim
  replace h := seeCons_use h
  rcases h with h | ⟨a4, q5, rfl, h⟩
  · exact h.elim
  replace h := seeI_use h
  rcases h with h | ⟨iop, rfl, h⟩
  · exact h.elim
  replace h := seeCons_use h
  rcases h with h | ⟨a6, q7, rfl, h⟩
  · exact h.elim
  replace h := seeI_use h
  rcases h with h | ⟨isz, rfl, h⟩
  · exact h.elim
  replace h := seeCons_use h
  rcases h with h | ⟨a8, q9, rfl, h⟩
  · exact h.elim
  replace h := seeI_use h
  rcases h with h | ⟨ico, rfl, h⟩
  · exact h.elim
  replace h := seeCons_use h
  rcases h with h | ⟨a10, q11, rfl, h⟩
  · exact h.elim
  replace h := seeI_use h
  rcases h with h | ⟨tk, rfl, h⟩
  · exact h.elim
  replace h := seeCons_use h
  rcases h with h | ⟨a12, q13, rfl, h⟩
  · exact h.elim
  replace h := seeI_use h
  rcases h with h | ⟨tr, rfl, h⟩
  · exact h.elim
  replace h := seeCons_use h
  rcases h with h | ⟨a14, q15, rfl, h⟩
  · exact h.elim
  replace h := seeI_use h
  rcases h with h | ⟨tb, rfl, h⟩
  · exact h.elim
  replace h := seeCons_use h
  rcases h with h | ⟨a16, q17, rfl, h⟩
  · exact h.elim
  replace h := seeI_use h
  rcases h with h | ⟨tx, rfl, h⟩
  · exact h.elim
  replace h := seeCons_use h
  rcases h with h | ⟨a18, q19, rfl, h⟩
  · exact h.elim
  replace h := seeI_use h
  rcases h with h | ⟨ts, rfl, h⟩
  · exact h.elim
  replace h := seeCons_use h
  rcases h with h | ⟨a20, q21, rfl, h⟩
  · exact h.elim
  replace h := seeB_use h
  rcases h with h | ⟨tp, rfl, h⟩
  · exact h.elim
  replace h := seeCons_use h
  rcases h with h | ⟨a22, q23, rfl, h⟩
  · exact h.elim
  replace h := seeB_use h
  rcases h with h | ⟨tf, rfl, h⟩
  · exact h.elim
  replace h := seeCons_use h
  rcases h with h | ⟨a24, q25, rfl, h⟩
  · exact h.elim
  replace h := seeI_use h
  rcases h with h | ⟨tn, rfl, h⟩
  · exact h.elim
  replace h := seeCons_use h
  rcases h with h | ⟨a26, q27, rfl, h⟩
  · exact h.elim
  replace h := seeS_use h
  rcases h with h | ⟨tw, rfl, h⟩
  · exact h.elim
  replace h := seeCons_use h
  rcases h with h | ⟨a28, q29, rfl, h⟩
  · exact h.elim
  replace h := seeI_use h
  rcases h with h | ⟨tm, rfl, h⟩
  · exact h.elim
  replace h := seeCons_use h
  rcases h with h | ⟨a30, q31, rfl, h⟩
  · exact h.elim
  replace h := seeI_use h
  rcases h with h | ⟨fk, rfl, h⟩
  · exact h.elim
  replace h := seeCons_use h
  rcases h with h | ⟨a32, q33, rfl, h⟩
  · exact h.elim
  replace h := seeI_use h
  rcases h with h | ⟨fr, rfl, h⟩
  · exact h.elim
  replace h := seeCons_use h
  rcases h with h | ⟨a34, q35, rfl, h⟩
  · exact h.elim
  replace h := seeI_use h
  rcases h with h | ⟨fb, rfl, h⟩
  · exact h.elim
  replace h := seeCons_use h
  rcases h with h | ⟨a36, q37, rfl, h⟩
  · exact h.elim
  replace h := seeI_use h
  rcases h with h | ⟨fx, rfl, h⟩
  · exact h.elim
  replace h := seeCons_use h
  rcases h with h | ⟨a38, q39, rfl, h⟩
  · exact h.elim
  replace h := seeI_use h
  rcases h with h | ⟨fs, rfl, h⟩
  · exact h.elim
  replace h := seeCons_use h
  rcases h with h | ⟨a40, q41, rfl, h⟩
  · exact h.elim
  replace h := seeB_use h
  rcases h with h | ⟨fp, rfl, h⟩
  · exact h.elim
  replace h := seeCons_use h
  rcases h with h | ⟨a42, q43, rfl, h⟩
  · exact h.elim
  replace h := seeB_use h
  rcases h with h | ⟨ff, rfl, h⟩
  · exact h.elim
  replace h := seeCons_use h
  rcases h with h | ⟨a44, q45, rfl, h⟩
  · exact h.elim
  replace h := seeI_use h
  rcases h with h | ⟨fn, rfl, h⟩
  · exact h.elim
  replace h := seeCons_use h
  rcases h with h | ⟨a46, q47, rfl, h⟩
  · exact h.elim
  replace h := seeS_use h
  rcases h with h | ⟨fw, rfl, h⟩
  · exact h.elim
  replace h := seeCons_use h
  rcases h with h | ⟨a48, q49, rfl, h⟩
  · exact h.elim
  replace h := seeI_use h
  rcases h with h | ⟨fm, rfl, h⟩
  · exact h.elim
  replace h := seeCons_use h
  rcases h with h | ⟨a50, q51, rfl, h⟩
  · exact h.elim
  replace h := seeB_use h
  rcases h with h | ⟨sh, rfl, h⟩
  · exact h.elim
  replace h := seeNil_use h
  rcases h with h | ⟨rfl, h⟩
  · exact h.elim
  replace h := seeNil_use h
  rcases h with h | ⟨rfl, h⟩
  · exact h.elim
  replace h := seeNil_use h
  rcases h with h | ⟨rfl, h⟩
  · exact h.elim
  exact H7 iop isz ico tk tr tb tx ts tp tf tn tw tm fk fr fb fx fs fp ff fn fw fm sh hS ha h
theorem H8 (iop isz ico tk tr tb tx ts : Int) (tp tf : Bool) (tn : Int) (tw : List Int) (tm fk fr fb fx fs : Int) (fp ff : Bool) (fn : Int) (fw : List Int) (fm : Int) (sh : Bool) {E : Wh} {w' : World} {cargs : Array Value} {K : V → Mem → Prop} (hS : Sim E [] w') (ha : VsRel E [(insA iop isz ico tk tr tb tx ts tp tf tn tw tm fk fr fb fx fs fp ff fn fw fm sh)] cargs.toList) (h : K (.I .i64 (chkE iop isz ico tk tr tb tx ts tp tf tn tw tm fk fr fb fx fs fp ff fn fw fm sh)) []) :
    ((∃ fn, Tryz.prog.funcs[8]? = some fn ∧ fn.body.isSome = true) ∧ Calls Tryz.prog 8 cargs w' (Ret K E [] w')) ∨ ∃ cv w1, (callFunc 8 cargs).run Tryz.prog w' = .ok (.value cv) w1 ∧ Ret K E [] w' (.returned cv) w1 := by
  by_cases h1 : iop < -1
  · obtain ⟨q, rfl⟩ : ∃ q : Nat, iop = Int.negSucc (q + 1) := ⟨(-iop - 2).toNat, by omega⟩
    exact cbody_use named C2_ok at8 (l := 0) rfl (LoopsOk.none _ _) (F8_n_ok q isz ico tk tr tb tx ts tp tf tn tw tm fk fr fb fx fs fp ff fn fw fm sh K) hS ha (by rw [chkE_out (by omega)] at h; exact h)
  by_cases h2 : iop = -1
  · subst h2
    exact cbody_use named C2_ok at8 (l := 0) rfl (LoopsOk.none _ _) (F8_m_ok isz ico tk tr tb tx ts tp tf tn tw tm fk fr fb fx fs fp ff fn fw fm sh K) hS ha (by rw [chkE_out (by omega)] at h; exact h)
  by_cases h3 : iop = 0
  · subst h3
    exact cbody_use named C2_ok at8 (l := 0) rfl (LoopsOk.none _ _) (F8_z_ok isz ico tk tr tb tx ts tp tf tn tw tm fk fr fb fx fs fp ff fn fw fm sh K) hS ha (by rw [chkE_out (by omega)] at h; exact h)
  by_cases h4 : iop > 35
  · obtain ⟨q, rfl⟩ : ∃ q : Nat, iop = Int.ofNat (q + 36) := ⟨(iop - 36).toNat, by simp only [Int.ofNat_eq_natCast]; omega⟩
    exact cbody_use named C2_ok at8 (l := 0) rfl (LoopsOk.none _ _) (F8_p_ok q isz ico tk tr tb tx ts tp tf tn tw tm fk fr fb fx fs fp ff fn fw fm sh K) hS ha (by rw [chkE_out (by omega)] at h; exact h)
  have hop : iop = 1 ∨ iop = 2 ∨ iop = 3 ∨ iop = 4 ∨ iop = 5 ∨ iop = 6 ∨ iop = 7 ∨ iop = 8 ∨ iop = 9 ∨ iop = 10 ∨ iop = 11 ∨ iop = 12 ∨ iop = 13 ∨ iop = 14 ∨ iop = 15 ∨ iop = 16 ∨ iop = 17 ∨ iop = 18 ∨ iop = 19 ∨ iop = 20 ∨ iop = 21 ∨ iop = 22 ∨ iop = 23 ∨ iop = 24 ∨ iop = 25 ∨ iop = 26 ∨ iop = 27 ∨ iop = 28 ∨ iop = 29 ∨ iop = 30 ∨ iop = 31 ∨ iop = 32 ∨ iop = 33 ∨ iop = 34 ∨ iop = 35 := by omega
  rcases hop with rfl | rfl | rfl | rfl | rfl | rfl | rfl | rfl | rfl | rfl | rfl | rfl | rfl | rfl | rfl | rfl | rfl | rfl | rfl | rfl | rfl | rfl | rfl | rfl | rfl | rfl | rfl | rfl | rfl | rfl | rfl | rfl | rfl | rfl | rfl
  · exact cbody_use named C2_ok at8 (l := 0) rfl (LoopsOk.none _ _) (F8_1_ok isz ico tk tr tb tx ts tp tf tn tw tm fk fr fb fx fs fp ff fn fw fm sh K) hS ha ((c8_A isz ico tk tr tb tx ts tp tf tn tw tm fk fr fb fx fs fp ff fn fw fm sh (fun u => K (.I .i64 u) [])).1 h)
  · exact cbody_use named C2_ok at8 (l := 0) rfl (LoopsOk.none _ _) (F8_2_ok isz ico tk tr tb tx ts tp tf tn tw tm fk fr fb fx fs fp ff fn fw fm sh K) hS ha ((c8_A isz ico tk tr tb tx ts tp tf tn tw tm fk fr fb fx fs fp ff fn fw fm sh (fun u => K (.I .i64 u) [])).2.1 h)
  · exact cbody_use named C2_ok at8 (l := 0) rfl (LoopsOk.none _ _) (F8_3_ok isz ico tk tr tb tx ts tp tf tn tw tm fk fr fb fx fs fp ff fn fw fm sh K) hS ha ((c8_A isz ico tk tr tb tx ts tp tf tn tw tm fk fr fb fx fs fp ff fn fw fm sh (fun u => K (.I .i64 u) [])).2.2.1 h)
  · exact cbody_use named C2_ok at8 (l := 0) rfl (LoopsOk.none _ _) (F8_4_ok isz ico tk tr tb tx ts tp tf tn tw tm fk fr fb fx fs fp ff fn fw fm sh K) hS ha ((c8_A isz ico tk tr tb tx ts tp tf tn tw tm fk fr fb fx fs fp ff fn fw fm sh (fun u => K (.I .i64 u) [])).2.2.2.1 h)
  · exact cbody_use named C2_ok at8 (l := 0) rfl (LoopsOk.none _ _) (F8_5_ok isz ico tk tr tb tx ts tp tf tn tw tm fk fr fb fx fs fp ff fn fw fm sh K) hS ha ((c8_A isz ico tk tr tb tx ts tp tf tn tw tm fk fr fb fx fs fp ff fn fw fm sh (fun u => K (.I .i64 u) [])).2.2.2.2.1 h)
  · exact cbody_use named C2_ok at8 (l := 0) rfl (LoopsOk.none _ _) (F8_6_ok isz ico tk tr tb tx ts tp tf tn tw tm fk fr fb fx fs fp ff fn fw fm sh K) hS ha ((c8_A isz ico tk tr tb tx ts tp tf tn tw tm fk fr fb fx fs fp ff fn fw fm sh (fun u => K (.I .i64 u) [])).2.2.2.2.2.1 h)
  · exact cbody_use named C2_ok at8 (l := 0) rfl (LoopsOk.none _ _) (F8_7_ok isz ico tk tr tb tx ts tp tf tn tw tm fk fr fb fx fs fp ff fn fw fm sh K) hS ha ((c8_A isz ico tk tr tb tx ts tp tf tn tw tm fk fr fb fx fs fp ff fn fw fm sh (fun u => K (.I .i64 u) [])).2.2.2.2.2.2.1 h)
  · exact cbody_use named C2_ok at8 (l := 0) rfl (LoopsOk.none _ _) (F8_8_ok isz ico tk tr tb tx ts tp tf tn tw tm fk fr fb fx fs fp ff fn fw fm sh K) hS ha ((c8_A isz ico tk tr tb tx ts tp tf tn tw tm fk fr fb fx fs fp ff fn fw fm sh (fun u => K (.I .i64 u) [])).2.2.2.2.2.2.2.1 h)
  · exact cbody_use named C2_ok at8 (l := 0) rfl (LoopsOk.none _ _) (F8_9_ok isz ico tk tr tb tx ts tp tf tn tw tm fk fr fb fx fs fp ff fn fw fm sh K) hS ha ((c8_A isz ico tk tr tb tx ts tp tf tn tw tm fk fr fb fx fs fp ff fn fw fm sh (fun u => K (.I .i64 u) [])).2.2.2.2.2.2.2.2 h)
  · exact cbody_use named C2_ok at8 (l := 0) rfl (LoopsOk.none _ _) (F8_10_ok isz ico tk tr tb tx ts tp tf tn tw tm fk fr fb fx fs fp ff fn fw fm sh K) hS ha ((c8_B isz ico tk tr tb tx ts tp tf tn tw tm fk fr fb fx fs fp ff fn fw fm sh (fun u => K (.I .i64 u) [])).1 h)
  · exact cbody_use named C2_ok at8 (l := 0) rfl (LoopsOk.none _ _) (F8_11_ok isz ico tk tr tb tx ts tp tf tn tw tm fk fr fb fx fs fp ff fn fw fm sh K) hS ha ((c8_B isz ico tk tr tb tx ts tp tf tn tw tm fk fr fb fx fs fp ff fn fw fm sh (fun u => K (.I .i64 u) [])).2.1 h)
  · exact cbody_use named C2_ok at8 (l := 0) rfl (LoopsOk.none _ _) (F8_12_ok isz ico tk tr tb tx ts tp tf tn tw tm fk fr fb fx fs fp ff fn fw fm sh K) hS ha ((c8_B isz ico tk tr tb tx ts tp tf tn tw tm fk fr fb fx fs fp ff fn fw fm sh (fun u => K (.I .i64 u) [])).2.2.1 h)
  · exact cbody_use named C2_ok at8 (l := 0) rfl (LoopsOk.none _ _) (F8_13_ok isz ico tk tr tb tx ts tp tf tn tw tm fk fr fb fx fs fp ff fn fw fm sh K) hS ha ((c8_B isz ico tk tr tb tx ts tp tf tn tw tm fk fr fb fx fs fp ff fn fw fm sh (fun u => K (.I .i64 u) [])).2.2.2.1 h)
  · exact cbody_use named C2_ok at8 (l := 0) rfl (LoopsOk.none _ _) (F8_14_ok isz ico tk tr tb tx ts tp tf tn tw tm fk fr fb fx fs fp ff fn fw fm sh K) hS ha ((c8_B isz ico tk tr tb tx ts tp tf tn tw tm fk fr fb fx fs fp ff fn fw fm sh (fun u => K (.I .i64 u) [])).2.2.2.2.1 h)
  · exact cbody_use named C2_ok at8 (l := 0) rfl (LoopsOk.none _ _) (F8_15_ok isz ico tk tr tb tx ts tp tf tn tw tm fk fr fb fx fs fp ff fn fw fm sh K) hS ha ((c8_B isz ico tk tr tb tx ts tp tf tn tw tm fk fr fb fx fs fp ff fn fw fm sh (fun u => K (.I .i64 u) [])).2.2.2.2.2.1 h)
  · exact cbody_use named C2_ok at8 (l := 0) rfl (LoopsOk.none _ _) (F8_16_ok isz ico tk tr tb tx ts tp tf tn tw tm fk fr fb fx fs fp ff fn fw fm sh K) hS ha ((c8_B isz ico tk tr tb tx ts tp tf tn tw tm fk fr fb fx fs fp ff fn fw fm sh (fun u => K (.I .i64 u) [])).2.2.2.2.2.2.1 h)
  · exact cbody_use named C2_ok at8 (l := 0) rfl (LoopsOk.none _ _) (F8_17_ok isz ico tk tr tb tx ts tp tf tn tw tm fk fr fb fx fs fp ff fn fw fm sh K) hS ha ((c8_B isz ico tk tr tb tx ts tp tf tn tw tm fk fr fb fx fs fp ff fn fw fm sh (fun u => K (.I .i64 u) [])).2.2.2.2.2.2.2.1 h)
  · exact cbody_use named C2_ok at8 (l := 0) rfl (LoopsOk.none _ _) (F8_18_ok isz ico tk tr tb tx ts tp tf tn tw tm fk fr fb fx fs fp ff fn fw fm sh K) hS ha ((c8_B isz ico tk tr tb tx ts tp tf tn tw tm fk fr fb fx fs fp ff fn fw fm sh (fun u => K (.I .i64 u) [])).2.2.2.2.2.2.2.2 h)
  · exact cbody_use named C2_ok at8 (l := 0) rfl (LoopsOk.none _ _) (F8_19_ok isz ico tk tr tb tx ts tp tf tn tw tm fk fr fb fx fs fp ff fn fw fm sh K) hS ha ((c8_C isz ico tk tr tb tx ts tp tf tn tw tm fk fr fb fx fs fp ff fn fw fm sh (fun u => K (.I .i64 u) [])).1 h)
  · exact cbody_use named C2_ok at8 (l := 0) rfl (LoopsOk.none _ _) (F8_20_ok isz ico tk tr tb tx ts tp tf tn tw tm fk fr fb fx fs fp ff fn fw fm sh K) hS ha ((c8_C isz ico tk tr tb tx ts tp tf tn tw tm fk fr fb fx fs fp ff fn fw fm sh (fun u => K (.I .i64 u) [])).2.1 h)
  · exact cbody_use named C2_ok at8 (l := 0) rfl (LoopsOk.none _ _) (F8_21_ok isz ico tk tr tb tx ts tp tf tn tw tm fk fr fb fx fs fp ff fn fw fm sh K) hS ha ((c8_C isz ico tk tr tb tx ts tp tf tn tw tm fk fr fb fx fs fp ff fn fw fm sh (fun u => K (.I .i64 u) [])).2.2.1 h)
  · exact cbody_use named C2_ok at8 (l := 0) rfl (LoopsOk.none _ _) (F8_22_ok isz ico tk tr tb tx ts tp tf tn tw tm fk fr fb fx fs fp ff fn fw fm sh K) hS ha ((c8_C isz ico tk tr tb tx ts tp tf tn tw tm fk fr fb fx fs fp ff fn fw fm sh (fun u => K (.I .i64 u) [])).2.2.2.1 h)
  · exact cbody_use named C2_ok at8 (l := 0) rfl (LoopsOk.none _ _) (F8_23_ok isz ico tk tr tb tx ts tp tf tn tw tm fk fr fb fx fs fp ff fn fw fm sh K) hS ha ((c8_C isz ico tk tr tb tx ts tp tf tn tw tm fk fr fb fx fs fp ff fn fw fm sh (fun u => K (.I .i64 u) [])).2.2.2.2.1 h)
  · exact cbody_use named C2_ok at8 (l := 0) rfl (LoopsOk.none _ _) (F8_24_ok isz ico tk tr tb tx ts tp tf tn tw tm fk fr fb fx fs fp ff fn fw fm sh K) hS ha ((c8_C isz ico tk tr tb tx ts tp tf tn tw tm fk fr fb fx fs fp ff fn fw fm sh (fun u => K (.I .i64 u) [])).2.2.2.2.2.1 h)
  · exact cbody_use named C2_ok at8 (l := 0) rfl (LoopsOk.none _ _) (F8_25_ok isz ico tk tr tb tx ts tp tf tn tw tm fk fr fb fx fs fp ff fn fw fm sh K) hS ha ((c8_C isz ico tk tr tb tx ts tp tf tn tw tm fk fr fb fx fs fp ff fn fw fm sh (fun u => K (.I .i64 u) [])).2.2.2.2.2.2.1 h)
  · exact cbody_use named C2_ok at8 (l := 0) rfl (LoopsOk.none _ _) (F8_26_ok isz ico tk tr tb tx ts tp tf tn tw tm fk fr fb fx fs fp ff fn fw fm sh K) hS ha ((c8_C isz ico tk tr tb tx ts tp tf tn tw tm fk fr fb fx fs fp ff fn fw fm sh (fun u => K (.I .i64 u) [])).2.2.2.2.2.2.2.1 h)
  · exact cbody_use named C2_ok at8 (l := 0) rfl (LoopsOk.none _ _) (F8_27_ok isz ico tk tr tb tx ts tp tf tn tw tm fk fr fb fx fs fp ff fn fw fm sh K) hS ha ((c8_C isz ico tk tr tb tx ts tp tf tn tw tm fk fr fb fx fs fp ff fn fw fm sh (fun u => K (.I .i64 u) [])).2.2.2.2.2.2.2.2 h)
  · exact cbody_use named C2_ok at8 (l := 0) rfl (LoopsOk.none _ _) (F8_28_ok isz ico tk tr tb tx ts tp tf tn tw tm fk fr fb fx fs fp ff fn fw fm sh K) hS ha ((c8_D isz ico tk tr tb tx ts tp tf tn tw tm fk fr fb fx fs fp ff fn fw fm sh (fun u => K (.I .i64 u) [])).1 h)
  · exact cbody_use named C2_ok at8 (l := 0) rfl (LoopsOk.none _ _) (F8_29_ok isz ico tk tr tb tx ts tp tf tn tw tm fk fr fb fx fs fp ff fn fw fm sh K) hS ha ((c8_D isz ico tk tr tb tx ts tp tf tn tw tm fk fr fb fx fs fp ff fn fw fm sh (fun u => K (.I .i64 u) [])).2.1 h)
  · exact cbody_use named C2_ok at8 (l := 0) rfl (LoopsOk.none _ _) (F8_30_ok isz ico tk tr tb tx ts tp tf tn tw tm fk fr fb fx fs fp ff fn fw fm sh K) hS ha ((c8_D isz ico tk tr tb tx ts tp tf tn tw tm fk fr fb fx fs fp ff fn fw fm sh (fun u => K (.I .i64 u) [])).2.2.1 h)
  · exact cbody_use named C2_ok at8 (l := 0) rfl (LoopsOk.none _ _) (F8_31_ok isz ico tk tr tb tx ts tp tf tn tw tm fk fr fb fx fs fp ff fn fw fm sh K) hS ha ((c8_D isz ico tk tr tb tx ts tp tf tn tw tm fk fr fb fx fs fp ff fn fw fm sh (fun u => K (.I .i64 u) [])).2.2.2.1 h)
  · exact cbody_use named C2_ok at8 (l := 0) rfl (LoopsOk.none _ _) (F8_32_ok isz ico tk tr tb tx ts tp tf tn tw tm fk fr fb fx fs fp ff fn fw fm sh K) hS ha ((c8_D isz ico tk tr tb tx ts tp tf tn tw tm fk fr fb fx fs fp ff fn fw fm sh (fun u => K (.I .i64 u) [])).2.2.2.2.1 h)
  · exact cbody_use named C2_ok at8 (l := 0) rfl (LoopsOk.none _ _) (F8_33_ok isz ico tk tr tb tx ts tp tf tn tw tm fk fr fb fx fs fp ff fn fw fm sh K) hS ha ((c8_D isz ico tk tr tb tx ts tp tf tn tw tm fk fr fb fx fs fp ff fn fw fm sh (fun u => K (.I .i64 u) [])).2.2.2.2.2.1 h)
  · exact cbody_use named C2_ok at8 (l := 0) rfl (LoopsOk.none _ _) (F8_34_ok isz ico tk tr tb tx ts tp tf tn tw tm fk fr fb fx fs fp ff fn fw fm sh K) hS ha ((c8_D isz ico tk tr tb tx ts tp tf tn tw tm fk fr fb fx fs fp ff fn fw fm sh (fun u => K (.I .i64 u) [])).2.2.2.2.2.2.1 h)
  · exact cbody_use named C2_ok at8 (l := 0) rfl (LoopsOk.none _ _) (F8_35_ok isz ico tk tr tb tx ts tp tf tn tw tm fk fr fb fx fs fp ff fn fw fm sh K) hS ha ((c8_D isz ico tk tr tb tx ts tp tf tn tw tm fk fr fb fx fs fp ff fn fw fm sh (fun u => K (.I .i64 u) [])).2.2.2.2.2.2.2 h)

def P8 : Prim := fun args m K =>
  let F := False
  (seeCons args F fun a1 q2 => (seeAgg a1 F fun vs3 => (seeCons vs3 F fun a4 q5 => (seeI .i64 a4 F fun iop => (seeCons q5 F fun a6 q7 => (seeI .i64 a6 F fun isz => (seeCons q7 F fun a8 q9 => (seeI .i64 a8 F fun ico => (seeCons q9 F fun a10 q11 => (seeI .i64 a10 F fun tk => (seeCons q11 F fun a12 q13 => (seeI .i64 a12 F fun tr => (seeCons q13 F fun a14 q15 => (seeI .i64 a14 F fun tb => (seeCons q15 F fun a16 q17 => (seeI .i64 a16 F fun tx => (seeCons q17 F fun a18 q19 => (seeI .i64 a18 F fun ts => (seeCons q19 F fun a20 q21 => (seeB a20 F fun tp => (seeCons q21 F fun a22 q23 => (seeB a22 F fun tf => (seeCons q23 F fun a24 q25 => (seeI .i64 a24 F fun tn => (seeCons q25 F fun a26 q27 => (seeS a26 F fun tw => (seeCons q27 F fun a28 q29 => (seeI .i64 a28 F fun tm => (seeCons q29 F fun a30 q31 => (seeI .i64 a30 F fun fk => (seeCons q31 F fun a32 q33 => (seeI .i64 a32 F fun fr => (seeCons q33 F fun a34 q35 => (seeI .i64 a34 F fun fb => (seeCons q35 F fun a36 q37 => (seeI .i64 a36 F fun fx => (seeCons q37 F fun a38 q39 => (seeI .i64 a38 F fun fs => (seeCons q39 F fun a40 q41 => (seeB a40 F fun fp => (seeCons q41 F fun a42 q43 => (seeB a42 F fun ff => (seeCons q43 F fun a44 q45 => (seeI .i64 a44 F fun fn => (seeCons q45 F fun a46 q47 => (seeS a46 F fun fw => (seeCons q47 F fun a48 q49 => (seeI .i64 a48 F fun fm => (seeCons q49 F fun a50 q51 => (seeB a50 F fun sh => (seeNil q51 F (seeNil q2 F (seeNil m F (K (.I .i64 (chkE iop isz ico tk tr tb tx ts tp tf tn tw tm fk fr fb fx fs fp ff fn fw fm sh)) []))))))))))))))))))))))))))))))))))))))))))))))))))))))
set_option maxRecDepth 100000 in
theorem P8_ok : PrimOk Tryz.prog 8 P8 := by
  intro args m K E w cargs hS ha h
  unfold P8 at h
  dsimp only at h
  replace h := seeCons_use h
  rcases h with h | ⟨a1, q2, rfl, h⟩
  · exact h.elim
  replace h := seeAgg_use h
  rcases h with h | ⟨vs3, rfl, h⟩
  · exact h.elim
  replace h := seeCons_use h
  rcases h with h | ⟨a4, q5, rfl, h⟩
  · exact h.elim
  replace h := seeI_use h
  rcases h with h | ⟨iop, rfl, h⟩
  · exact h.elim
  replace h := seeCons_use h
  rcases h with h | ⟨a6, q7, rfl, h⟩
  · exact h.elim
  replace h := seeI_use h
  rcases h with h | ⟨isz, rfl, h⟩
  · exact h.elim
  replace h := seeCons_use h
  rcases h with h | ⟨a8, q9, rfl, h⟩
  · exact h.elim
  replace h := seeI_use h
  rcases h with h | ⟨ico, rfl, h⟩
  · exact h.elim
  replace h := seeCons_use h
  rcases h with h | ⟨a10, q11, rfl, h⟩
  · exact h.elim
  replace h := seeI_use h
  rcases h with h | ⟨tk, rfl, h⟩
  · exact h.elim
  replace h := seeCons_use h
  rcases h with h | ⟨a12, q13, rfl, h⟩
  · exact h.elim
  replace h := seeI_use h
  rcases h with h | ⟨tr, rfl, h⟩
  · exact h.elim
  replace h := seeCons_use h
  rcases h with h | ⟨a14, q15, rfl, h⟩
  · exact h.elim
  replace h := seeI_use h
  rcases h with h | ⟨tb, rfl, h⟩
  · exact h.elim
  replace h := seeCons_use h
  rcases h with h | ⟨a16, q17, rfl, h⟩
  · exact h.elim
  replace h := seeI_use h
  rcases h with h | ⟨tx, rfl, h⟩
  · exact h.elim
  replace h := seeCons_use h
  rcases h with h | ⟨a18, q19, rfl, h⟩
  · exact h.elim
  replace h := seeI_use h
  rcases h with h | ⟨ts, rfl, h⟩
  · exact h.elim
  replace h := seeCons_use h
  rcases h with h | ⟨a20, q21, rfl, h⟩
  · exact h.elim
  replace h := seeB_use h
  rcases h with h | ⟨tp, rfl, h⟩
  · exact h.elim
  replace h := seeCons_use h
  rcases h with h | ⟨a22, q23, rfl, h⟩
  · exact h.elim
  replace h := seeB_use h
  rcases h with h | ⟨tf, rfl, h⟩
  · exact h.elim
  replace h := seeCons_use h
  rcases h with h | ⟨a24, q25, rfl, h⟩
  · exact h.elim
  replace h := seeI_use h
  rcases h with h | ⟨tn, rfl, h⟩
  · exact h.elim
  replace h := seeCons_use h
  rcases h with h | ⟨a26, q27, rfl, h⟩
  · exact h.elim
  replace h := seeS_use h
  rcases h with h | ⟨tw, rfl, h⟩
  · exact h.elim
  replace h := seeCons_use h
  rcases h with h | ⟨a28, q29, rfl, h⟩
  · exact h.elim
  replace h := seeI_use h
  rcases h with h | ⟨tm, rfl, h⟩
  · exact h.elim
  replace h := seeCons_use h
  rcases h with h | ⟨a30, q31, rfl, h⟩
  · exact h.elim
  replace h := seeI_use h
  rcases h with h | ⟨fk, rfl, h⟩
  · exact h.elim
  replace h := seeCons_use h
  rcases h with h | ⟨a32, q33, rfl, h⟩
  · exact h.elim
  replace h := seeI_use h
  rcases h with h | ⟨fr, rfl, h⟩
  · exact h.elim
  replace h := seeCons_use h
  rcases h with h | ⟨a34, q35, rfl, h⟩
  · exact h.elim
  replace h := seeI_use h
  rcases h with h | ⟨fb, rfl, h⟩
  · exact h.elim
  replace h := seeCons_use h
  rcases h with h | ⟨a36, q37, rfl, h⟩
  · exact h.elim
  replace h := seeI_use h
  rcases h with h | ⟨fx, rfl, h⟩
  · exact h.elim
  replace h := seeCons_use h
  rcases h with h | ⟨a38, q39, rfl, h⟩
  · exact h.elim
  replace h := seeI_use h
  rcases h with h | ⟨fs, rfl, h⟩
  · exact h.elim
  replace h := seeCons_use h
  rcases h with h | ⟨a40, q41, rfl, h⟩
  · exact h.elim
  replace h := seeB_use h
  rcases h with h | ⟨fp, rfl, h⟩
  · exact h.elim
  replace h := seeCons_use h
  rcases h with h | ⟨a42, q43, rfl, h⟩
  · exact h.elim
  replace h := seeB_use h
  rcases h with h | ⟨ff, rfl, h⟩
  · exact h.elim
  replace h := seeCons_use h
  rcases h with h | ⟨a44, q45, rfl, h⟩
  · exact h.elim
  replace h := seeI_use h
  rcases h with h | ⟨fn, rfl, h⟩
  · exact h.elim
  replace h := seeCons_use h
  rcases h with h | ⟨a46, q47, rfl, h⟩
  · exact h.elim
  replace h := seeS_use h
  rcases h with h | ⟨fw, rfl, h⟩
  · exact h.elim
  replace h := seeCons_use h
  rcases h with h | ⟨a48, q49, rfl, h⟩
  · exact h.elim
  replace h := seeI_use h
  rcases h with h | ⟨fm, rfl, h⟩
  · exact h.elim
  replace h := seeCons_use h
  rcases h with h | ⟨a50, q51, rfl, h⟩
  · exact h.elim
  replace h := seeB_use h
  rcases h with h | ⟨sh, rfl, h⟩
  · exact h.elim
  replace h := seeNil_use h
  rcases h with h | ⟨rfl, h⟩
  · exact h.elim
  replace h := seeNil_use h
  rcases h with h | ⟨rfl, h⟩
  · exact h.elim
  replace h := seeNil_use h
  rcases h with h | ⟨rfl, h⟩
  · exact h.elim
  exact H8 iop isz ico tk tr tb tx ts tp tf tn tw tm fk fr fb fx fs fp ff fn fw fm sh hS ha h
def prims3 : Prims := fun f =>
  match Nat.beq f 7 with
  | true => some P7
  | false =>   match Nat.beq f 8 with
  | true => some P8
  | false => prims2 f
theorem prims3_ok : PrimsOk Tryz.prog prims3 := by
  intro f g hg
  unfold prims3 at hg
  split at hg
  · rename_i hf
    obtain rfl := Nat.eq_of_beq_eq_true hf
    cases hg
    exact P7_ok
  · skip
    split at hg
    · rename_i hf
      obtain rfl := Nat.eq_of_beq_eq_true hf
      cases hg
      exact P8_ok
    · skip
      exact prims2_ok f g hg
def C3 : CC := call Tryz.prog prims3 1000
theorem C3_ok : CallsOk Tryz.prog C3 := call_sound named prims3_ok 1000

end Go.Proofs.YtkbijhfikkjhpaaGreatDoor.frm
