import Derived.Test.YtkbijhfikkjhpaaGreatDoorFrm6
import Derived.Test.YtkbijhfikkjhpaaGreatDoorFrmC
set_option linter.unusedVariables false
set_option linter.unusedSimpArgs false
set_option maxHeartbeats 0
set_option maxRecDepth 100000
namespace Go.Proofs.YtkbijhfikkjhpaaGreatDoor.frm
open Go Go.Ab
theorem c7_A (isz ico : Int) (tk tr tb tx ts : Int) (tp tf : Bool) (tn : Int) (tw : List Int) (tm : Int) (fk fr fb fx fs : Int) (fp ff : Bool) (fn : Int) (fw : List Int) (fm : Int) (sh : Bool) (k : Int → Prop) : (k (chkE 1 isz ico tk tr tb tx ts tp tf tn tw tm fk fr fb fx fs fp ff fn fw fm sh) → G7_1 isz ico tk tr tb tx ts tp tf tn tw tm fk fr fb fx fs fp ff fn fw fm sh (k 30) (k 0)) ∧
    (k (chkE 2 isz ico tk tr tb tx ts tp tf tn tw tm fk fr fb fx fs fp ff fn fw fm sh) → G7_2 isz ico tk tr tb tx ts tp tf tn tw tm fk fr fb fx fs fp ff fn fw fm sh (k 30) (k 0)) ∧
    (k (chkE 3 isz ico tk tr tb tx ts tp tf tn tw tm fk fr fb fx fs fp ff fn fw fm sh) → G7_3 isz ico tk tr tb tx ts tp tf tn tw tm fk fr fb fx fs fp ff fn fw fm sh (k 30) (k 0)) ∧
    (k (chkE 4 isz ico tk tr tb tx ts tp tf tn tw tm fk fr fb fx fs fp ff fn fw fm sh) → G7_4 isz ico tk tr tb tx ts tp tf tn tw tm fk fr fb fx fs fp ff fn fw fm sh (k 30) (k 0)) ∧
    (k (chkE 5 isz ico tk tr tb tx ts tp tf tn tw tm fk fr fb fx fs fp ff fn fw fm sh) → G7_5 isz ico tk tr tb tx ts tp tf tn tw tm fk fr fb fx fs fp ff fn fw fm sh (k 30) (k 0)) ∧
    (k (chkE 6 isz ico tk tr tb tx ts tp tf tn tw tm fk fr fb fx fs fp ff fn fw fm sh) → G7_6 isz ico tk tr tb tx ts tp tf tn tw tm fk fr fb fx fs fp ff fn fw fm sh (k 30) (k 0)) ∧
    (k (chkE 7 isz ico tk tr tb tx ts tp tf tn tw tm fk fr fb fx fs fp ff fn fw fm sh) → G7_7 isz ico tk tr tb tx ts tp tf tn tw tm fk fr fb fx fs fp ff fn fw fm sh (k 30) (k 0)) ∧
    (k (chkE 8 isz ico tk tr tb tx ts tp tf tn tw tm fk fr fb fx fs fp ff fn fw fm sh) → G7_8 isz ico tk tr tb tx ts tp tf tn tw tm fk fr fb fx fs fp ff fn fw fm sh (k 30) (k 0)) ∧
    (k (chkE 9 isz ico tk tr tb tx ts tp tf tn tw tm fk fr fb fx fs fp ff fn fw fm sh) → G7_9 isz ico tk tr tb tx ts tp tf tn tw tm fk fr fb fx fs fp ff fn fw fm sh (k 30) (k 0)) := by
  obtain ⟨x1, x2, x3, x4, x5, x6, x7, x8, x9⟩ := kinds tk tr tb tx ts tp tf tn tw tm
  obtain ⟨y1, y2, y3, y4, y5, y6, y7, y8, y9⟩ := kinds fk fr fb fx fs fp ff fn fw fm
  obtain ⟨u1, u2, u3, u4, u5⟩ := kindsK tk tr tb tx ts tp tf tn tw tm
  obtain ⟨v1, v2, v3, v4, v5⟩ := kindsK fk fr fb fx fs fp ff fn fw fm
  refine ⟨?_, ?_, ?_, ?_, ?_, ?_, ?_, ?_, ?_⟩ <;> intro h
  all_goals first | unfold G7_1 F7_1 | unfold G7_2 F7_2 | unfold G7_3 F7_3 | unfold G7_4 F7_4 | unfold G7_5 F7_5 | unfold G7_6 F7_6 | unfold G7_7 F7_7 | unfold G7_8 F7_8 | unfold G7_9 F7_9
  all_goals (try dsimp only)
  all_goals unfold chkE validB opsB sizeB condB at h
  all_goals generalize regB tk tr tb tx ts tp tf tn tw tm = rt at *
  all_goals generalize memB tk tr tb tx ts tp tf tn tw tm = mt at *
  all_goals generalize noneB tk tr tb tx ts tp tf tn tw tm = nt at *
  all_goals generalize tgtB tk tr tb tx ts tp tf tn tw tm = gt at *
  all_goals generalize regB fk fr fb fx fs fp ff fn fw fm = rf at *
  all_goals generalize memB fk fr fb fx fs fp ff fn fw fm = mf at *
  all_goals generalize immB fk fr fb fx fs fp ff fn fw fm = imf at *
  all_goals generalize noneB fk fr fb fx fs fp ff fn fw fm = nf at *
  all_goals generalize (tw == ([] : List Int)) = tw0 at *
  all_goals simp at h
  all_goals (repeat' refine cond_ind (fun _ => ?_) (fun _ => ?_)) <;> refine Eq.mp (congrArg k ?_) h <;> first | (simp_all [fitB, wideB]; done) | (simp_all [fitB, wideB]; grind) | (cases rt <;> cases mt <;> cases nt <;> cases gt <;> simp_all [fitB, wideB] <;> grind)
theorem c7_B (isz ico : Int) (tk tr tb tx ts : Int) (tp tf : Bool) (tn : Int) (tw : List Int) (tm : Int) (fk fr fb fx fs : Int) (fp ff : Bool) (fn : Int) (fw : List Int) (fm : Int) (sh : Bool) (k : Int → Prop) : (k (chkE 10 isz ico tk tr tb tx ts tp tf tn tw tm fk fr fb fx fs fp ff fn fw fm sh) → G7_10 isz ico tk tr tb tx ts tp tf tn tw tm fk fr fb fx fs fp ff fn fw fm sh (k 30) (k 0)) ∧
    (k (chkE 11 isz ico tk tr tb tx ts tp tf tn tw tm fk fr fb fx fs fp ff fn fw fm sh) → G7_11 isz ico tk tr tb tx ts tp tf tn tw tm fk fr fb fx fs fp ff fn fw fm sh (k 30) (k 0)) ∧
    (k (chkE 12 isz ico tk tr tb tx ts tp tf tn tw tm fk fr fb fx fs fp ff fn fw fm sh) → G7_12 isz ico tk tr tb tx ts tp tf tn tw tm fk fr fb fx fs fp ff fn fw fm sh (k 30) (k 0)) ∧
    (k (chkE 13 isz ico tk tr tb tx ts tp tf tn tw tm fk fr fb fx fs fp ff fn fw fm sh) → G7_13 isz ico tk tr tb tx ts tp tf tn tw tm fk fr fb fx fs fp ff fn fw fm sh (k 30) (k 0)) ∧
    (k (chkE 14 isz ico tk tr tb tx ts tp tf tn tw tm fk fr fb fx fs fp ff fn fw fm sh) → G7_14 isz ico tk tr tb tx ts tp tf tn tw tm fk fr fb fx fs fp ff fn fw fm sh (k 30) (k 0)) ∧
    (k (chkE 15 isz ico tk tr tb tx ts tp tf tn tw tm fk fr fb fx fs fp ff fn fw fm sh) → G7_15 isz ico tk tr tb tx ts tp tf tn tw tm fk fr fb fx fs fp ff fn fw fm sh (k 30) (k 0)) ∧
    (k (chkE 16 isz ico tk tr tb tx ts tp tf tn tw tm fk fr fb fx fs fp ff fn fw fm sh) → G7_16 isz ico tk tr tb tx ts tp tf tn tw tm fk fr fb fx fs fp ff fn fw fm sh (k 30) (k 0)) ∧
    (k (chkE 17 isz ico tk tr tb tx ts tp tf tn tw tm fk fr fb fx fs fp ff fn fw fm sh) → G7_17 isz ico tk tr tb tx ts tp tf tn tw tm fk fr fb fx fs fp ff fn fw fm sh (k 30) (k 0)) ∧
    (k (chkE 18 isz ico tk tr tb tx ts tp tf tn tw tm fk fr fb fx fs fp ff fn fw fm sh) → G7_18 isz ico tk tr tb tx ts tp tf tn tw tm fk fr fb fx fs fp ff fn fw fm sh (k 30) (k 0)) := by
  obtain ⟨x1, x2, x3, x4, x5, x6, x7, x8, x9⟩ := kinds tk tr tb tx ts tp tf tn tw tm
  obtain ⟨y1, y2, y3, y4, y5, y6, y7, y8, y9⟩ := kinds fk fr fb fx fs fp ff fn fw fm
  obtain ⟨u1, u2, u3, u4, u5⟩ := kindsK tk tr tb tx ts tp tf tn tw tm
  obtain ⟨v1, v2, v3, v4, v5⟩ := kindsK fk fr fb fx fs fp ff fn fw fm
  refine ⟨?_, ?_, ?_, ?_, ?_, ?_, ?_, ?_, ?_⟩ <;> intro h
  all_goals first | unfold G7_10 F7_10 | unfold G7_11 F7_11 | unfold G7_12 F7_12 | unfold G7_13 F7_13 | unfold G7_14 F7_14 | unfold G7_15 F7_15 | unfold G7_16 F7_16 | unfold G7_17 F7_17 | unfold G7_18 F7_18
  all_goals (try dsimp only)
  all_goals unfold chkE validB opsB sizeB condB at h
  all_goals generalize regB tk tr tb tx ts tp tf tn tw tm = rt at *
  all_goals generalize memB tk tr tb tx ts tp tf tn tw tm = mt at *
  all_goals generalize noneB tk tr tb tx ts tp tf tn tw tm = nt at *
  all_goals generalize tgtB tk tr tb tx ts tp tf tn tw tm = gt at *
  all_goals generalize regB fk fr fb fx fs fp ff fn fw fm = rf at *
  all_goals generalize memB fk fr fb fx fs fp ff fn fw fm = mf at *
  all_goals generalize immB fk fr fb fx fs fp ff fn fw fm = imf at *
  all_goals generalize noneB fk fr fb fx fs fp ff fn fw fm = nf at *
  all_goals generalize (tw == ([] : List Int)) = tw0 at *
  all_goals simp at h
  all_goals (repeat' refine cond_ind (fun _ => ?_) (fun _ => ?_)) <;> refine Eq.mp (congrArg k ?_) h <;> first | (simp_all [fitB, wideB]; done) | (simp_all [fitB, wideB]; grind) | (cases rt <;> cases mt <;> cases nt <;> cases gt <;> simp_all [fitB, wideB] <;> grind)
theorem c7_C (isz ico : Int) (tk tr tb tx ts : Int) (tp tf : Bool) (tn : Int) (tw : List Int) (tm : Int) (fk fr fb fx fs : Int) (fp ff : Bool) (fn : Int) (fw : List Int) (fm : Int) (sh : Bool) (k : Int → Prop) : (k (chkE 19 isz ico tk tr tb tx ts tp tf tn tw tm fk fr fb fx fs fp ff fn fw fm sh) → G7_19 isz ico tk tr tb tx ts tp tf tn tw tm fk fr fb fx fs fp ff fn fw fm sh (k 30) (k 0)) ∧
    (k (chkE 20 isz ico tk tr tb tx ts tp tf tn tw tm fk fr fb fx fs fp ff fn fw fm sh) → G7_20 isz ico tk tr tb tx ts tp tf tn tw tm fk fr fb fx fs fp ff fn fw fm sh (k 30) (k 0)) ∧
    (k (chkE 21 isz ico tk tr tb tx ts tp tf tn tw tm fk fr fb fx fs fp ff fn fw fm sh) → G7_21 isz ico tk tr tb tx ts tp tf tn tw tm fk fr fb fx fs fp ff fn fw fm sh (k 30) (k 0)) ∧
    (k (chkE 22 isz ico tk tr tb tx ts tp tf tn tw tm fk fr fb fx fs fp ff fn fw fm sh) → G7_22 isz ico tk tr tb tx ts tp tf tn tw tm fk fr fb fx fs fp ff fn fw fm sh (k 30) (k 0)) ∧
    (k (chkE 23 isz ico tk tr tb tx ts tp tf tn tw tm fk fr fb fx fs fp ff fn fw fm sh) → G7_23 isz ico tk tr tb tx ts tp tf tn tw tm fk fr fb fx fs fp ff fn fw fm sh (k 30) (k 0)) ∧
    (k (chkE 24 isz ico tk tr tb tx ts tp tf tn tw tm fk fr fb fx fs fp ff fn fw fm sh) → G7_24 isz ico tk tr tb tx ts tp tf tn tw tm fk fr fb fx fs fp ff fn fw fm sh (k 30) (k 0)) ∧
    (k (chkE 25 isz ico tk tr tb tx ts tp tf tn tw tm fk fr fb fx fs fp ff fn fw fm sh) → G7_25 isz ico tk tr tb tx ts tp tf tn tw tm fk fr fb fx fs fp ff fn fw fm sh (k 30) (k 0)) ∧
    (k (chkE 26 isz ico tk tr tb tx ts tp tf tn tw tm fk fr fb fx fs fp ff fn fw fm sh) → G7_26 isz ico tk tr tb tx ts tp tf tn tw tm fk fr fb fx fs fp ff fn fw fm sh (k 30) (k 0)) ∧
    (k (chkE 27 isz ico tk tr tb tx ts tp tf tn tw tm fk fr fb fx fs fp ff fn fw fm sh) → G7_27 isz ico tk tr tb tx ts tp tf tn tw tm fk fr fb fx fs fp ff fn fw fm sh (k 30) (k 0)) := by
  obtain ⟨x1, x2, x3, x4, x5, x6, x7, x8, x9⟩ := kinds tk tr tb tx ts tp tf tn tw tm
  obtain ⟨y1, y2, y3, y4, y5, y6, y7, y8, y9⟩ := kinds fk fr fb fx fs fp ff fn fw fm
  obtain ⟨u1, u2, u3, u4, u5⟩ := kindsK tk tr tb tx ts tp tf tn tw tm
  obtain ⟨v1, v2, v3, v4, v5⟩ := kindsK fk fr fb fx fs fp ff fn fw fm
  refine ⟨?_, ?_, ?_, ?_, ?_, ?_, ?_, ?_, ?_⟩ <;> intro h
  all_goals first | unfold G7_19 F7_19 | unfold G7_20 F7_20 | unfold G7_21 F7_21 | unfold G7_22 F7_22 | unfold G7_23 F7_23 | unfold G7_24 F7_24 | unfold G7_25 F7_25 | unfold G7_26 F7_26 | unfold G7_27 F7_27
  all_goals (try dsimp only)
  all_goals unfold chkE validB opsB sizeB condB at h
  all_goals generalize regB tk tr tb tx ts tp tf tn tw tm = rt at *
  all_goals generalize memB tk tr tb tx ts tp tf tn tw tm = mt at *
  all_goals generalize noneB tk tr tb tx ts tp tf tn tw tm = nt at *
  all_goals generalize tgtB tk tr tb tx ts tp tf tn tw tm = gt at *
  all_goals generalize regB fk fr fb fx fs fp ff fn fw fm = rf at *
  all_goals generalize memB fk fr fb fx fs fp ff fn fw fm = mf at *
  all_goals generalize immB fk fr fb fx fs fp ff fn fw fm = imf at *
  all_goals generalize noneB fk fr fb fx fs fp ff fn fw fm = nf at *
  all_goals generalize (tw == ([] : List Int)) = tw0 at *
  all_goals simp at h
  all_goals (repeat' refine cond_ind (fun _ => ?_) (fun _ => ?_)) <;> refine Eq.mp (congrArg k ?_) h <;> first | (simp_all [fitB, wideB]; done) | (simp_all [fitB, wideB]; grind) | (cases rt <;> cases mt <;> cases nt <;> cases gt <;> simp_all [fitB, wideB] <;> grind)
theorem c7_D (isz ico : Int) (tk tr tb tx ts : Int) (tp tf : Bool) (tn : Int) (tw : List Int) (tm : Int) (fk fr fb fx fs : Int) (fp ff : Bool) (fn : Int) (fw : List Int) (fm : Int) (sh : Bool) (k : Int → Prop) : (k (chkE 28 isz ico tk tr tb tx ts tp tf tn tw tm fk fr fb fx fs fp ff fn fw fm sh) → G7_28 isz ico tk tr tb tx ts tp tf tn tw tm fk fr fb fx fs fp ff fn fw fm sh (k 30) (k 0)) ∧
    (k (chkE 29 isz ico tk tr tb tx ts tp tf tn tw tm fk fr fb fx fs fp ff fn fw fm sh) → G7_29 isz ico tk tr tb tx ts tp tf tn tw tm fk fr fb fx fs fp ff fn fw fm sh (k 30) (k 0)) ∧
    (k (chkE 30 isz ico tk tr tb tx ts tp tf tn tw tm fk fr fb fx fs fp ff fn fw fm sh) → G7_30 isz ico tk tr tb tx ts tp tf tn tw tm fk fr fb fx fs fp ff fn fw fm sh (k 30) (k 0)) ∧
    (k (chkE 31 isz ico tk tr tb tx ts tp tf tn tw tm fk fr fb fx fs fp ff fn fw fm sh) → G7_31 isz ico tk tr tb tx ts tp tf tn tw tm fk fr fb fx fs fp ff fn fw fm sh (k 30) (k 0)) ∧
    (k (chkE 32 isz ico tk tr tb tx ts tp tf tn tw tm fk fr fb fx fs fp ff fn fw fm sh) → G7_32 isz ico tk tr tb tx ts tp tf tn tw tm fk fr fb fx fs fp ff fn fw fm sh (k 30) (k 0)) ∧
    (k (chkE 33 isz ico tk tr tb tx ts tp tf tn tw tm fk fr fb fx fs fp ff fn fw fm sh) → G7_33 isz ico tk tr tb tx ts tp tf tn tw tm fk fr fb fx fs fp ff fn fw fm sh (k 30) (k 0)) ∧
    (k (chkE 34 isz ico tk tr tb tx ts tp tf tn tw tm fk fr fb fx fs fp ff fn fw fm sh) → G7_34 isz ico tk tr tb tx ts tp tf tn tw tm fk fr fb fx fs fp ff fn fw fm sh (k 30) (k 0)) ∧
    (k (chkE 35 isz ico tk tr tb tx ts tp tf tn tw tm fk fr fb fx fs fp ff fn fw fm sh) → G7_35 isz ico tk tr tb tx ts tp tf tn tw tm fk fr fb fx fs fp ff fn fw fm sh (k 30) (k 0)) := by
  obtain ⟨x1, x2, x3, x4, x5, x6, x7, x8, x9⟩ := kinds tk tr tb tx ts tp tf tn tw tm
  obtain ⟨y1, y2, y3, y4, y5, y6, y7, y8, y9⟩ := kinds fk fr fb fx fs fp ff fn fw fm
  obtain ⟨u1, u2, u3, u4, u5⟩ := kindsK tk tr tb tx ts tp tf tn tw tm
  obtain ⟨v1, v2, v3, v4, v5⟩ := kindsK fk fr fb fx fs fp ff fn fw fm
  refine ⟨?_, ?_, ?_, ?_, ?_, ?_, ?_, ?_⟩ <;> intro h
  all_goals first | unfold G7_28 F7_28 | unfold G7_29 F7_29 | unfold G7_30 F7_30 | unfold G7_31 F7_31 | unfold G7_32 F7_32 | unfold G7_33 F7_33 | unfold G7_34 F7_34 | unfold G7_35 F7_35
  all_goals (try dsimp only)
  all_goals unfold chkE validB opsB sizeB condB at h
  all_goals generalize regB tk tr tb tx ts tp tf tn tw tm = rt at *
  all_goals generalize memB tk tr tb tx ts tp tf tn tw tm = mt at *
  all_goals generalize noneB tk tr tb tx ts tp tf tn tw tm = nt at *
  all_goals generalize tgtB tk tr tb tx ts tp tf tn tw tm = gt at *
  all_goals generalize regB fk fr fb fx fs fp ff fn fw fm = rf at *
  all_goals generalize memB fk fr fb fx fs fp ff fn fw fm = mf at *
  all_goals generalize immB fk fr fb fx fs fp ff fn fw fm = imf at *
  all_goals generalize noneB fk fr fb fx fs fp ff fn fw fm = nf at *
  all_goals generalize (tw == ([] : List Int)) = tw0 at *
  all_goals simp at h
  all_goals (repeat' refine cond_ind (fun _ => ?_) (fun _ => ?_)) <;> refine Eq.mp (congrArg k ?_) h <;> first | (simp_all [fitB, wideB]; done) | (simp_all [fitB, wideB]; grind) | (cases rt <;> cases mt <;> cases nt <;> cases gt <;> simp_all [fitB, wideB] <;> grind)
end Go.Proofs.YtkbijhfikkjhpaaGreatDoor.frm
