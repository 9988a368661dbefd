import Derived.Test.YtkbijhfikkjhpaaGreatDoorFrm8
import Derived.Test.YtkbijhfikkjhpaaGreatDoorFrmC
set_option linter.unusedVariables false
set_option linter.unusedSimpArgs false
set_option maxHeartbeats 0
set_option maxRecDepth 100000
namespace Go.Proofs.YtkbijhfikkjhpaaGreatDoor.frm
open Go Go.Ab
theorem c8_A (isz ico : Int) (tk tr tb tx ts : Int) (tp tf : Bool) (tn : Int) (tw : List Int) (tm : Int) (fk fr fb fx fs : Int) (fp ff : Bool) (fn : Int) (fw : List Int) (fm : Int) (sh : Bool) (k : Int → Prop) : (k (chkE 1 isz ico tk tr tb tx ts tp tf tn tw tm fk fr fb fx fs fp ff fn fw fm sh) → G8_1 isz ico tk tr tb tx ts tp tf tn tw tm fk fr fb fx fs fp ff fn fw fm sh (k 30) (k 0)) ∧
    (k (chkE 2 isz ico tk tr tb tx ts tp tf tn tw tm fk fr fb fx fs fp ff fn fw fm sh) → G8_2 isz ico tk tr tb tx ts tp tf tn tw tm fk fr fb fx fs fp ff fn fw fm sh (k 30) (k 0)) ∧
    (k (chkE 3 isz ico tk tr tb tx ts tp tf tn tw tm fk fr fb fx fs fp ff fn fw fm sh) → G8_3 isz ico tk tr tb tx ts tp tf tn tw tm fk fr fb fx fs fp ff fn fw fm sh (k 30) (k 0)) ∧
    (k (chkE 4 isz ico tk tr tb tx ts tp tf tn tw tm fk fr fb fx fs fp ff fn fw fm sh) → G8_4 isz ico tk tr tb tx ts tp tf tn tw tm fk fr fb fx fs fp ff fn fw fm sh (k 30) (k 0)) ∧
    (k (chkE 5 isz ico tk tr tb tx ts tp tf tn tw tm fk fr fb fx fs fp ff fn fw fm sh) → G8_5 isz ico tk tr tb tx ts tp tf tn tw tm fk fr fb fx fs fp ff fn fw fm sh (k 30) (k 0)) ∧
    (k (chkE 6 isz ico tk tr tb tx ts tp tf tn tw tm fk fr fb fx fs fp ff fn fw fm sh) → G8_6 isz ico tk tr tb tx ts tp tf tn tw tm fk fr fb fx fs fp ff fn fw fm sh (k 30) (k 0)) ∧
    (k (chkE 7 isz ico tk tr tb tx ts tp tf tn tw tm fk fr fb fx fs fp ff fn fw fm sh) → G8_7 isz ico tk tr tb tx ts tp tf tn tw tm fk fr fb fx fs fp ff fn fw fm sh (k 30) (k 0)) ∧
    (k (chkE 8 isz ico tk tr tb tx ts tp tf tn tw tm fk fr fb fx fs fp ff fn fw fm sh) → G8_8 isz ico tk tr tb tx ts tp tf tn tw tm fk fr fb fx fs fp ff fn fw fm sh (k 30) (k 0)) ∧
    (k (chkE 9 isz ico tk tr tb tx ts tp tf tn tw tm fk fr fb fx fs fp ff fn fw fm sh) → G8_9 isz ico tk tr tb tx ts tp tf tn tw tm fk fr fb fx fs fp ff fn fw fm sh (k 30) (k 0)) := by
  obtain ⟨x1, x2, x3, x4, x5, x6, x7, x8, x9⟩ := kinds tk tr tb tx ts tp tf tn tw tm
  obtain ⟨y1, y2, y3, y4, y5, y6, y7, y8, y9⟩ := kinds fk fr fb fx fs fp ff fn fw fm
  obtain ⟨u1, u2, u3, u4, u5⟩ := kindsK tk tr tb tx ts tp tf tn tw tm
  obtain ⟨v1, v2, v3, v4, v5⟩ := kindsK fk fr fb fx fs fp ff fn fw fm
  refine ⟨?_, ?_, ?_, ?_, ?_, ?_, ?_, ?_, ?_⟩ <;> intro h
  all_goals first | unfold G8_1 F8_1 | unfold G8_2 F8_2 | unfold G8_3 F8_3 | unfold G8_4 F8_4 | unfold G8_5 F8_5 | unfold G8_6 F8_6 | unfold G8_7 F8_7 | unfold G8_8 F8_8 | unfold G8_9 F8_9
  all_goals (try dsimp only)
  all_goals unfold chkE validB opsB sizeB condB at h
  all_goals generalize regB tk tr tb tx ts tp tf tn tw tm = rt at *
  all_goals generalize memB tk tr tb tx ts tp tf tn tw tm = mt at *
  all_goals generalize noneB tk tr tb tx ts tp tf tn tw tm = nt at *
  all_goals generalize tgtB tk tr tb tx ts tp tf tn tw tm = gt at *
  all_goals generalize regB fk fr fb fx fs fp ff fn fw fm = rf at *
  all_goals generalize memB fk fr fb fx fs fp ff fn fw fm = mf at *
  all_goals generalize immB fk fr fb fx fs fp ff fn fw fm = imf at *
  all_goals generalize noneB fk fr fb fx fs fp ff fn fw fm = nf at *
  all_goals generalize (tw == ([] : List Int)) = tw0 at *
  all_goals simp at h
  all_goals (repeat' refine cond_ind (fun _ => ?_) (fun _ => ?_)) <;> refine Eq.mp (congrArg k ?_) h <;> first | (simp_all [fitB, wideB]; done) | (simp_all [fitB, wideB]; grind) | (cases rt <;> cases mt <;> cases nt <;> cases gt <;> simp_all [fitB, wideB] <;> grind)
theorem c8_B (isz ico : Int) (tk tr tb tx ts : Int) (tp tf : Bool) (tn : Int) (tw : List Int) (tm : Int) (fk fr fb fx fs : Int) (fp ff : Bool) (fn : Int) (fw : List Int) (fm : Int) (sh : Bool) (k : Int → Prop) : (k (chkE 10 isz ico tk tr tb tx ts tp tf tn tw tm fk fr fb fx fs fp ff fn fw fm sh) → G8_10 isz ico tk tr tb tx ts tp tf tn tw tm fk fr fb fx fs fp ff fn fw fm sh (k 30) (k 0)) ∧
    (k (chkE 11 isz ico tk tr tb tx ts tp tf tn tw tm fk fr fb fx fs fp ff fn fw fm sh) → G8_11 isz ico tk tr tb tx ts tp tf tn tw tm fk fr fb fx fs fp ff fn fw fm sh (k 30) (k 0)) ∧
    (k (chkE 12 isz ico tk tr tb tx ts tp tf tn tw tm fk fr fb fx fs fp ff fn fw fm sh) → G8_12 isz ico tk tr tb tx ts tp tf tn tw tm fk fr fb fx fs fp ff fn fw fm sh (k 30) (k 0)) ∧
    (k (chkE 13 isz ico tk tr tb tx ts tp tf tn tw tm fk fr fb fx fs fp ff fn fw fm sh) → G8_13 isz ico tk tr tb tx ts tp tf tn tw tm fk fr fb fx fs fp ff fn fw fm sh (k 30) (k 0)) ∧
    (k (chkE 14 isz ico tk tr tb tx ts tp tf tn tw tm fk fr fb fx fs fp ff fn fw fm sh) → G8_14 isz ico tk tr tb tx ts tp tf tn tw tm fk fr fb fx fs fp ff fn fw fm sh (k 30) (k 0)) ∧
    (k (chkE 15 isz ico tk tr tb tx ts tp tf tn tw tm fk fr fb fx fs fp ff fn fw fm sh) → G8_15 isz ico tk tr tb tx ts tp tf tn tw tm fk fr fb fx fs fp ff fn fw fm sh (k 30) (k 0)) ∧
    (k (chkE 16 isz ico tk tr tb tx ts tp tf tn tw tm fk fr fb fx fs fp ff fn fw fm sh) → G8_16 isz ico tk tr tb tx ts tp tf tn tw tm fk fr fb fx fs fp ff fn fw fm sh (k 30) (k 0)) ∧
    (k (chkE 17 isz ico tk tr tb tx ts tp tf tn tw tm fk fr fb fx fs fp ff fn fw fm sh) → G8_17 isz ico tk tr tb tx ts tp tf tn tw tm fk fr fb fx fs fp ff fn fw fm sh (k 30) (k 0)) ∧
    (k (chkE 18 isz ico tk tr tb tx ts tp tf tn tw tm fk fr fb fx fs fp ff fn fw fm sh) → G8_18 isz ico tk tr tb tx ts tp tf tn tw tm fk fr fb fx fs fp ff fn fw fm sh (k 30) (k 0)) := by
  obtain ⟨x1, x2, x3, x4, x5, x6, x7, x8, x9⟩ := kinds tk tr tb tx ts tp tf tn tw tm
  obtain ⟨y1, y2, y3, y4, y5, y6, y7, y8, y9⟩ := kinds fk fr fb fx fs fp ff fn fw fm
  obtain ⟨u1, u2, u3, u4, u5⟩ := kindsK tk tr tb tx ts tp tf tn tw tm
  obtain ⟨v1, v2, v3, v4, v5⟩ := kindsK fk fr fb fx fs fp ff fn fw fm
  refine ⟨?_, ?_, ?_, ?_, ?_, ?_, ?_, ?_, ?_⟩ <;> intro h
  all_goals first | unfold G8_10 F8_10 | unfold G8_11 F8_11 | unfold G8_12 F8_12 | unfold G8_13 F8_13 | unfold G8_14 F8_14 | unfold G8_15 F8_15 | unfold G8_16 F8_16 | unfold G8_17 F8_17 | unfold G8_18 F8_18
  all_goals (try dsimp only)
  all_goals unfold chkE validB opsB sizeB condB at h
  all_goals generalize regB tk tr tb tx ts tp tf tn tw tm = rt at *
  all_goals generalize memB tk tr tb tx ts tp tf tn tw tm = mt at *
  all_goals generalize noneB tk tr tb tx ts tp tf tn tw tm = nt at *
  all_goals generalize tgtB tk tr tb tx ts tp tf tn tw tm = gt at *
  all_goals generalize regB fk fr fb fx fs fp ff fn fw fm = rf at *
  all_goals generalize memB fk fr fb fx fs fp ff fn fw fm = mf at *
  all_goals generalize immB fk fr fb fx fs fp ff fn fw fm = imf at *
  all_goals generalize noneB fk fr fb fx fs fp ff fn fw fm = nf at *
  all_goals generalize (tw == ([] : List Int)) = tw0 at *
  all_goals simp at h
  all_goals (repeat' refine cond_ind (fun _ => ?_) (fun _ => ?_)) <;> refine Eq.mp (congrArg k ?_) h <;> first | (simp_all [fitB, wideB]; done) | (simp_all [fitB, wideB]; grind) | (cases rt <;> cases mt <;> cases nt <;> cases gt <;> simp_all [fitB, wideB] <;> grind)
theorem c8_C (isz ico : Int) (tk tr tb tx ts : Int) (tp tf : Bool) (tn : Int) (tw : List Int) (tm : Int) (fk fr fb fx fs : Int) (fp ff : Bool) (fn : Int) (fw : List Int) (fm : Int) (sh : Bool) (k : Int → Prop) : (k (chkE 19 isz ico tk tr tb tx ts tp tf tn tw tm fk fr fb fx fs fp ff fn fw fm sh) → G8_19 isz ico tk tr tb tx ts tp tf tn tw tm fk fr fb fx fs fp ff fn fw fm sh (k 30) (k 0)) ∧
    (k (chkE 20 isz ico tk tr tb tx ts tp tf tn tw tm fk fr fb fx fs fp ff fn fw fm sh) → G8_20 isz ico tk tr tb tx ts tp tf tn tw tm fk fr fb fx fs fp ff fn fw fm sh (k 30) (k 0)) ∧
    (k (chkE 21 isz ico tk tr tb tx ts tp tf tn tw tm fk fr fb fx fs fp ff fn fw fm sh) → G8_21 isz ico tk tr tb tx ts tp tf tn tw tm fk fr fb fx fs fp ff fn fw fm sh (k 30) (k 0)) ∧
    (k (chkE 22 isz ico tk tr tb tx ts tp tf tn tw tm fk fr fb fx fs fp ff fn fw fm sh) → G8_22 isz ico tk tr tb tx ts tp tf tn tw tm fk fr fb fx fs fp ff fn fw fm sh (k 30) (k 0)) ∧
    (k (chkE 23 isz ico tk tr tb tx ts tp tf tn tw tm fk fr fb fx fs fp ff fn fw fm sh) → G8_23 isz ico tk tr tb tx ts tp tf tn tw tm fk fr fb fx fs fp ff fn fw fm sh (k 30) (k 0)) ∧
    (k (chkE 24 isz ico tk tr tb tx ts tp tf tn tw tm fk fr fb fx fs fp ff fn fw fm sh) → G8_24 isz ico tk tr tb tx ts tp tf tn tw tm fk fr fb fx fs fp ff fn fw fm sh (k 30) (k 0)) ∧
    (k (chkE 25 isz ico tk tr tb tx ts tp tf tn tw tm fk fr fb fx fs fp ff fn fw fm sh) → G8_25 isz ico tk tr tb tx ts tp tf tn tw tm fk fr fb fx fs fp ff fn fw fm sh (k 30) (k 0)) ∧
    (k (chkE 26 isz ico tk tr tb tx ts tp tf tn tw tm fk fr fb fx fs fp ff fn fw fm sh) → G8_26 isz ico tk tr tb tx ts tp tf tn tw tm fk fr fb fx fs fp ff fn fw fm sh (k 30) (k 0)) ∧
    (k (chkE 27 isz ico tk tr tb tx ts tp tf tn tw tm fk fr fb fx fs fp ff fn fw fm sh) → G8_27 isz ico tk tr tb tx ts tp tf tn tw tm fk fr fb fx fs fp ff fn fw fm sh (k 30) (k 0)) := by
  obtain ⟨x1, x2, x3, x4, x5, x6, x7, x8, x9⟩ := kinds tk tr tb tx ts tp tf tn tw tm
  obtain ⟨y1, y2, y3, y4, y5, y6, y7, y8, y9⟩ := kinds fk fr fb fx fs fp ff fn fw fm
  obtain ⟨u1, u2, u3, u4, u5⟩ := kindsK tk tr tb tx ts tp tf tn tw tm
  obtain ⟨v1, v2, v3, v4, v5⟩ := kindsK fk fr fb fx fs fp ff fn fw fm
  refine ⟨?_, ?_, ?_, ?_, ?_, ?_, ?_, ?_, ?_⟩ <;> intro h
  all_goals first | unfold G8_19 F8_19 | unfold G8_20 F8_20 | unfold G8_21 F8_21 | unfold G8_22 F8_22 | unfold G8_23 F8_23 | unfold G8_24 F8_24 | unfold G8_25 F8_25 | unfold G8_26 F8_26 | unfold G8_27 F8_27
  all_goals (try dsimp only)
  all_goals unfold chkE validB opsB sizeB condB at h
  all_goals generalize regB tk tr tb tx ts tp tf tn tw tm = rt at *
  all_goals generalize memB tk tr tb tx ts tp tf tn tw tm = mt at *
  all_goals generalize noneB tk tr tb tx ts tp tf tn tw tm = nt at *
  all_goals generalize tgtB tk tr tb tx ts tp tf tn tw tm = gt at *
  all_goals generalize regB fk fr fb fx fs fp ff fn fw fm = rf at *
  all_goals generalize memB fk fr fb fx fs fp ff fn fw fm = mf at *
  all_goals generalize immB fk fr fb fx fs fp ff fn fw fm = imf at *
  all_goals generalize noneB fk fr fb fx fs fp ff fn fw fm = nf at *
  all_goals generalize (tw == ([] : List Int)) = tw0 at *
  all_goals simp at h
  all_goals (repeat' refine cond_ind (fun _ => ?_) (fun _ => ?_)) <;> refine Eq.mp (congrArg k ?_) h <;> first | (simp_all [fitB, wideB]; done) | (simp_all [fitB, wideB]; grind) | (cases rt <;> cases mt <;> cases nt <;> cases gt <;> simp_all [fitB, wideB] <;> grind)
theorem c8_D (isz ico : Int) (tk tr tb tx ts : Int) (tp tf : Bool) (tn : Int) (tw : List Int) (tm : Int) (fk fr fb fx fs : Int) (fp ff : Bool) (fn : Int) (fw : List Int) (fm : Int) (sh : Bool) (k : Int → Prop) : (k (chkE 28 isz ico tk tr tb tx ts tp tf tn tw tm fk fr fb fx fs fp ff fn fw fm sh) → G8_28 isz ico tk tr tb tx ts tp tf tn tw tm fk fr fb fx fs fp ff fn fw fm sh (k 30) (k 0)) ∧
    (k (chkE 29 isz ico tk tr tb tx ts tp tf tn tw tm fk fr fb fx fs fp ff fn fw fm sh) → G8_29 isz ico tk tr tb tx ts tp tf tn tw tm fk fr fb fx fs fp ff fn fw fm sh (k 30) (k 0)) ∧
    (k (chkE 30 isz ico tk tr tb tx ts tp tf tn tw tm fk fr fb fx fs fp ff fn fw fm sh) → G8_30 isz ico tk tr tb tx ts tp tf tn tw tm fk fr fb fx fs fp ff fn fw fm sh (k 30) (k 0)) ∧
    (k (chkE 31 isz ico tk tr tb tx ts tp tf tn tw tm fk fr fb fx fs fp ff fn fw fm sh) → G8_31 isz ico tk tr tb tx ts tp tf tn tw tm fk fr fb fx fs fp ff fn fw fm sh (k 30) (k 0)) ∧
    (k (chkE 32 isz ico tk tr tb tx ts tp tf tn tw tm fk fr fb fx fs fp ff fn fw fm sh) → G8_32 isz ico tk tr tb tx ts tp tf tn tw tm fk fr fb fx fs fp ff fn fw fm sh (k 30) (k 0)) ∧
    (k (chkE 33 isz ico tk tr tb tx ts tp tf tn tw tm fk fr fb fx fs fp ff fn fw fm sh) → G8_33 isz ico tk tr tb tx ts tp tf tn tw tm fk fr fb fx fs fp ff fn fw fm sh (k 30) (k 0)) ∧
    (k (chkE 34 isz ico tk tr tb tx ts tp tf tn tw tm fk fr fb fx fs fp ff fn fw fm sh) → G8_34 isz ico tk tr tb tx ts tp tf tn tw tm fk fr fb fx fs fp ff fn fw fm sh (k 30) (k 0)) ∧
    (k (chkE 35 isz ico tk tr tb tx ts tp tf tn tw tm fk fr fb fx fs fp ff fn fw fm sh) → G8_35 isz ico tk tr tb tx ts tp tf tn tw tm fk fr fb fx fs fp ff fn fw fm sh (k 30) (k 0)) := by
  obtain ⟨x1, x2, x3, x4, x5, x6, x7, x8, x9⟩ := kinds tk tr tb tx ts tp tf tn tw tm
  obtain ⟨y1, y2, y3, y4, y5, y6, y7, y8, y9⟩ := kinds fk fr fb fx fs fp ff fn fw fm
  obtain ⟨u1, u2, u3, u4, u5⟩ := kindsK tk tr tb tx ts tp tf tn tw tm
  obtain ⟨v1, v2, v3, v4, v5⟩ := kindsK fk fr fb fx fs fp ff fn fw fm
  refine ⟨?_, ?_, ?_, ?_, ?_, ?_, ?_, ?_⟩ <;> intro h
  all_goals first | unfold G8_28 F8_28 | unfold G8_29 F8_29 | unfold G8_30 F8_30 | unfold G8_31 F8_31 | unfold G8_32 F8_32 | unfold G8_33 F8_33 | unfold G8_34 F8_34 | unfold G8_35 F8_35
  all_goals (try dsimp only)
  all_goals unfold chkE validB opsB sizeB condB at h
  all_goals generalize regB tk tr tb tx ts tp tf tn tw tm = rt at *
  all_goals generalize memB tk tr tb tx ts tp tf tn tw tm = mt at *
  all_goals generalize noneB tk tr tb tx ts tp tf tn tw tm = nt at *
  all_goals generalize tgtB tk tr tb tx ts tp tf tn tw tm = gt at *
  all_goals generalize regB fk fr fb fx fs fp ff fn fw fm = rf at *
  all_goals generalize memB fk fr fb fx fs fp ff fn fw fm = mf at *
  all_goals generalize immB fk fr fb fx fs fp ff fn fw fm = imf at *
  all_goals generalize noneB fk fr fb fx fs fp ff fn fw fm = nf at *
  all_goals generalize (tw == ([] : List Int)) = tw0 at *
  all_goals simp at h
  all_goals (repeat' refine cond_ind (fun _ => ?_) (fun _ => ?_)) <;> refine Eq.mp (congrArg k ?_) h <;> first | (simp_all [fitB, wideB]; done) | (simp_all [fitB, wideB]; grind) | (cases rt <;> cases mt <;> cases nt <;> cases gt <;> simp_all [fitB, wideB] <;> grind)
end Go.Proofs.YtkbijhfikkjhpaaGreatDoor.frm
