import Derived.Test.YtaajhdkngiemlaaDoorFrm7
import Derived.Test.YtaajhdkngiemlaaDoorFrmC
set_option linter.unusedVariables false
set_option linter.unusedSimpArgs false
set_option maxHeartbeats 0
set_option maxRecDepth 100000
namespace Go.Proofs.YtaajhdkngiemlaaDoor.frm
open Go Go.Ab
theorem c24_A (isz ico : Int) (tk tr tb tx ts : Int) (tp tf : Bool) (tn : Int) (tw : List Int) (tm : Int) (fk fr fb fx fs : Int) (fp ff : Bool) (fn : Int) (fw : List Int) (fm : Int) (sh : Bool) (k : Int → Prop) : (k (chkE 1 isz ico tk tr tb tx ts tp tf tn tw tm fk fr fb fx fs fp ff fn fw fm sh) → G24_1 isz ico tk tr tb tx ts tp tf tn tw tm fk fr fb fx fs fp ff fn fw fm sh (k 30) (k 0)) ∧
    (k (chkE 2 isz ico tk tr tb tx ts tp tf tn tw tm fk fr fb fx fs fp ff fn fw fm sh) → G24_2 isz ico tk tr tb tx ts tp tf tn tw tm fk fr fb fx fs fp ff fn fw fm sh (k 30) (k 0)) ∧
    (k (chkE 3 isz ico tk tr tb tx ts tp tf tn tw tm fk fr fb fx fs fp ff fn fw fm sh) → G24_3 isz ico tk tr tb tx ts tp tf tn tw tm fk fr fb fx fs fp ff fn fw fm sh (k 30) (k 0)) ∧
    (k (chkE 4 isz ico tk tr tb tx ts tp tf tn tw tm fk fr fb fx fs fp ff fn fw fm sh) → G24_4 isz ico tk tr tb tx ts tp tf tn tw tm fk fr fb fx fs fp ff fn fw fm sh (k 30) (k 0)) ∧
    (k (chkE 5 isz ico tk tr tb tx ts tp tf tn tw tm fk fr fb fx fs fp ff fn fw fm sh) → G24_5 isz ico tk tr tb tx ts tp tf tn tw tm fk fr fb fx fs fp ff fn fw fm sh (k 30) (k 0)) ∧
    (k (chkE 6 isz ico tk tr tb tx ts tp tf tn tw tm fk fr fb fx fs fp ff fn fw fm sh) → G24_6 isz ico tk tr tb tx ts tp tf tn tw tm fk fr fb fx fs fp ff fn fw fm sh (k 30) (k 0)) ∧
    (k (chkE 7 isz ico tk tr tb tx ts tp tf tn tw tm fk fr fb fx fs fp ff fn fw fm sh) → G24_7 isz ico tk tr tb tx ts tp tf tn tw tm fk fr fb fx fs fp ff fn fw fm sh (k 30) (k 0)) ∧
    (k (chkE 8 isz ico tk tr tb tx ts tp tf tn tw tm fk fr fb fx fs fp ff fn fw fm sh) → G24_8 isz ico tk tr tb tx ts tp tf tn tw tm fk fr fb fx fs fp ff fn fw fm sh (k 30) (k 0)) ∧
    (k (chkE 9 isz ico tk tr tb tx ts tp tf tn tw tm fk fr fb fx fs fp ff fn fw fm sh) → G24_9 isz ico tk tr tb tx ts tp tf tn tw tm fk fr fb fx fs fp ff fn fw fm sh (k 30) (k 0)) := by
  obtain ⟨x1, x2, x3, x4, x5, x6, x7, x8, x9⟩ := kinds tk tr tb tx ts tp tf tn tw tm
  obtain ⟨y1, y2, y3, y4, y5, y6, y7, y8, y9⟩ := kinds fk fr fb fx fs fp ff fn fw fm
  obtain ⟨u1, u2, u3, u4, u5⟩ := kindsK tk tr tb tx ts tp tf tn tw tm
  obtain ⟨v1, v2, v3, v4, v5⟩ := kindsK fk fr fb fx fs fp ff fn fw fm
  refine ⟨?_, ?_, ?_, ?_, ?_, ?_, ?_, ?_, ?_⟩ <;> intro h
  all_goals first | unfold G24_1 F24_1 | unfold G24_2 F24_2 | unfold G24_3 F24_3 | unfold G24_4 F24_4 | unfold G24_5 F24_5 | unfold G24_6 F24_6 | unfold G24_7 F24_7 | unfold G24_8 F24_8 | unfold G24_9 F24_9
  all_goals unfold chkE validB opsB sizeB condB at h
  all_goals generalize regB tk tr tb tx ts tp tf tn tw tm = rt at *
  all_goals generalize memB tk tr tb tx ts tp tf tn tw tm = mt at *
  all_goals generalize noneB tk tr tb tx ts tp tf tn tw tm = nt at *
  all_goals generalize tgtB tk tr tb tx ts tp tf tn tw tm = gt at *
  all_goals generalize regB fk fr fb fx fs fp ff fn fw fm = rf at *
  all_goals generalize memB fk fr fb fx fs fp ff fn fw fm = mf at *
  all_goals generalize immB fk fr fb fx fs fp ff fn fw fm = imf at *
  all_goals generalize noneB fk fr fb fx fs fp ff fn fw fm = nf at *
  all_goals generalize (tw == ([] : List Int)) = tw0 at *
  all_goals simp at h
  all_goals (repeat' refine cond_ind (fun _ => ?_) (fun _ => ?_)) <;> refine Eq.mp (congrArg k ?_) h <;> first | (simp_all [fitB, wideB]; done) | (simp_all [fitB, wideB]; grind) | (cases rt <;> cases mt <;> cases nt <;> cases gt <;> simp_all [fitB, wideB] <;> grind)
theorem c24_B (isz ico : Int) (tk tr tb tx ts : Int) (tp tf : Bool) (tn : Int) (tw : List Int) (tm : Int) (fk fr fb fx fs : Int) (fp ff : Bool) (fn : Int) (fw : List Int) (fm : Int) (sh : Bool) (k : Int → Prop) : (k (chkE 10 isz ico tk tr tb tx ts tp tf tn tw tm fk fr fb fx fs fp ff fn fw fm sh) → G24_10 isz ico tk tr tb tx ts tp tf tn tw tm fk fr fb fx fs fp ff fn fw fm sh (k 30) (k 0)) ∧
    (k (chkE 11 isz ico tk tr tb tx ts tp tf tn tw tm fk fr fb fx fs fp ff fn fw fm sh) → G24_11 isz ico tk tr tb tx ts tp tf tn tw tm fk fr fb fx fs fp ff fn fw fm sh (k 30) (k 0)) ∧
    (k (chkE 12 isz ico tk tr tb tx ts tp tf tn tw tm fk fr fb fx fs fp ff fn fw fm sh) → G24_12 isz ico tk tr tb tx ts tp tf tn tw tm fk fr fb fx fs fp ff fn fw fm sh (k 30) (k 0)) ∧
    (k (chkE 13 isz ico tk tr tb tx ts tp tf tn tw tm fk fr fb fx fs fp ff fn fw fm sh) → G24_13 isz ico tk tr tb tx ts tp tf tn tw tm fk fr fb fx fs fp ff fn fw fm sh (k 30) (k 0)) ∧
    (k (chkE 14 isz ico tk tr tb tx ts tp tf tn tw tm fk fr fb fx fs fp ff fn fw fm sh) → G24_14 isz ico tk tr tb tx ts tp tf tn tw tm fk fr fb fx fs fp ff fn fw fm sh (k 30) (k 0)) ∧
    (k (chkE 15 isz ico tk tr tb tx ts tp tf tn tw tm fk fr fb fx fs fp ff fn fw fm sh) → G24_15 isz ico tk tr tb tx ts tp tf tn tw tm fk fr fb fx fs fp ff fn fw fm sh (k 30) (k 0)) ∧
    (k (chkE 16 isz ico tk tr tb tx ts tp tf tn tw tm fk fr fb fx fs fp ff fn fw fm sh) → G24_16 isz ico tk tr tb tx ts tp tf tn tw tm fk fr fb fx fs fp ff fn fw fm sh (k 30) (k 0)) ∧
    (k (chkE 17 isz ico tk tr tb tx ts tp tf tn tw tm fk fr fb fx fs fp ff fn fw fm sh) → G24_17 isz ico tk tr tb tx ts tp tf tn tw tm fk fr fb fx fs fp ff fn fw fm sh (k 30) (k 0)) ∧
    (k (chkE 18 isz ico tk tr tb tx ts tp tf tn tw tm fk fr fb fx fs fp ff fn fw fm sh) → G24_18 isz ico tk tr tb tx ts tp tf tn tw tm fk fr fb fx fs fp ff fn fw fm sh (k 30) (k 0)) := by
  obtain ⟨x1, x2, x3, x4, x5, x6, x7, x8, x9⟩ := kinds tk tr tb tx ts tp tf tn tw tm
  obtain ⟨y1, y2, y3, y4, y5, y6, y7, y8, y9⟩ := kinds fk fr fb fx fs fp ff fn fw fm
  obtain ⟨u1, u2, u3, u4, u5⟩ := kindsK tk tr tb tx ts tp tf tn tw tm
  obtain ⟨v1, v2, v3, v4, v5⟩ := kindsK fk fr fb fx fs fp ff fn fw fm
  refine ⟨?_, ?_, ?_, ?_, ?_, ?_, ?_, ?_, ?_⟩ <;> intro h
  all_goals first | unfold G24_10 F24_10 | unfold G24_11 F24_11 | unfold G24_12 F24_12 | unfold G24_13 F24_13 | unfold G24_14 F24_14 | unfold G24_15 F24_15 | unfold G24_16 F24_16 | unfold G24_17 F24_17 | unfold G24_18 F24_18
  all_goals unfold chkE validB opsB sizeB condB at h
  all_goals generalize regB tk tr tb tx ts tp tf tn tw tm = rt at *
  all_goals generalize memB tk tr tb tx ts tp tf tn tw tm = mt at *
  all_goals generalize noneB tk tr tb tx ts tp tf tn tw tm = nt at *
  all_goals generalize tgtB tk tr tb tx ts tp tf tn tw tm = gt at *
  all_goals generalize regB fk fr fb fx fs fp ff fn fw fm = rf at *
  all_goals generalize memB fk fr fb fx fs fp ff fn fw fm = mf at *
  all_goals generalize immB fk fr fb fx fs fp ff fn fw fm = imf at *
  all_goals generalize noneB fk fr fb fx fs fp ff fn fw fm = nf at *
  all_goals generalize (tw == ([] : List Int)) = tw0 at *
  all_goals simp at h
  all_goals (repeat' refine cond_ind (fun _ => ?_) (fun _ => ?_)) <;> refine Eq.mp (congrArg k ?_) h <;> first | (simp_all [fitB, wideB]; done) | (simp_all [fitB, wideB]; grind) | (cases rt <;> cases mt <;> cases nt <;> cases gt <;> simp_all [fitB, wideB] <;> grind)
theorem c24_C (isz ico : Int) (tk tr tb tx ts : Int) (tp tf : Bool) (tn : Int) (tw : List Int) (tm : Int) (fk fr fb fx fs : Int) (fp ff : Bool) (fn : Int) (fw : List Int) (fm : Int) (sh : Bool) (k : Int → Prop) : (k (chkE 19 isz ico tk tr tb tx ts tp tf tn tw tm fk fr fb fx fs fp ff fn fw fm sh) → G24_19 isz ico tk tr tb tx ts tp tf tn tw tm fk fr fb fx fs fp ff fn fw fm sh (k 30) (k 0)) ∧
    (k (chkE 20 isz ico tk tr tb tx ts tp tf tn tw tm fk fr fb fx fs fp ff fn fw fm sh) → G24_20 isz ico tk tr tb tx ts tp tf tn tw tm fk fr fb fx fs fp ff fn fw fm sh (k 30) (k 0)) ∧
    (k (chkE 21 isz ico tk tr tb tx ts tp tf tn tw tm fk fr fb fx fs fp ff fn fw fm sh) → G24_21 isz ico tk tr tb tx ts tp tf tn tw tm fk fr fb fx fs fp ff fn fw fm sh (k 30) (k 0)) ∧
    (k (chkE 22 isz ico tk tr tb tx ts tp tf tn tw tm fk fr fb fx fs fp ff fn fw fm sh) → G24_22 isz ico tk tr tb tx ts tp tf tn tw tm fk fr fb fx fs fp ff fn fw fm sh (k 30) (k 0)) ∧
    (k (chkE 23 isz ico tk tr tb tx ts tp tf tn tw tm fk fr fb fx fs fp ff fn fw fm sh) → G24_23 isz ico tk tr tb tx ts tp tf tn tw tm fk fr fb fx fs fp ff fn fw fm sh (k 30) (k 0)) ∧
    (k (chkE 24 isz ico tk tr tb tx ts tp tf tn tw tm fk fr fb fx fs fp ff fn fw fm sh) → G24_24 isz ico tk tr tb tx ts tp tf tn tw tm fk fr fb fx fs fp ff fn fw fm sh (k 30) (k 0)) ∧
    (k (chkE 25 isz ico tk tr tb tx ts tp tf tn tw tm fk fr fb fx fs fp ff fn fw fm sh) → G24_25 isz ico tk tr tb tx ts tp tf tn tw tm fk fr fb fx fs fp ff fn fw fm sh (k 30) (k 0)) ∧
    (k (chkE 26 isz ico tk tr tb tx ts tp tf tn tw tm fk fr fb fx fs fp ff fn fw fm sh) → G24_26 isz ico tk tr tb tx ts tp tf tn tw tm fk fr fb fx fs fp ff fn fw fm sh (k 30) (k 0)) ∧
    (k (chkE 27 isz ico tk tr tb tx ts tp tf tn tw tm fk fr fb fx fs fp ff fn fw fm sh) → G24_27 isz ico tk tr tb tx ts tp tf tn tw tm fk fr fb fx fs fp ff fn fw fm sh (k 30) (k 0)) := by
  obtain ⟨x1, x2, x3, x4, x5, x6, x7, x8, x9⟩ := kinds tk tr tb tx ts tp tf tn tw tm
  obtain ⟨y1, y2, y3, y4, y5, y6, y7, y8, y9⟩ := kinds fk fr fb fx fs fp ff fn fw fm
  obtain ⟨u1, u2, u3, u4, u5⟩ := kindsK tk tr tb tx ts tp tf tn tw tm
  obtain ⟨v1, v2, v3, v4, v5⟩ := kindsK fk fr fb fx fs fp ff fn fw fm
  refine ⟨?_, ?_, ?_, ?_, ?_, ?_, ?_, ?_, ?_⟩ <;> intro h
  all_goals first | unfold G24_19 F24_19 | unfold G24_20 F24_20 | unfold G24_21 F24_21 | unfold G24_22 F24_22 | unfold G24_23 F24_23 | unfold G24_24 F24_24 | unfold G24_25 F24_25 | unfold G24_26 F24_26 | unfold G24_27 F24_27
  all_goals unfold chkE validB opsB sizeB condB at h
  all_goals generalize regB tk tr tb tx ts tp tf tn tw tm = rt at *
  all_goals generalize memB tk tr tb tx ts tp tf tn tw tm = mt at *
  all_goals generalize noneB tk tr tb tx ts tp tf tn tw tm = nt at *
  all_goals generalize tgtB tk tr tb tx ts tp tf tn tw tm = gt at *
  all_goals generalize regB fk fr fb fx fs fp ff fn fw fm = rf at *
  all_goals generalize memB fk fr fb fx fs fp ff fn fw fm = mf at *
  all_goals generalize immB fk fr fb fx fs fp ff fn fw fm = imf at *
  all_goals generalize noneB fk fr fb fx fs fp ff fn fw fm = nf at *
  all_goals generalize (tw == ([] : List Int)) = tw0 at *
  all_goals simp at h
  all_goals (repeat' refine cond_ind (fun _ => ?_) (fun _ => ?_)) <;> refine Eq.mp (congrArg k ?_) h <;> first | (simp_all [fitB, wideB]; done) | (simp_all [fitB, wideB]; grind) | (cases rt <;> cases mt <;> cases nt <;> cases gt <;> simp_all [fitB, wideB] <;> grind)
theorem c24_D (isz ico : Int) (tk tr tb tx ts : Int) (tp tf : Bool) (tn : Int) (tw : List Int) (tm : Int) (fk fr fb fx fs : Int) (fp ff : Bool) (fn : Int) (fw : List Int) (fm : Int) (sh : Bool) (k : Int → Prop) : (k (chkE 28 isz ico tk tr tb tx ts tp tf tn tw tm fk fr fb fx fs fp ff fn fw fm sh) → G24_28 isz ico tk tr tb tx ts tp tf tn tw tm fk fr fb fx fs fp ff fn fw fm sh (k 30) (k 0)) ∧
    (k (chkE 29 isz ico tk tr tb tx ts tp tf tn tw tm fk fr fb fx fs fp ff fn fw fm sh) → G24_29 isz ico tk tr tb tx ts tp tf tn tw tm fk fr fb fx fs fp ff fn fw fm sh (k 30) (k 0)) ∧
    (k (chkE 30 isz ico tk tr tb tx ts tp tf tn tw tm fk fr fb fx fs fp ff fn fw fm sh) → G24_30 isz ico tk tr tb tx ts tp tf tn tw tm fk fr fb fx fs fp ff fn fw fm sh (k 30) (k 0)) ∧
    (k (chkE 31 isz ico tk tr tb tx ts tp tf tn tw tm fk fr fb fx fs fp ff fn fw fm sh) → G24_31 isz ico tk tr tb tx ts tp tf tn tw tm fk fr fb fx fs fp ff fn fw fm sh (k 30) (k 0)) ∧
    (k (chkE 32 isz ico tk tr tb tx ts tp tf tn tw tm fk fr fb fx fs fp ff fn fw fm sh) → G24_32 isz ico tk tr tb tx ts tp tf tn tw tm fk fr fb fx fs fp ff fn fw fm sh (k 30) (k 0)) ∧
    (k (chkE 33 isz ico tk tr tb tx ts tp tf tn tw tm fk fr fb fx fs fp ff fn fw fm sh) → G24_33 isz ico tk tr tb tx ts tp tf tn tw tm fk fr fb fx fs fp ff fn fw fm sh (k 30) (k 0)) ∧
    (k (chkE 34 isz ico tk tr tb tx ts tp tf tn tw tm fk fr fb fx fs fp ff fn fw fm sh) → G24_34 isz ico tk tr tb tx ts tp tf tn tw tm fk fr fb fx fs fp ff fn fw fm sh (k 30) (k 0)) ∧
    (k (chkE 35 isz ico tk tr tb tx ts tp tf tn tw tm fk fr fb fx fs fp ff fn fw fm sh) → G24_35 isz ico tk tr tb tx ts tp tf tn tw tm fk fr fb fx fs fp ff fn fw fm sh (k 30) (k 0)) := by
  obtain ⟨x1, x2, x3, x4, x5, x6, x7, x8, x9⟩ := kinds tk tr tb tx ts tp tf tn tw tm
  obtain ⟨y1, y2, y3, y4, y5, y6, y7, y8, y9⟩ := kinds fk fr fb fx fs fp ff fn fw fm
  obtain ⟨u1, u2, u3, u4, u5⟩ := kindsK tk tr tb tx ts tp tf tn tw tm
  obtain ⟨v1, v2, v3, v4, v5⟩ := kindsK fk fr fb fx fs fp ff fn fw fm
  refine ⟨?_, ?_, ?_, ?_, ?_, ?_, ?_, ?_⟩ <;> intro h
  all_goals first | unfold G24_28 F24_28 | unfold G24_29 F24_29 | unfold G24_30 F24_30 | unfold G24_31 F24_31 | unfold G24_32 F24_32 | unfold G24_33 F24_33 | unfold G24_34 F24_34 | unfold G24_35 F24_35
  all_goals unfold chkE validB opsB sizeB condB at h
  all_goals generalize regB tk tr tb tx ts tp tf tn tw tm = rt at *
  all_goals generalize memB tk tr tb tx ts tp tf tn tw tm = mt at *
  all_goals generalize noneB tk tr tb tx ts tp tf tn tw tm = nt at *
  all_goals generalize tgtB tk tr tb tx ts tp tf tn tw tm = gt at *
  all_goals generalize regB fk fr fb fx fs fp ff fn fw fm = rf at *
  all_goals generalize memB fk fr fb fx fs fp ff fn fw fm = mf at *
  all_goals generalize immB fk fr fb fx fs fp ff fn fw fm = imf at *
  all_goals generalize noneB fk fr fb fx fs fp ff fn fw fm = nf at *
  all_goals generalize (tw == ([] : List Int)) = tw0 at *
  all_goals simp at h
  all_goals (repeat' refine cond_ind (fun _ => ?_) (fun _ => ?_)) <;> refine Eq.mp (congrArg k ?_) h <;> first | (simp_all [fitB, wideB]; done) | (simp_all [fitB, wideB]; grind) | (cases rt <;> cases mt <;> cases nt <;> cases gt <;> simp_all [fitB, wideB] <;> grind)
end Go.Proofs.YtaajhdkngiemlaaDoor.frm
