import Derived.Test.YtaajhdkngiemlaaDoorFrm6
import Derived.Test.YtaajhdkngiemlaaDoorFrmC
set_option linter.unusedVariables false
set_option linter.unusedSimpArgs false
set_option maxHeartbeats 0
set_option maxRecDepth 100000
namespace Go.Proofs.YtaajhdkngiemlaaDoor.frm
open Go Go.Ab
theorem c13_A (isz ico : Int) (tk tr tb tx ts : Int) (tp tf : Bool) (tn : Int) (tw : List Int) (tm : Int) (fk fr fb fx fs : Int) (fp ff : Bool) (fn : Int) (fw : List Int) (fm : Int) (sh : Bool) (k : Int → Prop) : (k (chkE 1 isz ico tk tr tb tx ts tp tf tn tw tm fk fr fb fx fs fp ff fn fw fm sh) → G13_1 isz ico tk tr tb tx ts tp tf tn tw tm fk fr fb fx fs fp ff fn fw fm sh (k 30) (k 0)) ∧
    (k (chkE 2 isz ico tk tr tb tx ts tp tf tn tw tm fk fr fb fx fs fp ff fn fw fm sh) → G13_2 isz ico tk tr tb tx ts tp tf tn tw tm fk fr fb fx fs fp ff fn fw fm sh (k 30) (k 0)) ∧
    (k (chkE 3 isz ico tk tr tb tx ts tp tf tn tw tm fk fr fb fx fs fp ff fn fw fm sh) → G13_3 isz ico tk tr tb tx ts tp tf tn tw tm fk fr fb fx fs fp ff fn fw fm sh (k 30) (k 0)) ∧
    (k (chkE 4 isz ico tk tr tb tx ts tp tf tn tw tm fk fr fb fx fs fp ff fn fw fm sh) → G13_4 isz ico tk tr tb tx ts tp tf tn tw tm fk fr fb fx fs fp ff fn fw fm sh (k 30) (k 0)) ∧
    (k (chkE 5 isz ico tk tr tb tx ts tp tf tn tw tm fk fr fb fx fs fp ff fn fw fm sh) → G13_5 isz ico tk tr tb tx ts tp tf tn tw tm fk fr fb fx fs fp ff fn fw fm sh (k 30) (k 0)) ∧
    (k (chkE 6 isz ico tk tr tb tx ts tp tf tn tw tm fk fr fb fx fs fp ff fn fw fm sh) → G13_6 isz ico tk tr tb tx ts tp tf tn tw tm fk fr fb fx fs fp ff fn fw fm sh (k 30) (k 0)) ∧
    (k (chkE 7 isz ico tk tr tb tx ts tp tf tn tw tm fk fr fb fx fs fp ff fn fw fm sh) → G13_7 isz ico tk tr tb tx ts tp tf tn tw tm fk fr fb fx fs fp ff fn fw fm sh (k 30) (k 0)) ∧
    (k (chkE 8 isz ico tk tr tb tx ts tp tf tn tw tm fk fr fb fx fs fp ff fn fw fm sh) → G13_8 isz ico tk tr tb tx ts tp tf tn tw tm fk fr fb fx fs fp ff fn fw fm sh (k 30) (k 0)) ∧
    (k (chkE 9 isz ico tk tr tb tx ts tp tf tn tw tm fk fr fb fx fs fp ff fn fw fm sh) → G13_9 isz ico tk tr tb tx ts tp tf tn tw tm fk fr fb fx fs fp ff fn fw fm sh (k 30) (k 0)) := by
  obtain ⟨x1, x2, x3, x4, x5, x6, x7, x8, x9⟩ := kinds tk tr tb tx ts tp tf tn tw tm
  obtain ⟨y1, y2, y3, y4, y5, y6, y7, y8, y9⟩ := kinds fk fr fb fx fs fp ff fn fw fm
  obtain ⟨u1, u2, u3, u4, u5⟩ := kindsK tk tr tb tx ts tp tf tn tw tm
  obtain ⟨v1, v2, v3, v4, v5⟩ := kindsK fk fr fb fx fs fp ff fn fw fm
  refine ⟨?_, ?_, ?_, ?_, ?_, ?_, ?_, ?_, ?_⟩ <;> intro h
  all_goals first | unfold G13_1 F13_1 | unfold G13_2 F13_2 | unfold G13_3 F13_3 | unfold G13_4 F13_4 | unfold G13_5 F13_5 | unfold G13_6 F13_6 | unfold G13_7 F13_7 | unfold G13_8 F13_8 | unfold G13_9 F13_9
  all_goals unfold chkE validB opsB sizeB condB at h
  all_goals generalize regB tk tr tb tx ts tp tf tn tw tm = rt at *
  all_goals generalize memB tk tr tb tx ts tp tf tn tw tm = mt at *
  all_goals generalize noneB tk tr tb tx ts tp tf tn tw tm = nt at *
  all_goals generalize tgtB tk tr tb tx ts tp tf tn tw tm = gt at *
  all_goals generalize regB fk fr fb fx fs fp ff fn fw fm = rf at *
  all_goals generalize memB fk fr fb fx fs fp ff fn fw fm = mf at *
  all_goals generalize immB fk fr fb fx fs fp ff fn fw fm = imf at *
  all_goals generalize noneB fk fr fb fx fs fp ff fn fw fm = nf at *
  all_goals generalize (tw == ([] : List Int)) = tw0 at *
  all_goals simp at h
  all_goals (repeat' refine cond_ind (fun _ => ?_) (fun _ => ?_)) <;> refine Eq.mp (congrArg k ?_) h <;> first | (simp_all [fitB, wideB]; done) | (simp_all [fitB, wideB]; grind) | (cases rt <;> cases mt <;> cases nt <;> cases gt <;> simp_all [fitB, wideB] <;> grind)
theorem c13_B (isz ico : Int) (tk tr tb tx ts : Int) (tp tf : Bool) (tn : Int) (tw : List Int) (tm : Int) (fk fr fb fx fs : Int) (fp ff : Bool) (fn : Int) (fw : List Int) (fm : Int) (sh : Bool) (k : Int → Prop) : (k (chkE 10 isz ico tk tr tb tx ts tp tf tn tw tm fk fr fb fx fs fp ff fn fw fm sh) → G13_10 isz ico tk tr tb tx ts tp tf tn tw tm fk fr fb fx fs fp ff fn fw fm sh (k 30) (k 0)) ∧
    (k (chkE 11 isz ico tk tr tb tx ts tp tf tn tw tm fk fr fb fx fs fp ff fn fw fm sh) → G13_11 isz ico tk tr tb tx ts tp tf tn tw tm fk fr fb fx fs fp ff fn fw fm sh (k 30) (k 0)) ∧
    (k (chkE 12 isz ico tk tr tb tx ts tp tf tn tw tm fk fr fb fx fs fp ff fn fw fm sh) → G13_12 isz ico tk tr tb tx ts tp tf tn tw tm fk fr fb fx fs fp ff fn fw fm sh (k 30) (k 0)) ∧
    (k (chkE 13 isz ico tk tr tb tx ts tp tf tn tw tm fk fr fb fx fs fp ff fn fw fm sh) → G13_13 isz ico tk tr tb tx ts tp tf tn tw tm fk fr fb fx fs fp ff fn fw fm sh (k 30) (k 0)) ∧
    (k (chkE 14 isz ico tk tr tb tx ts tp tf tn tw tm fk fr fb fx fs fp ff fn fw fm sh) → G13_14 isz ico tk tr tb tx ts tp tf tn tw tm fk fr fb fx fs fp ff fn fw fm sh (k 30) (k 0)) ∧
    (k (chkE 15 isz ico tk tr tb tx ts tp tf tn tw tm fk fr fb fx fs fp ff fn fw fm sh) → G13_15 isz ico tk tr tb tx ts tp tf tn tw tm fk fr fb fx fs fp ff fn fw fm sh (k 30) (k 0)) ∧
    (k (chkE 16 isz ico tk tr tb tx ts tp tf tn tw tm fk fr fb fx fs fp ff fn fw fm sh) → G13_16 isz ico tk tr tb tx ts tp tf tn tw tm fk fr fb fx fs fp ff fn fw fm sh (k 30) (k 0)) ∧
    (k (chkE 17 isz ico tk tr tb tx ts tp tf tn tw tm fk fr fb fx fs fp ff fn fw fm sh) → G13_17 isz ico tk tr tb tx ts tp tf tn tw tm fk fr fb fx fs fp ff fn fw fm sh (k 30) (k 0)) ∧
    (k (chkE 18 isz ico tk tr tb tx ts tp tf tn tw tm fk fr fb fx fs fp ff fn fw fm sh) → G13_18 isz ico tk tr tb tx ts tp tf tn tw tm fk fr fb fx fs fp ff fn fw fm sh (k 30) (k 0)) := by
  obtain ⟨x1, x2, x3, x4, x5, x6, x7, x8, x9⟩ := kinds tk tr tb tx ts tp tf tn tw tm
  obtain ⟨y1, y2, y3, y4, y5, y6, y7, y8, y9⟩ := kinds fk fr fb fx fs fp ff fn fw fm
  obtain ⟨u1, u2, u3, u4, u5⟩ := kindsK tk tr tb tx ts tp tf tn tw tm
  obtain ⟨v1, v2, v3, v4, v5⟩ := kindsK fk fr fb fx fs fp ff fn fw fm
  refine ⟨?_, ?_, ?_, ?_, ?_, ?_, ?_, ?_, ?_⟩ <;> intro h
  all_goals first | unfold G13_10 F13_10 | unfold G13_11 F13_11 | unfold G13_12 F13_12 | unfold G13_13 F13_13 | unfold G13_14 F13_14 | unfold G13_15 F13_15 | unfold G13_16 F13_16 | unfold G13_17 F13_17 | unfold G13_18 F13_18
  all_goals unfold chkE validB opsB sizeB condB at h
  all_goals generalize regB tk tr tb tx ts tp tf tn tw tm = rt at *
  all_goals generalize memB tk tr tb tx ts tp tf tn tw tm = mt at *
  all_goals generalize noneB tk tr tb tx ts tp tf tn tw tm = nt at *
  all_goals generalize tgtB tk tr tb tx ts tp tf tn tw tm = gt at *
  all_goals generalize regB fk fr fb fx fs fp ff fn fw fm = rf at *
  all_goals generalize memB fk fr fb fx fs fp ff fn fw fm = mf at *
  all_goals generalize immB fk fr fb fx fs fp ff fn fw fm = imf at *
  all_goals generalize noneB fk fr fb fx fs fp ff fn fw fm = nf at *
  all_goals generalize (tw == ([] : List Int)) = tw0 at *
  all_goals simp at h
  all_goals (repeat' refine cond_ind (fun _ => ?_) (fun _ => ?_)) <;> refine Eq.mp (congrArg k ?_) h <;> first | (simp_all [fitB, wideB]; done) | (simp_all [fitB, wideB]; grind) | (cases rt <;> cases mt <;> cases nt <;> cases gt <;> simp_all [fitB, wideB] <;> grind)
theorem c13_C (isz ico : Int) (tk tr tb tx ts : Int) (tp tf : Bool) (tn : Int) (tw : List Int) (tm : Int) (fk fr fb fx fs : Int) (fp ff : Bool) (fn : Int) (fw : List Int) (fm : Int) (sh : Bool) (k : Int → Prop) : (k (chkE 19 isz ico tk tr tb tx ts tp tf tn tw tm fk fr fb fx fs fp ff fn fw fm sh) → G13_19 isz ico tk tr tb tx ts tp tf tn tw tm fk fr fb fx fs fp ff fn fw fm sh (k 30) (k 0)) ∧
    (k (chkE 20 isz ico tk tr tb tx ts tp tf tn tw tm fk fr fb fx fs fp ff fn fw fm sh) → G13_20 isz ico tk tr tb tx ts tp tf tn tw tm fk fr fb fx fs fp ff fn fw fm sh (k 30) (k 0)) ∧
    (k (chkE 21 isz ico tk tr tb tx ts tp tf tn tw tm fk fr fb fx fs fp ff fn fw fm sh) → G13_21 isz ico tk tr tb tx ts tp tf tn tw tm fk fr fb fx fs fp ff fn fw fm sh (k 30) (k 0)) ∧
    (k (chkE 22 isz ico tk tr tb tx ts tp tf tn tw tm fk fr fb fx fs fp ff fn fw fm sh) → G13_22 isz ico tk tr tb tx ts tp tf tn tw tm fk fr fb fx fs fp ff fn fw fm sh (k 30) (k 0)) ∧
    (k (chkE 23 isz ico tk tr tb tx ts tp tf tn tw tm fk fr fb fx fs fp ff fn fw fm sh) → G13_23 isz ico tk tr tb tx ts tp tf tn tw tm fk fr fb fx fs fp ff fn fw fm sh (k 30) (k 0)) ∧
    (k (chkE 24 isz ico tk tr tb tx ts tp tf tn tw tm fk fr fb fx fs fp ff fn fw fm sh) → G13_24 isz ico tk tr tb tx ts tp tf tn tw tm fk fr fb fx fs fp ff fn fw fm sh (k 30) (k 0)) ∧
    (k (chkE 25 isz ico tk tr tb tx ts tp tf tn tw tm fk fr fb fx fs fp ff fn fw fm sh) → G13_25 isz ico tk tr tb tx ts tp tf tn tw tm fk fr fb fx fs fp ff fn fw fm sh (k 30) (k 0)) ∧
    (k (chkE 26 isz ico tk tr tb tx ts tp tf tn tw tm fk fr fb fx fs fp ff fn fw fm sh) → G13_26 isz ico tk tr tb tx ts tp tf tn tw tm fk fr fb fx fs fp ff fn fw fm sh (k 30) (k 0)) ∧
    (k (chkE 27 isz ico tk tr tb tx ts tp tf tn tw tm fk fr fb fx fs fp ff fn fw fm sh) → G13_27 isz ico tk tr tb tx ts tp tf tn tw tm fk fr fb fx fs fp ff fn fw fm sh (k 30) (k 0)) := by
  obtain ⟨x1, x2, x3, x4, x5, x6, x7, x8, x9⟩ := kinds tk tr tb tx ts tp tf tn tw tm
  obtain ⟨y1, y2, y3, y4, y5, y6, y7, y8, y9⟩ := kinds fk fr fb fx fs fp ff fn fw fm
  obtain ⟨u1, u2, u3, u4, u5⟩ := kindsK tk tr tb tx ts tp tf tn tw tm
  obtain ⟨v1, v2, v3, v4, v5⟩ := kindsK fk fr fb fx fs fp ff fn fw fm
  refine ⟨?_, ?_, ?_, ?_, ?_, ?_, ?_, ?_, ?_⟩ <;> intro h
  all_goals first | unfold G13_19 F13_19 | unfold G13_20 F13_20 | unfold G13_21 F13_21 | unfold G13_22 F13_22 | unfold G13_23 F13_23 | unfold G13_24 F13_24 | unfold G13_25 F13_25 | unfold G13_26 F13_26 | unfold G13_27 F13_27
  all_goals unfold chkE validB opsB sizeB condB at h
  all_goals generalize regB tk tr tb tx ts tp tf tn tw tm = rt at *
  all_goals generalize memB tk tr tb tx ts tp tf tn tw tm = mt at *
  all_goals generalize noneB tk tr tb tx ts tp tf tn tw tm = nt at *
  all_goals generalize tgtB tk tr tb tx ts tp tf tn tw tm = gt at *
  all_goals generalize regB fk fr fb fx fs fp ff fn fw fm = rf at *
  all_goals generalize memB fk fr fb fx fs fp ff fn fw fm = mf at *
  all_goals generalize immB fk fr fb fx fs fp ff fn fw fm = imf at *
  all_goals generalize noneB fk fr fb fx fs fp ff fn fw fm = nf at *
  all_goals generalize (tw == ([] : List Int)) = tw0 at *
  all_goals simp at h
  all_goals (repeat' refine cond_ind (fun _ => ?_) (fun _ => ?_)) <;> refine Eq.mp (congrArg k ?_) h <;> first | (simp_all [fitB, wideB]; done) | (simp_all [fitB, wideB]; grind) | (cases rt <;> cases mt <;> cases nt <;> cases gt <;> simp_all [fitB, wideB] <;> grind)
theorem c13_D (isz ico : Int) (tk tr tb tx ts : Int) (tp tf : Bool) (tn : Int) (tw : List Int) (tm : Int) (fk fr fb fx fs : Int) (fp ff : Bool) (fn : Int) (fw : List Int) (fm : Int) (sh : Bool) (k : Int → Prop) : (k (chkE 28 isz ico tk tr tb tx ts tp tf tn tw tm fk fr fb fx fs fp ff fn fw fm sh) → G13_28 isz ico tk tr tb tx ts tp tf tn tw tm fk fr fb fx fs fp ff fn fw fm sh (k 30) (k 0)) ∧
    (k (chkE 29 isz ico tk tr tb tx ts tp tf tn tw tm fk fr fb fx fs fp ff fn fw fm sh) → G13_29 isz ico tk tr tb tx ts tp tf tn tw tm fk fr fb fx fs fp ff fn fw fm sh (k 30) (k 0)) ∧
    (k (chkE 30 isz ico tk tr tb tx ts tp tf tn tw tm fk fr fb fx fs fp ff fn fw fm sh) → G13_30 isz ico tk tr tb tx ts tp tf tn tw tm fk fr fb fx fs fp ff fn fw fm sh (k 30) (k 0)) ∧
    (k (chkE 31 isz ico tk tr tb tx ts tp tf tn tw tm fk fr fb fx fs fp ff fn fw fm sh) → G13_31 isz ico tk tr tb tx ts tp tf tn tw tm fk fr fb fx fs fp ff fn fw fm sh (k 30) (k 0)) ∧
    (k (chkE 32 isz ico tk tr tb tx ts tp tf tn tw tm fk fr fb fx fs fp ff fn fw fm sh) → G13_32 isz ico tk tr tb tx ts tp tf tn tw tm fk fr fb fx fs fp ff fn fw fm sh (k 30) (k 0)) ∧
    (k (chkE 33 isz ico tk tr tb tx ts tp tf tn tw tm fk fr fb fx fs fp ff fn fw fm sh) → G13_33 isz ico tk tr tb tx ts tp tf tn tw tm fk fr fb fx fs fp ff fn fw fm sh (k 30) (k 0)) ∧
    (k (chkE 34 isz ico tk tr tb tx ts tp tf tn tw tm fk fr fb fx fs fp ff fn fw fm sh) → G13_34 isz ico tk tr tb tx ts tp tf tn tw tm fk fr fb fx fs fp ff fn fw fm sh (k 30) (k 0)) ∧
    (k (chkE 35 isz ico tk tr tb tx ts tp tf tn tw tm fk fr fb fx fs fp ff fn fw fm sh) → G13_35 isz ico tk tr tb tx ts tp tf tn tw tm fk fr fb fx fs fp ff fn fw fm sh (k 30) (k 0)) := by
  obtain ⟨x1, x2, x3, x4, x5, x6, x7, x8, x9⟩ := kinds tk tr tb tx ts tp tf tn tw tm
  obtain ⟨y1, y2, y3, y4, y5, y6, y7, y8, y9⟩ := kinds fk fr fb fx fs fp ff fn fw fm
  obtain ⟨u1, u2, u3, u4, u5⟩ := kindsK tk tr tb tx ts tp tf tn tw tm
  obtain ⟨v1, v2, v3, v4, v5⟩ := kindsK fk fr fb fx fs fp ff fn fw fm
  refine ⟨?_, ?_, ?_, ?_, ?_, ?_, ?_, ?_⟩ <;> intro h
  all_goals first | unfold G13_28 F13_28 | unfold G13_29 F13_29 | unfold G13_30 F13_30 | unfold G13_31 F13_31 | unfold G13_32 F13_32 | unfold G13_33 F13_33 | unfold G13_34 F13_34 | unfold G13_35 F13_35
  all_goals unfold chkE validB opsB sizeB condB at h
  all_goals generalize regB tk tr tb tx ts tp tf tn tw tm = rt at *
  all_goals generalize memB tk tr tb tx ts tp tf tn tw tm = mt at *
  all_goals generalize noneB tk tr tb tx ts tp tf tn tw tm = nt at *
  all_goals generalize tgtB tk tr tb tx ts tp tf tn tw tm = gt at *
  all_goals generalize regB fk fr fb fx fs fp ff fn fw fm = rf at *
  all_goals generalize memB fk fr fb fx fs fp ff fn fw fm = mf at *
  all_goals generalize immB fk fr fb fx fs fp ff fn fw fm = imf at *
  all_goals generalize noneB fk fr fb fx fs fp ff fn fw fm = nf at *
  all_goals generalize (tw == ([] : List Int)) = tw0 at *
  all_goals simp at h
  all_goals (repeat' refine cond_ind (fun _ => ?_) (fun _ => ?_)) <;> refine Eq.mp (congrArg k ?_) h <;> first | (simp_all [fitB, wideB]; done) | (simp_all [fitB, wideB]; grind) | (cases rt <;> cases mt <;> cases nt <;> cases gt <;> simp_all [fitB, wideB] <;> grind)
end Go.Proofs.YtaajhdkngiemlaaDoor.frm
