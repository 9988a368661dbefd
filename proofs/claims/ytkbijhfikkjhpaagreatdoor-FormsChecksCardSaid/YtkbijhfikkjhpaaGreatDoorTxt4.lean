import Derived.Test.YtkbijhfikkjhpaaGreatDoorTxt3
set_option linter.unusedVariables false
set_option linter.unusedSimpArgs false
set_option maxHeartbeats 4000000
set_option maxRecDepth 100000
namespace Go.Proofs.YtkbijhfikkjhpaaGreatDoor.frm
open Go Go.Ab Go.Proofs.YtkbijhfikkjhpaaGreatDoor.fc
theorem at5 : Tryz.prog.funcs[5]? = some (fnOf Tryz.prog 5) := by kernel_rfl
abbrev Y5 : Type := Int → Int → Int → Int → Int → Int → Int → Int → Bool → Bool → Int → List Int → Int → Int → Int → Int → Int → Int → Bool → Bool → Int → List Int → Int → Bool → (List Int → Prop) → (List Int → Prop) → Prop
set_option maxHeartbeats 4000000 in
set_option maxRecDepth 100000 in
def F5  (iop isz ico tk tr tb tx ts : Int) (tp tf : Bool) (tn : Int) (tw : List Int) (tm fk fr fb fx fs : Int) (fp ff : Bool) (fn : Int) (fw : List Int) (fm : Int) (sh : Bool) (k1 : List Int → Prop) (k2 : List Int → Prop) : Prop :=
  let q27 := (nameI iop isz ico)
  let q10 := (q27 ++ ([32, 115, 104, 111, 114, 116] : List Int))
  let q41 := (decide (((List.length q10) + 1) ≤ 4611686018427387904))
  let q12 := ([32] : List Int)
  let q4 := (q10 ++ q12)
  let q7 := (opdI fk fr fb fx fs fp ff fn fw fm isz)
  let q28 := (noneB tk tr tb tx ts tp tf tn tw tm)
  let q45 := (q4 ++ q7)
  let q26 := (noneB fk fr fb fx fs fp ff fn fw fm)
  let q43 := (iop == 22)
  let q13 := ([42] : List Int)
  let q5 := (opdI tk tr tb tx ts tp tf tn tw tm isz)
  let q11 := (List.length q5)
  let q29 := (opdS tk tr tb tx ts tp tf tn tw tm (bif (decide (((List.length (q45 ++ q12)) + q11) ≤ 4611686018427387904)) then (k2 ((q45 ++ q12) ++ q5)) else False))
  let q15 := (bif (tk != 4) then (bif (decide (((List.length (q45 ++ q12)) + 1) ≤ 4611686018427387904)) then (opdS tk tr tb tx ts tp tf tn tw tm (bif (decide (((List.length ((q45 ++ q12) ++ q13)) + q11) ≤ 4611686018427387904)) then (k2 (((q45 ++ q12) ++ q13) ++ q5)) else False)) else False) else q29)
  let q44 := (iop == 23)
  let q9 := ([44, 32] : List Int)
  let q33 := (opdS tk tr tb tx ts tp tf tn tw tm (bif (decide (((List.length (q45 ++ q9)) + q11) ≤ 4611686018427387904)) then (k2 ((q45 ++ q9) ++ q5)) else False))
  let q19 := (bif (tk != 4) then (bif (decide (((List.length (q45 ++ q9)) + 1) ≤ 4611686018427387904)) then (opdS tk tr tb tx ts tp tf tn tw tm (bif (decide (((List.length ((q45 ++ q9) ++ q13)) + q11) ≤ 4611686018427387904)) then (k2 (((q45 ++ q9) ++ q13) ++ q5)) else False)) else False) else q33)
  let q0 := (bif q41 then (opdS fk fr fb fx fs fp ff fn fw fm (bif (decide (((List.length q4) + (List.length q7)) ≤ 4611686018427387904)) then (bif q28 then (k2 q45) else (bif q26 then (bif (decide (((List.length q45) + 1) ≤ 4611686018427387904)) then (bif q43 then q15 else (bif q44 then q15 else q29)) else False) else (bif (decide (((List.length q45) + 2) ≤ 4611686018427387904)) then (bif q43 then q19 else (bif q44 then q19 else q33)) else False))) else False)) else False)
  let q8 := (opdI fk fr fb fx fs fp ff fn fw fm 1)
  let q46 := (q4 ++ q8)
  let q30 := (opdS tk tr tb tx ts tp tf tn tw tm (bif (decide (((List.length (q46 ++ q12)) + q11) ≤ 4611686018427387904)) then (k2 ((q46 ++ q12) ++ q5)) else False))
  let q16 := (bif (tk != 4) then (bif (decide (((List.length (q46 ++ q12)) + 1) ≤ 4611686018427387904)) then (opdS tk tr tb tx ts tp tf tn tw tm (bif (decide (((List.length ((q46 ++ q12) ++ q13)) + q11) ≤ 4611686018427387904)) then (k2 (((q46 ++ q12) ++ q13) ++ q5)) else False)) else False) else q30)
  let q34 := (opdS tk tr tb tx ts tp tf tn tw tm (bif (decide (((List.length (q46 ++ q9)) + q11) ≤ 4611686018427387904)) then (k2 ((q46 ++ q9) ++ q5)) else False))
  let q20 := (bif (tk != 4) then (bif (decide (((List.length (q46 ++ q9)) + 1) ≤ 4611686018427387904)) then (opdS tk tr tb tx ts tp tf tn tw tm (bif (decide (((List.length ((q46 ++ q9) ++ q13)) + q11) ≤ 4611686018427387904)) then (k2 (((q46 ++ q9) ++ q13) ++ q5)) else False)) else False) else q34)
  let q1 := (bif q41 then (opdS fk fr fb fx fs fp ff fn fw fm (bif (decide (((List.length q4) + (List.length q8)) ≤ 4611686018427387904)) then (bif q28 then (k2 q46) else (bif q26 then (bif (decide (((List.length q46) + 1) ≤ 4611686018427387904)) then (bif q43 then q16 else (bif q44 then q16 else q30)) else False) else (bif (decide (((List.length q46) + 2) ≤ 4611686018427387904)) then (bif q43 then q20 else (bif q44 then q20 else q34)) else False))) else False)) else False)
  let q42 := (decide (((List.length q27) + 1) ≤ 4611686018427387904))
  let q6 := (q27 ++ q12)
  let q47 := (q6 ++ q7)
  let q31 := (opdS tk tr tb tx ts tp tf tn tw tm (bif (decide (((List.length (q47 ++ q12)) + q11) ≤ 4611686018427387904)) then (k2 ((q47 ++ q12) ++ q5)) else False))
  let q17 := (bif (tk != 4) then (bif (decide (((List.length (q47 ++ q12)) + 1) ≤ 4611686018427387904)) then (opdS tk tr tb tx ts tp tf tn tw tm (bif (decide (((List.length ((q47 ++ q12) ++ q13)) + q11) ≤ 4611686018427387904)) then (k2 (((q47 ++ q12) ++ q13) ++ q5)) else False)) else False) else q31)
  let q35 := (opdS tk tr tb tx ts tp tf tn tw tm (bif (decide (((List.length (q47 ++ q9)) + q11) ≤ 4611686018427387904)) then (k2 ((q47 ++ q9) ++ q5)) else False))
  let q21 := (bif (tk != 4) then (bif (decide (((List.length (q47 ++ q9)) + 1) ≤ 4611686018427387904)) then (opdS tk tr tb tx ts tp tf tn tw tm (bif (decide (((List.length ((q47 ++ q9) ++ q13)) + q11) ≤ 4611686018427387904)) then (k2 (((q47 ++ q9) ++ q13) ++ q5)) else False)) else False) else q35)
  let q2 := (bif q42 then (opdS fk fr fb fx fs fp ff fn fw fm (bif (decide (((List.length q6) + (List.length q7)) ≤ 4611686018427387904)) then (bif q28 then (k2 q47) else (bif q26 then (bif (decide (((List.length q47) + 1) ≤ 4611686018427387904)) then (bif q43 then q17 else (bif q44 then q17 else q31)) else False) else (bif (decide (((List.length q47) + 2) ≤ 4611686018427387904)) then (bif q43 then q21 else (bif q44 then q21 else q35)) else False))) else False)) else False)
  let q48 := (q6 ++ q8)
  let q32 := (opdS tk tr tb tx ts tp tf tn tw tm (bif (decide (((List.length (q48 ++ q12)) + q11) ≤ 4611686018427387904)) then (k2 ((q48 ++ q12) ++ q5)) else False))
  let q18 := (bif (tk != 4) then (bif (decide (((List.length (q48 ++ q12)) + 1) ≤ 4611686018427387904)) then (opdS tk tr tb tx ts tp tf tn tw tm (bif (decide (((List.length ((q48 ++ q12) ++ q13)) + q11) ≤ 4611686018427387904)) then (k2 (((q48 ++ q12) ++ q13) ++ q5)) else False)) else False) else q32)
  let q36 := (opdS tk tr tb tx ts tp tf tn tw tm (bif (decide (((List.length (q48 ++ q9)) + q11) ≤ 4611686018427387904)) then (k2 ((q48 ++ q9) ++ q5)) else False))
  let q22 := (bif (tk != 4) then (bif (decide (((List.length (q48 ++ q9)) + 1) ≤ 4611686018427387904)) then (opdS tk tr tb tx ts tp tf tn tw tm (bif (decide (((List.length ((q48 ++ q9) ++ q13)) + q11) ≤ 4611686018427387904)) then (k2 (((q48 ++ q9) ++ q13) ++ q5)) else False)) else False) else q36)
  let q3 := (bif q42 then (opdS fk fr fb fx fs fp ff fn fw fm (bif (decide (((List.length q6) + (List.length q8)) ≤ 4611686018427387904)) then (bif q28 then (k2 q48) else (bif q26 then (bif (decide (((List.length q48) + 1) ≤ 4611686018427387904)) then (bif q43 then q18 else (bif q44 then q18 else q32)) else False) else (bif (decide (((List.length q48) + 2) ≤ 4611686018427387904)) then (bif q43 then q22 else (bif q44 then q22 else q36)) else False))) else False)) else False)
  let q38 := (opdS tk tr tb tx ts tp tf tn tw tm (bif (decide (((List.length (q27 ++ q9)) + q11) ≤ 4611686018427387904)) then (k2 ((q27 ++ q9) ++ q5)) else False))
  let q14 := (bif (tk != 4) then (bif (decide (((List.length (q27 ++ q9)) + 1) ≤ 4611686018427387904)) then (opdS tk tr tb tx ts tp tf tn tw tm (bif (decide (((List.length ((q27 ++ q9) ++ q13)) + q11) ≤ 4611686018427387904)) then (k2 (((q27 ++ q9) ++ q13) ++ q5)) else False)) else False) else q38)
  let q37 := (opdS tk tr tb tx ts tp tf tn tw tm (bif (decide (((List.length (q10 ++ q9)) + q11) ≤ 4611686018427387904)) then (k2 ((q10 ++ q9) ++ q5)) else False))
  let q23 := (bif (tk != 4) then (bif (decide (((List.length (q10 ++ q9)) + 1) ≤ 4611686018427387904)) then (opdS tk tr tb tx ts tp tf tn tw tm (bif (decide (((List.length ((q10 ++ q9) ++ q13)) + q11) ≤ 4611686018427387904)) then (k2 (((q10 ++ q9) ++ q13) ++ q5)) else False)) else False) else q37)
  let q39 := (opdS tk tr tb tx ts tp tf tn tw tm (bif (decide (((List.length q4) + q11) ≤ 4611686018427387904)) then (k2 (q4 ++ q5)) else False))
  let q24 := (bif (tk != 4) then (bif (decide (((List.length q4) + 1) ≤ 4611686018427387904)) then (opdS tk tr tb tx ts tp tf tn tw tm (bif (decide (((List.length (q4 ++ q13)) + q11) ≤ 4611686018427387904)) then (k2 ((q4 ++ q13) ++ q5)) else False)) else False) else q39)
  let q40 := (opdS tk tr tb tx ts tp tf tn tw tm (bif (decide (((List.length q6) + q11) ≤ 4611686018427387904)) then (k2 (q6 ++ q5)) else False))
  let q25 := (bif (tk != 4) then (bif (decide (((List.length q6) + 1) ≤ 4611686018427387904)) then (opdS tk tr tb tx ts tp tf tn tw tm (bif (decide (((List.length (q6 ++ q13)) + q11) ≤ 4611686018427387904)) then (k2 ((q6 ++ q13) ++ q5)) else False)) else False) else q40)
  (bif ((chkE iop isz ico tk tr tb tx ts tp tf tn tw tm fk fr fb fx fs fp ff fn fw fm sh) != 0) then (k1 ([] : List Int)) else (bif sh then (bif (decide (((List.length q27) + 6) ≤ 4611686018427387904)) then (bif (!q26) then (bif (iop == 29) then (bif (iop == 29) then q1 else q0) else (bif (iop == 30) then (bif (iop == 30) then q1 else q0) else (bif (iop == 17) then (bif (iop == 17) then q1 else q0) else (bif (iop == 18) then (bif (iop == 18) then q1 else q0) else (bif (iop == 19) then q1 else q0))))) else (bif q28 then (k2 q10) else (bif q26 then (bif q41 then (bif q43 then q24 else (bif q44 then q24 else q39)) else False) else (bif (decide (((List.length q10) + 2) ≤ 4611686018427387904)) then (bif q43 then q23 else (bif q44 then q23 else q37)) else False)))) else False) else (bif (!q26) then (bif (iop == 29) then (bif (iop == 29) then q3 else q2) else (bif (iop == 30) then (bif (iop == 30) then q3 else q2) else (bif (iop == 17) then (bif (iop == 17) then q3 else q2) else (bif (iop == 18) then (bif (iop == 18) then q3 else q2) else (bif (iop == 19) then q3 else q2))))) else (bif q28 then (k2 q27) else (bif q26 then (bif q42 then (bif q43 then q25 else (bif q44 then q25 else q40)) else False) else (bif (decide (((List.length q27) + 2) ≤ 4611686018427387904)) then (bif q43 then q14 else (bif q44 then q14 else q38)) else False))))))
theorem F5_ok  (iop isz ico tk tr tb tx ts : Int) (tp tf : Bool) (tn : Int) (tw : List Int) (tm fk fr fb fx fs : Int) (fp ff : Bool) (fn : Int) (fw : List Int) (fm : Int) (sh : Bool) (K : V → Mem → Prop) : cbody Tryz.prog CA (fun _ => none) 1000 (fnOf Tryz.prog 5) [(.agg [(.I .i64 iop), (.I .i64 isz), (.I .i64 ico), (.I .i64 tk), (.I .i64 tr), (.I .i64 tb), (.I .i64 tx), (.I .i64 ts), (.B tp), (.B tf), (.I .i64 tn), (.S tw), (.I .i64 tm), (.I .i64 fk), (.I .i64 fr), (.I .i64 fb), (.I .i64 fx), (.I .i64 fs), (.B fp), (.B ff), (.I .i64 fn), (.S fw), (.I .i64 fm), (.B sh)])] [] K =
    F5  iop isz ico tk tr tb tx ts tp tf tn tw tm fk fr fb fx fs fp ff fn fw fm sh (fun (u0 : List Int) => K (.tup [(.S u0), (.I .i64 30)]) []) (fun (u0 : List Int) => K (.tup [(.S u0), (.I .i64 0)]) []) := by kernel_rfl
end Go.Proofs.YtkbijhfikkjhpaaGreatDoor.frm
set_option linter.unusedVariables false
set_option linter.unusedSimpArgs false
set_option maxHeartbeats 4000000
set_option maxRecDepth 100000
namespace Go.Proofs.YtkbijhfikkjhpaaGreatDoor.frm
open Go Go.Ab Go.Proofs.YtkbijhfikkjhpaaGreatDoor.fc
theorem h5 (iop isz ico tk tr tb tx ts : Int) (tp tf : Bool) (tn : Int) (tw : List Int) (tm fk fr fb fx fs : Int) (fp ff : Bool) (fn : Int) (fw : List Int) (fm : Int) (sh : Bool) (k1 : List Int → Prop) (k2 : List Int → Prop) (ht0 : -9223372036854775808 ≤ tn) (ht1 : tn ≤ 9223372036854775807) (hf0 : -9223372036854775808 ≤ fn) (hf1 : fn ≤ 9223372036854775807)
    (h1 : validB iop isz ico tk tr tb tx ts tp tf tn tw tm fk fr fb fx fs fp ff fn fw fm sh = false → k1 []) (h2 : validB iop isz ico tk tr tb tx ts tp tf tn tw tm fk fr fb fx fs fp ff fn fw fm sh = true → k2 (txtI iop isz ico tk tr tb tx ts tp tf tn tw tm fk fr fb fx fs fp ff fn fw fm sh)) : F5 iop isz ico tk tr tb tx ts tp tf tn tw tm fk fr fb fx fs fp ff fn fw fm sh k1 k2 := by
  cases hv : validB iop isz ico tk tr tb tx ts tp tf tn tw tm fk fr fb fx fs fp ff fn fw fm sh with
  | false =>
    have hc : chkE iop isz ico tk tr tb tx ts tp tf tn tw tm fk fr fb fx fs fp ff fn fw fm sh = 30 := by unfold chkE; rw [hv]; rfl
    unfold F5
    rw [hc]
    exact h1 hv
  | true =>
    have hc : (chkE iop isz ico tk tr tb tx ts tp tf tn tw tm fk fr fb fx fs fp ff fn fw fm sh != 0) = false := by unfold chkE; rw [hv]; rfl
    replace h2 := h2 hv
    obtain ⟨hot, hof⟩ := valid_ops hv
    have lN := nameI_len iop isz ico
    have lt : okO tk tr tb tx ts tp tf tn tw tm = true → (opdI tk tr tb tx ts tp tf tn tw tm isz).length ≤ 1000 := opdI_len ht0 ht1
    have lf : okO fk fr fb fx fs fp ff fn fw fm = true → (opdI fk fr fb fx fs fp ff fn fw fm isz).length ≤ 1000 := opdI_len hf0 hf1
    have lf1 : okO fk fr fb fx fs fp ff fn fw fm = true → (opdI fk fr fb fx fs fp ff fn fw fm 1).length ≤ 1000 := opdI_len hf0 hf1
    clear hv
    unfold F5
    simp only [↓cof hc, ↓cond_false, beq_self_eq_true, Bool.and_true] 
    clear hc
    unfold txtI at h2
    generalize nameI iop isz ico = NM at *
    generalize (opdI tk tr tb tx ts tp tf tn tw tm isz) = OT at *
    generalize (opdI fk fr fb fx fs fp ff fn fw fm isz) = OF at *
    generalize (opdI fk fr fb fx fs fp ff fn fw fm 1) = OG at *
    unfold smallF starF at h2
    cases hnt : noneB tk tr tb tx ts tp tf tn tw tm <;> cases hnf : noneB fk fr fb fx fs fp ff fn fw fm <;> rw [hnt] at hot h2 <;> rw [hnf] at hof h2 <;> simp only [Bool.false_eq_true, false_or, true_or] at hot hof <;>
      cases htk : (tk != 4) <;> cases sh <;> rcases op_cls iop with ⟨c1, c2, c3, c4, c5, c6, c7⟩ | ⟨c1, c2, c3, c4, c5, c6, c7⟩ | ⟨c1, c2, c3, c4, c5, c6, c7⟩ | ⟨c1, c2, c3, c4, c5, c6, c7⟩ | ⟨c1, c2, c3, c4, c5, c6, c7⟩ | ⟨c1, c2, c3, c4, c5, c6, c7⟩ | ⟨c1, c2, c3, c4, c5, c6, c7⟩ | ⟨c1, c2, c3, c4, c5, c6, c7⟩ <;>
      simp only [htk, c1, c2, c3, c4, c5, c6, c7, Bool.or_true, Bool.or_false, Bool.true_or, Bool.false_or, Bool.and_true, Bool.and_false, Bool.true_and, Bool.false_and, cond_true, cond_false, List.append_assoc, List.nil_append, List.cons_append, List.append_nil] at h2 <;>
      (have hnt1 := congrArg not hnt; have hnf1 := congrArg not hnf; simp only [Bool.not_true, Bool.not_false] at hnt1 hnf1;
       simp only [↓cof htk, ↓cof hnt, ↓cof hnt1, ↓cof hnf, ↓cof hnf1, ↓cof c1, ↓cof c2, ↓cof c3, ↓cof c4, ↓cof c5, ↓cof c6, ↓cof c7, ↓cond_true, ↓cond_false, ↓candF, ↓cdec, ↓ctrF, opdS, joi1, joi2];
       simp only [List.length_append, List.length_cons, List.length_nil];
       (repeat' apply And.intro) <;> first | trivial | exact hot | exact hof | omega | (have := lt hot; omega) | (have := lf hof; omega) | (have := lf1 hof; omega) | (have := lt hot; have := lf hof; omega) | (have := lt hot; have := lf1 hof; omega) | rfl | (simp only [List.append_assoc, List.nil_append, List.cons_append, List.append_nil]; exact h2))
end Go.Proofs.YtkbijhfikkjhpaaGreatDoor.frm
