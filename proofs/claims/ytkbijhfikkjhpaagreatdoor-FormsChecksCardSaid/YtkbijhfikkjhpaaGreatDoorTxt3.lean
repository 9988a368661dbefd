import Derived.Test.YtkbijhfikkjhpaaGreatDoorTxt2
set_option linter.unusedVariables false
set_option linter.unusedSimpArgs false
set_option maxHeartbeats 4000000
set_option maxRecDepth 100000
namespace Go.Proofs.YtkbijhfikkjhpaaGreatDoor.frm
open Go Go.Ab Go.Proofs.YtkbijhfikkjhpaaGreatDoor.fc
def smallF (op : Int) : Bool := op == 29 || op == 30 || op == 17 || op == 18 || op == 19
def starF (op tk : Int) : Bool := (op == 22 || op == 23) && tk != 4
def txtI (iop isz ico tk tr tb tx ts : Int) (tp tf : Bool) (tn : Int) (tw : List Int) (tm fk fr fb fx fs : Int) (fp ff : Bool) (fn : Int) (fw : List Int) (fm : Int) (sh : Bool) : List Int :=
  nameI iop isz ico ++ ((bif sh then [32, 115, 104, 111, 114, 116] else []) ++
    ((bif noneB fk fr fb fx fs fp ff fn fw fm then [] else 32 :: (bif smallF iop then opdI fk fr fb fx fs fp ff fn fw fm 1 else opdI fk fr fb fx fs fp ff fn fw fm isz)) ++
     (bif noneB tk tr tb tx ts tp tf tn tw tm then [] else (bif noneB fk fr fb fx fs fp ff fn fw fm then [32] else [44, 32]) ++ ((bif starF iop tk then [42] else []) ++ opdI tk tr tb tx ts tp tf tn tw tm isz))))
theorem cof {α : Sort _} {c v : Bool} {a b : α} (h : c = v) : (bif c then a else b) = (bif v then a else b) := by rw [h]
theorem op_cls (i : Int) :
    ((i == 29) = true ∧ (i == 30) = false ∧ (i == 17) = false ∧ (i == 18) = false ∧ (i == 19) = false ∧ (i == 22) = false ∧ (i == 23) = false) ∨
    ((i == 29) = false ∧ (i == 30) = true ∧ (i == 17) = false ∧ (i == 18) = false ∧ (i == 19) = false ∧ (i == 22) = false ∧ (i == 23) = false) ∨
    ((i == 29) = false ∧ (i == 30) = false ∧ (i == 17) = true ∧ (i == 18) = false ∧ (i == 19) = false ∧ (i == 22) = false ∧ (i == 23) = false) ∨
    ((i == 29) = false ∧ (i == 30) = false ∧ (i == 17) = false ∧ (i == 18) = true ∧ (i == 19) = false ∧ (i == 22) = false ∧ (i == 23) = false) ∨
    ((i == 29) = false ∧ (i == 30) = false ∧ (i == 17) = false ∧ (i == 18) = false ∧ (i == 19) = true ∧ (i == 22) = false ∧ (i == 23) = false) ∨
    ((i == 29) = false ∧ (i == 30) = false ∧ (i == 17) = false ∧ (i == 18) = false ∧ (i == 19) = false ∧ (i == 22) = true ∧ (i == 23) = false) ∨
    ((i == 29) = false ∧ (i == 30) = false ∧ (i == 17) = false ∧ (i == 18) = false ∧ (i == 19) = false ∧ (i == 22) = false ∧ (i == 23) = true) ∨
    ((i == 29) = false ∧ (i == 30) = false ∧ (i == 17) = false ∧ (i == 18) = false ∧ (i == 19) = false ∧ (i == 22) = false ∧ (i == 23) = false) := by
  simp only [beq_iff_eq, beq_eq_false_iff_ne, ne_eq]
  omega
theorem opsB_t (op z : Int) (rf mf imf nf ff tw0 sh : Bool) (fr fn tn : Int) : opsB op z false false false false rf mf imf nf ff tw0 sh fr fn tn = false := by
  unfold opsB; simp
theorem opsB_f (op z : Int) (rt mt nt gt ff tw0 sh : Bool) (fr fn tn : Int) : opsB op z rt mt nt gt false false false false ff tw0 sh fr fn tn = false := by
  unfold opsB; simp
theorem valid_ops {op z c tk tr tb tx ts : Int} {tp tf : Bool} {tn : Int} {tw : List Int} {tm : Int} {fk fr fb fx fs : Int} {fp ff : Bool} {fn : Int} {fw : List Int} {fm : Int} {sh : Bool} (h : validB op z c tk tr tb tx ts tp tf tn tw tm fk fr fb fx fs fp ff fn fw fm sh = true) :
    (noneB tk tr tb tx ts tp tf tn tw tm = true ∨ okO tk tr tb tx ts tp tf tn tw tm = true) ∧ (noneB fk fr fb fx fs fp ff fn fw fm = true ∨ okO fk fr fb fx fs fp ff fn fw fm = true) := by
  unfold validB at h
  rw [Bool.and_eq_true] at h
  replace h := h.2
  unfold okO
  constructor
  · cases h1 : regB tk tr tb tx ts tp tf tn tw tm <;> cases h2 : memB tk tr tb tx ts tp tf tn tw tm <;> cases h3 : noneB tk tr tb tx ts tp tf tn tw tm <;> cases h4 : tgtB tk tr tb tx ts tp tf tn tw tm <;> first | (simp; done) | (rw [h1, h2, h3, h4, opsB_t] at h; cases h)
  · cases h1 : regB fk fr fb fx fs fp ff fn fw fm <;> cases h2 : memB fk fr fb fx fs fp ff fn fw fm <;> cases h3 : immB fk fr fb fx fs fp ff fn fw fm <;> cases h4 : noneB fk fr fb fx fs fp ff fn fw fm <;> first | (simp; done) | (rw [h1, h2, h3, h4, opsB_f] at h; cases h)
theorem nmR_len {es : List (List Int × Int × Int)} (h : es.all (fun e => Nat.ble e.1.length 20) = true) (s c : Int) : (nmR es s c).length ≤ 20 := by
  induction es with
  | nil => simp [nmR]
  | cons e es ih =>
    rw [List.all_cons, Bool.and_eq_true] at h
    unfold nmR
    cases s == e.2.1 && c == e.2.2
    · exact ih h.2
    · exact Nat.le_of_ble_eq_true h.1
theorem nmO_20 : nmO.all (fun es => es.all (fun e => Nat.ble e.1.length 20)) = true := by kernel_rfl
theorem nameI_len (op s c : Int) : (nameI op s c).length ≤ 20 := by
  unfold nameI
  apply nmR_len
  rw [List.getD_eq_getElem?_getD]
  cases hj : nmO[op.toNat]? with
  | none => rfl
  | some es => exact List.all_eq_true.1 nmO_20 es (List.mem_of_getElem? hj)
theorem modI_len (m : Int) : (modI m).length ≤ 9 := by
  unfold modI
  have h : modT.all (fun e => Nat.ble e.length 9) = true := by kernel_rfl
  rw [List.getD_eq_getElem?_getD]
  cases hj : modT[m.toNat]? with
  | none => exact Nat.zero_le _
  | some e => exact Nat.le_of_ble_eq_true (List.all_eq_true.1 h e (List.mem_of_getElem? hj))
theorem cond_len {c : Bool} {a b : List Int} {n : Nat} (ha : a.length ≤ n) (hb : b.length ≤ n) : (bif c then a else b).length ≤ n := by cases c; exact hb; exact ha
theorem memI_len {b x s : Int} {p f : Bool} {n : Int} {w : List Int} {m : Int} (h0 : -9223372036854775808 ≤ n) (h1 : n ≤ 9223372036854775807) (hs0 : 0 ≤ s) (hs1 : s ≤ 8) (hw : w.length ≤ 255) : (memI b x s p f n w m).length ≤ 500 := by
  have l1 := numI_len h0 h1
  have l2 := sgnI_len h0 h1
  have l3 := regI_len b 8
  have l4 := regI_len x 8
  have l5 := numI_len (n := s) (by omega) (by omega)
  have l6 := modI_len m
  have a1 : (bif f then ([37, 102, 115, 58] : List Int) else []).length ≤ 4 := cond_len (by simp) (by simp)
  have a2 : (bif n != 0 || f then numI n else []).length ≤ 21 := cond_len l1 (by simp)
  have a3 : (bif n != 0 then sgnI n else []).length ≤ 22 := cond_len l2 (by simp)
  have a4 : (tailI b x s p f).length ≤ 50 := by
    unfold tailI
    refine cond_len (by simp) (cond_len (by simp) (cond_len ?_ ?_)) <;> simp only [List.length_append, List.length_cons, List.length_nil] <;> omega
  have a5 : (bif w == [] then (bif n != 0 || f then numI n else []) else w ++ (modI m ++ (bif n != 0 then sgnI n else []))).length ≤ 300 := by
    refine cond_len (by omega) ?_
    simp only [List.length_append]; omega
  unfold memI
  simp only [List.length_append]; omega
theorem opdI_len {k r b x s : Int} {p f : Bool} {n : Int} {w : List Int} {m z : Int} (h0 : -9223372036854775808 ≤ n) (h1 : n ≤ 9223372036854775807) (h : okO k r b x s p f n w m = true) : (opdI k r b x s p f n w m z).length ≤ 1000 := by
  have l1 := numI_len h0 h1
  have l2 := sgnI_len h0 h1
  have l3 := regI_len r z
  have l6 := modI_len m
  have hw : w.length ≤ 255 ∧ 0 ≤ s ∧ s ≤ 8 := by
    simp only [okO, Bool.or_eq_true] at h
    rcases h with ((h | h) | h) | h
    · have := reg_shape h; obtain ⟨_, _, _, rfl, _, _, _, rfl, _⟩ := this; simp
    · have := imm_shape h; obtain ⟨_, _, _, _, rfl, _, _, rfl, _⟩ := this; simp
    · have := (mem_shapes h).2.2
      rcases this with ⟨_, _, _, _, rfl, ⟨rfl, _⟩ | ⟨c, w', rfl, hw, _⟩⟩ | ⟨_, _, _, _, rfl, ⟨rfl, _⟩ | ⟨c, w', rfl, hw, _⟩⟩ | ⟨_, _, _, ⟨rfl, _⟩ | ⟨c, w', rfl, hw, _⟩, ⟨_, rfl⟩ | ⟨_, h2, h3⟩⟩
      all_goals first | (refine ⟨hw, ?_, ?_⟩ <;> first | assumption | omega) | (refine ⟨by simp, ?_, ?_⟩ <;> first | assumption | omega)
    · have := tgt_shape h; obtain ⟨_, _, _, _, rfl, _, _, ⟨rfl, _⟩ | ⟨c, w', rfl, hw, _⟩⟩ := this
      · simp
      · exact ⟨hw, by omega, by omega⟩
  have lm := memI_len (b := b) (x := x) (p := p) (f := f) (m := m) h0 h1 hw.2.1 hw.2.2 hw.1
  unfold opdI
  refine cond_len (by simp only [List.length_cons]; omega) (cond_len (by simp only [List.length_cons]; omega) (cond_len (by omega) (cond_len (by simp only [List.length_cons]; omega) (by simp only [List.length_append]; omega))))
theorem at4 : Tryz.prog.funcs[4]? = some (fnOf Tryz.prog 4) := by kernel_rfl
abbrev Y4 : Type := Int → Int → Int → Int → Int → Int → Int → Int → Bool → Bool → Int → List Int → Int → Int → Int → Int → Int → Int → Bool → Bool → Int → List Int → Int → Bool → (List Int → Int → Prop) → (List Int → Prop) → Prop
set_option maxHeartbeats 4000000 in
set_option maxRecDepth 100000 in
def F4  (iop isz ico tk tr tb tx ts : Int) (tp tf : Bool) (tn : Int) (tw : List Int) (tm fk fr fb fx fs : Int) (fp ff : Bool) (fn : Int) (fw : List Int) (fm : Int) (sh : Bool) (k1 : List Int → Int → Prop) (k2 : List Int → Prop) : Prop :=
  let q23 := (!(noneB fk fr fb fx fs fp ff fn fw fm))
  let q16 := (!(noneB tk tr tb tx ts tp tf tn tw tm))
  let q6 := (opdI tk tr tb tx ts tp tf tn tw tm isz)
  let q20 := (decide ((1 + (List.length q6)) ≤ 4611686018427387904))
  let q11 := ([44, 32] : List Int)
  let q10 := (opdI fk fr fb fx fs fp ff fn fw fm isz)
  let q17 := (([42] : List Int) ++ q6)
  let q25 := (q10 ++ (q11 ++ q17))
  let q18 := (nameI iop isz ico)
  let q9 := (q18 ++ ([32, 115, 104, 111, 114, 116] : List Int))
  let q28 := (List.length q9)
  let q13 := ([32] : List Int)
  let q22 := (joi1 q11 q10 (bif (decide ((1 + (List.length q10)) ≤ 4611686018427387904)) then (bif (decide ((q28 + (List.length (q13 ++ q10))) ≤ 4611686018427387904)) then (k2 (q9 ++ (q13 ++ q10))) else False) else False))
  let q19 := (decide ((0 + (List.length q6)) ≤ 4611686018427387904))
  let q26 := (q11 ++ q6)
  let q15 := (bif q16 then (opdS tk tr tb tx ts tp tf tn tw tm (bif q19 then (joi1 q11 q6 (bif q20 then (bif (decide ((q28 + (List.length (q13 ++ q6))) ≤ 4611686018427387904)) then (k2 (q9 ++ (q13 ++ q6))) else False) else False)) else False)) else (k2 q9))
  let q4 := (bif q23 then (opdS fk fr fb fx fs fp ff fn fw fm (bif q16 then (opdS tk tr tb tx ts tp tf tn tw tm (bif q19 then (joi2 q11 q10 q6 (bif (decide ((1 + (List.length (q10 ++ q26))) ≤ 4611686018427387904)) then (bif (decide ((q28 + (List.length (q13 ++ (q10 ++ q26)))) ≤ 4611686018427387904)) then (k2 (q9 ++ (q13 ++ (q10 ++ q26)))) else False) else False)) else False)) else q22)) else q15)
  let q7 := (bif (tk != 4) then (bif q23 then (opdS fk fr fb fx fs fp ff fn fw fm (bif q16 then (opdS tk tr tb tx ts tp tf tn tw tm (bif q20 then (joi2 q11 q10 q17 (bif (decide ((1 + (List.length q25)) ≤ 4611686018427387904)) then (bif (decide ((q28 + (List.length (q13 ++ q25))) ≤ 4611686018427387904)) then (k2 (q9 ++ (q13 ++ q25))) else False) else False)) else False)) else q22)) else (bif q16 then (opdS tk tr tb tx ts tp tf tn tw tm (bif q20 then (joi1 q11 q17 (bif (decide ((1 + (List.length q17)) ≤ 4611686018427387904)) then (bif (decide ((q28 + (List.length (q13 ++ q17))) ≤ 4611686018427387904)) then (k2 (q9 ++ (q13 ++ q17))) else False) else False)) else False)) else (k2 q9))) else q4)
  let q0 := (bif (iop == 22) then (bif (iop == 22) then q7 else q4) else (bif (iop == 23) then q7 else q4))
  let q24 := (List.length q18)
  let q21 := (joi1 q11 q10 (bif (decide ((1 + (List.length q10)) ≤ 4611686018427387904)) then (bif (decide ((q24 + (List.length (q13 ++ q10))) ≤ 4611686018427387904)) then (k2 (q18 ++ (q13 ++ q10))) else False) else False))
  let q14 := (bif q16 then (opdS tk tr tb tx ts tp tf tn tw tm (bif q19 then (joi1 q11 q6 (bif q20 then (bif (decide ((q24 + (List.length (q13 ++ q6))) ≤ 4611686018427387904)) then (k2 (q18 ++ (q13 ++ q6))) else False) else False)) else False)) else (k2 q18))
  let q5 := (bif q23 then (opdS fk fr fb fx fs fp ff fn fw fm (bif q16 then (opdS tk tr tb tx ts tp tf tn tw tm (bif q19 then (joi2 q11 q10 q6 (bif (decide ((1 + (List.length (q10 ++ q26))) ≤ 4611686018427387904)) then (bif (decide ((q24 + (List.length (q13 ++ (q10 ++ q26)))) ≤ 4611686018427387904)) then (k2 (q18 ++ (q13 ++ (q10 ++ q26)))) else False) else False)) else False)) else q21)) else q14)
  let q8 := (bif (tk != 4) then (bif q23 then (opdS fk fr fb fx fs fp ff fn fw fm (bif q16 then (opdS tk tr tb tx ts tp tf tn tw tm (bif q20 then (joi2 q11 q10 q17 (bif (decide ((1 + (List.length q25)) ≤ 4611686018427387904)) then (bif (decide ((q24 + (List.length (q13 ++ q25))) ≤ 4611686018427387904)) then (k2 (q18 ++ (q13 ++ q25))) else False) else False)) else False)) else q21)) else (bif q16 then (opdS tk tr tb tx ts tp tf tn tw tm (bif q20 then (joi1 q11 q17 (bif (decide ((1 + (List.length q17)) ≤ 4611686018427387904)) then (bif (decide ((q24 + (List.length (q13 ++ q17))) ≤ 4611686018427387904)) then (k2 (q18 ++ (q13 ++ q17))) else False) else False)) else False)) else (k2 q18))) else q5)
  let q1 := (bif (iop == 22) then (bif (iop == 22) then q8 else q5) else (bif (iop == 23) then q8 else q5))
  let q12 := (opdI fk fr fb fx fs fp ff fn fw fm 1)
  let q2 := (bif q23 then (opdS fk fr fb fx fs fp ff fn fw fm (bif q16 then (opdS tk tr tb tx ts tp tf tn tw tm (bif q19 then (joi2 q11 q12 q6 (bif (decide ((1 + (List.length (q12 ++ q26))) ≤ 4611686018427387904)) then (bif (decide ((q28 + (List.length (q13 ++ (q12 ++ q26)))) ≤ 4611686018427387904)) then (k2 (q9 ++ (q13 ++ (q12 ++ q26)))) else False) else False)) else False)) else (joi1 q11 q12 (bif (decide ((1 + (List.length q12)) ≤ 4611686018427387904)) then (bif (decide ((q28 + (List.length (q13 ++ q12))) ≤ 4611686018427387904)) then (k2 (q9 ++ (q13 ++ q12))) else False) else False)))) else q15)
  let q3 := (bif q23 then (opdS fk fr fb fx fs fp ff fn fw fm (bif q16 then (opdS tk tr tb tx ts tp tf tn tw tm (bif q19 then (joi2 q11 q12 q6 (bif (decide ((1 + (List.length (q12 ++ q26))) ≤ 4611686018427387904)) then (bif (decide ((q24 + (List.length (q13 ++ (q12 ++ q26)))) ≤ 4611686018427387904)) then (k2 (q18 ++ (q13 ++ (q12 ++ q26)))) else False) else False)) else False)) else (joi1 q11 q12 (bif (decide ((1 + (List.length q12)) ≤ 4611686018427387904)) then (bif (decide ((q24 + (List.length (q13 ++ q12))) ≤ 4611686018427387904)) then (k2 (q18 ++ (q13 ++ q12))) else False) else False)))) else q14)
  let q27 := (chkE iop isz ico tk tr tb tx ts tp tf tn tw tm fk fr fb fx fs fp ff fn fw fm sh)
  (bif (q27 != 0) then (k1 ([] : List Int) q27) else (bif sh then (bif (decide ((q24 + 6) ≤ 4611686018427387904)) then (bif ((isz == isz) && true) then (bif (iop == 29) then (bif (iop == 29) then q2 else q0) else (bif (iop == 30) then (bif (iop == 30) then q2 else q0) else (bif (iop == 17) then (bif (iop == 17) then q2 else q0) else (bif (iop == 18) then (bif (iop == 18) then q2 else q0) else (bif (iop == 19) then q2 else q0))))) else False) else False) else (bif ((isz == isz) && true) then (bif (iop == 29) then (bif (iop == 29) then q3 else q1) else (bif (iop == 30) then (bif (iop == 30) then q3 else q1) else (bif (iop == 17) then (bif (iop == 17) then q3 else q1) else (bif (iop == 18) then (bif (iop == 18) then q3 else q1) else (bif (iop == 19) then q3 else q1))))) else False)))
theorem F4_ok  (iop isz ico tk tr tb tx ts : Int) (tp tf : Bool) (tn : Int) (tw : List Int) (tm fk fr fb fx fs : Int) (fp ff : Bool) (fn : Int) (fw : List Int) (fm : Int) (sh : Bool) (K : V → Mem → Prop) : cbody Tryz.prog CA (fun _ => none) 1000 (fnOf Tryz.prog 4) [(.agg [(.I .i64 iop), (.I .i64 isz), (.I .i64 ico), (.I .i64 tk), (.I .i64 tr), (.I .i64 tb), (.I .i64 tx), (.I .i64 ts), (.B tp), (.B tf), (.I .i64 tn), (.S tw), (.I .i64 tm), (.I .i64 fk), (.I .i64 fr), (.I .i64 fb), (.I .i64 fx), (.I .i64 fs), (.B fp), (.B ff), (.I .i64 fn), (.S fw), (.I .i64 fm), (.B sh)])] [] K =
    F4  iop isz ico tk tr tb tx ts tp tf tn tw tm fk fr fb fx fs fp ff fn fw fm sh (fun (u0 : List Int) (u1 : Int) => K (.tup [(.S u0), (.I .i64 u1)]) []) (fun (u0 : List Int) => K (.tup [(.S u0), (.I .i64 0)]) []) := by kernel_rfl
end Go.Proofs.YtkbijhfikkjhpaaGreatDoor.frm
set_option linter.unusedVariables false
set_option linter.unusedSimpArgs false
set_option maxHeartbeats 4000000
set_option maxRecDepth 100000
namespace Go.Proofs.YtkbijhfikkjhpaaGreatDoor.frm
open Go Go.Ab Go.Proofs.YtkbijhfikkjhpaaGreatDoor.fc
theorem h4 (iop isz ico tk tr tb tx ts : Int) (tp tf : Bool) (tn : Int) (tw : List Int) (tm fk fr fb fx fs : Int) (fp ff : Bool) (fn : Int) (fw : List Int) (fm : Int) (sh : Bool) (k1 : List Int → Int → Prop) (k2 : List Int → Prop) (ht0 : -9223372036854775808 ≤ tn) (ht1 : tn ≤ 9223372036854775807) (hf0 : -9223372036854775808 ≤ fn) (hf1 : fn ≤ 9223372036854775807)
    (h1 : validB iop isz ico tk tr tb tx ts tp tf tn tw tm fk fr fb fx fs fp ff fn fw fm sh = false → k1 [] 30) (h2 : validB iop isz ico tk tr tb tx ts tp tf tn tw tm fk fr fb fx fs fp ff fn fw fm sh = true → k2 (txtI iop isz ico tk tr tb tx ts tp tf tn tw tm fk fr fb fx fs fp ff fn fw fm sh)) : F4 iop isz ico tk tr tb tx ts tp tf tn tw tm fk fr fb fx fs fp ff fn fw fm sh k1 k2 := by
  cases hv : validB iop isz ico tk tr tb tx ts tp tf tn tw tm fk fr fb fx fs fp ff fn fw fm sh with
  | false =>
    have hc : chkE iop isz ico tk tr tb tx ts tp tf tn tw tm fk fr fb fx fs fp ff fn fw fm sh = 30 := by unfold chkE; rw [hv]; rfl
    unfold F4
    rw [hc]
    exact h1 hv
  | true =>
    have hc : (chkE iop isz ico tk tr tb tx ts tp tf tn tw tm fk fr fb fx fs fp ff fn fw fm sh != 0) = false := by unfold chkE; rw [hv]; rfl
    replace h2 := h2 hv
    obtain ⟨hot, hof⟩ := valid_ops hv
    have lN := nameI_len iop isz ico
    have lt : okO tk tr tb tx ts tp tf tn tw tm = true → (opdI tk tr tb tx ts tp tf tn tw tm isz).length ≤ 1000 := opdI_len ht0 ht1
    have lf : okO fk fr fb fx fs fp ff fn fw fm = true → (opdI fk fr fb fx fs fp ff fn fw fm isz).length ≤ 1000 := opdI_len hf0 hf1
    have lf1 : okO fk fr fb fx fs fp ff fn fw fm = true → (opdI fk fr fb fx fs fp ff fn fw fm 1).length ≤ 1000 := opdI_len hf0 hf1
    clear hv
    unfold F4
    simp only [↓cof hc, ↓cond_false, beq_self_eq_true, Bool.and_true] 
    clear hc
    unfold txtI at h2
    generalize nameI iop isz ico = NM at *
    generalize (opdI tk tr tb tx ts tp tf tn tw tm isz) = OT at *
    generalize (opdI fk fr fb fx fs fp ff fn fw fm isz) = OF at *
    generalize (opdI fk fr fb fx fs fp ff fn fw fm 1) = OG at *
    unfold smallF starF at h2
    cases hnt : noneB tk tr tb tx ts tp tf tn tw tm <;> cases hnf : noneB fk fr fb fx fs fp ff fn fw fm <;> rw [hnt] at hot h2 <;> rw [hnf] at hof h2 <;> simp only [Bool.false_eq_true, false_or, true_or] at hot hof <;>
      cases htk : (tk != 4) <;> cases sh <;> rcases op_cls iop with ⟨c1, c2, c3, c4, c5, c6, c7⟩ | ⟨c1, c2, c3, c4, c5, c6, c7⟩ | ⟨c1, c2, c3, c4, c5, c6, c7⟩ | ⟨c1, c2, c3, c4, c5, c6, c7⟩ | ⟨c1, c2, c3, c4, c5, c6, c7⟩ | ⟨c1, c2, c3, c4, c5, c6, c7⟩ | ⟨c1, c2, c3, c4, c5, c6, c7⟩ | ⟨c1, c2, c3, c4, c5, c6, c7⟩ <;>
      simp only [htk, c1, c2, c3, c4, c5, c6, c7, Bool.or_true, Bool.or_false, Bool.true_or, Bool.false_or, Bool.and_true, Bool.and_false, Bool.true_and, Bool.false_and, cond_true, cond_false, List.append_assoc, List.nil_append, List.cons_append, List.append_nil] at h2 <;>
      (have hnt1 := congrArg not hnt; have hnf1 := congrArg not hnf; simp only [Bool.not_true, Bool.not_false] at hnt1 hnf1;
       simp only [↓cof htk, ↓cof hnt, ↓cof hnt1, ↓cof hnf, ↓cof hnf1, ↓cof c1, ↓cof c2, ↓cof c3, ↓cof c4, ↓cof c5, ↓cof c6, ↓cof c7, ↓cond_true, ↓cond_false, ↓candF, ↓cdec, ↓ctrF, opdS, joi1, joi2];
       simp only [List.length_append, List.length_cons, List.length_nil];
       (repeat' apply And.intro) <;> first | trivial | exact hot | exact hof | omega | (have := lt hot; omega) | (have := lf hof; omega) | (have := lf1 hof; omega) | (have := lt hot; have := lf hof; omega) | (have := lt hot; have := lf1 hof; omega) | rfl | (simp only [List.append_assoc, List.nil_append, List.cons_append, List.append_nil]; exact h2))
end Go.Proofs.YtkbijhfikkjhpaaGreatDoor.frm
