import Derived.Test.YtaajhdkngiemlaaDoorFrmQ
set_option linter.unusedVariables false
set_option linter.unusedSimpArgs false
set_option maxHeartbeats 0
set_option maxRecDepth 100000
namespace Go.Proofs.YtaajhdkngiemlaaDoor.frm
open Go Go.Ab
theorem c7_cases {op : Int} {isz ico : Int} {tk tr tb tx ts : Int} {tp tf : Bool} {tn : Int} {tw : List Int} {tm : Int} {fk fr fb fx fs : Int} {fp ff : Bool} {fn : Int} {fw : List Int} {fm : Int} {sh : Bool} {k : Int → Prop} (h : k (usesE op isz ico tk tr tb tx ts tp tf tn tw tm fk fr fb fx fs fp ff fn fw fm sh)) :
    (validB op isz ico tk tr tb tx ts tp tf tn tw tm fk fr fb fx fs fp ff fn fw fm sh = false ∧ chkE op isz ico tk tr tb tx ts tp tf tn tw tm fk fr fb fx fs fp ff fn fw fm sh = 30 ∧ k 0) ∨ (validB op isz ico tk tr tb tx ts tp tf tn tw tm fk fr fb fx fs fp ff fn fw fm sh = true ∧ chkE op isz ico tk tr tb tx ts tp tf tn tw tm fk fr fb fx fs fp ff fn fw fm sh = 0 ∧ k ((usesV op isz tk tr tb tx fk fr fb fx).toNat : Int)) := by
  cases hv : validB op isz ico tk tr tb tx ts tp tf tn tw tm fk fr fb fx fs fp ff fn fw fm sh with
  | false => exact .inl ⟨rfl, by unfold chkE; rw [hv]; rfl, by unfold usesE at h; rw [hv] at h; exact h⟩
  | true => exact .inr ⟨rfl, by unfold chkE; rw [hv]; rfl, by unfold usesE at h; rw [hv] at h; exact h⟩
theorem c7_A (isz ico : Int) (tk tr tb tx ts : Int) (tp tf : Bool) (tn : Int) (tw : List Int) (tm : Int) (fk fr fb fx fs : Int) (fp ff : Bool) (fn : Int) (fw : List Int) (fm : Int) (sh : Bool) (k : Int → Prop) : (k (usesE 1 isz ico tk tr tb tx ts tp tf tn tw tm fk fr fb fx fs fp ff fn fw fm sh) → G7_1 isz ico tk tr tb tx ts tp tf tn tw tm fk fr fb fx fs fp ff fn fw fm sh (k 0) (fun u => k u)) ∧
    (k (usesE 2 isz ico tk tr tb tx ts tp tf tn tw tm fk fr fb fx fs fp ff fn fw fm sh) → G7_2 isz ico tk tr tb tx ts tp tf tn tw tm fk fr fb fx fs fp ff fn fw fm sh (k 0) (fun u => k u)) ∧
    (k (usesE 3 isz ico tk tr tb tx ts tp tf tn tw tm fk fr fb fx fs fp ff fn fw fm sh) → G7_3 isz ico tk tr tb tx ts tp tf tn tw tm fk fr fb fx fs fp ff fn fw fm sh (k 0) (fun u => k u)) ∧
    (k (usesE 4 isz ico tk tr tb tx ts tp tf tn tw tm fk fr fb fx fs fp ff fn fw fm sh) → G7_4 isz ico tk tr tb tx ts tp tf tn tw tm fk fr fb fx fs fp ff fn fw fm sh (k 0) (fun u => k u)) ∧
    (k (usesE 5 isz ico tk tr tb tx ts tp tf tn tw tm fk fr fb fx fs fp ff fn fw fm sh) → G7_5 isz ico tk tr tb tx ts tp tf tn tw tm fk fr fb fx fs fp ff fn fw fm sh (k 0) (fun u => k u)) ∧
    (k (usesE 6 isz ico tk tr tb tx ts tp tf tn tw tm fk fr fb fx fs fp ff fn fw fm sh) → G7_6 isz ico tk tr tb tx ts tp tf tn tw tm fk fr fb fx fs fp ff fn fw fm sh (k 0) (fun u => k u)) ∧
    (k (usesE 7 isz ico tk tr tb tx ts tp tf tn tw tm fk fr fb fx fs fp ff fn fw fm sh) → G7_7 isz ico tk tr tb tx ts tp tf tn tw tm fk fr fb fx fs fp ff fn fw fm sh (k 0) (fun u => k u)) ∧
    (k (usesE 8 isz ico tk tr tb tx ts tp tf tn tw tm fk fr fb fx fs fp ff fn fw fm sh) → G7_8 isz ico tk tr tb tx ts tp tf tn tw tm fk fr fb fx fs fp ff fn fw fm sh (k 0) (fun u => k u)) ∧
    (k (usesE 9 isz ico tk tr tb tx ts tp tf tn tw tm fk fr fb fx fs fp ff fn fw fm sh) → G7_9 isz ico tk tr tb tx ts tp tf tn tw tm fk fr fb fx fs fp ff fn fw fm sh (k 0) (fun u => k u)) := by
  refine ⟨?_, ?_, ?_, ?_, ?_, ?_, ?_, ?_, ?_⟩ <;> intro h <;> rcases c7_cases h with ⟨hv, e1, h⟩ | ⟨hv, e1, h⟩
  all_goals first | unfold G7_1 F7_1 | unfold G7_2 F7_2 | unfold G7_3 F7_3 | unfold G7_4 F7_4 | unfold G7_5 F7_5 | unfold G7_6 F7_6 | unfold G7_7 F7_7 | unfold G7_8 F7_8 | unfold G7_9 F7_9
  all_goals rw [e1]
  all_goals first
    | exact h
    | skip
  all_goals obtain ⟨ft1, ft2⟩ := factsT hv
  all_goals obtain ⟨ff1, ff2⟩ := factsF hv
  all_goals obtain ⟨u1, u2, u3, u4, u5⟩ := kindsK tk tr tb tx ts tp tf tn tw tm
  all_goals obtain ⟨v1, v2, v3, v4, v5⟩ := kindsK fk fr fb fx fs fp ff fn fw fm
  all_goals have bT : tk = 1 → bitI tr = ((bV tr).toNat : Int) := fun e => bitI_V (ft2 e).1 (ft2 e).2
  all_goals have bF : fk = 1 → bitI fr = ((bV fr).toNat : Int) := fun e => bitI_V (ff2 e).1 (ff2 e).2
  all_goals have rT : tk = 1 → bitR tr = ((bV tr).toNat : Int) := fun e => bitR_V (ft2 e).1 (ft2 e).2
  all_goals have rF : fk = 1 → bitR fr = ((bV fr).toNat : Int) := fun e => bitR_V (ff2 e).1 (ff2 e).2
  all_goals have wT := wrapU tr
  all_goals have wF := wrapU fr
  all_goals simp [validB, sizeB, condB, opsB] at hv
  all_goals simp only [show ((0 : Int) != 0) = false from rfl, cond_false, foldI_, foldR_, insI_V ft1, insI_V ff1, insR_V ft1 ft2, insR_V ff1 ff2]
  all_goals clear e1
  all_goals (repeat' refine cond_ind (fun _ => ?_) (fun _ => ?_))
  all_goals first
      | (exfalso; clear bT bF rT rF; simp_all; done)
      | (exfalso; clear bT bF rT rF; simp_all; omega)
      | (refine Eq.mp (congrArg k ?_) h
         (try rw [bF (by clear bT bF rT rF; simp_all; done)])
         (try rw [bT (by clear bT bF rT rF; simp_all; done)])
         (try rw [rF (by clear bT bF rT rF; simp_all; done)])
         (try rw [rT (by clear bT bF rT rF; simp_all; done)])
         clear bT bF rT rF
         try simp only [orI, orI0, orI0', o16_, o32_, o1_, o197_, o48_, o4_, o2051_, o128_, o64_]
         first
         | (refine congrArg (fun v : BitVec 16 => ((v.toNat : Nat) : Int)) ?_
            simp_all [usesV, readB, extraU, writesB, extraS, insV, Bool.cond_eq_ite]
            done)
         | (refine congrArg (fun v : BitVec 16 => ((v.toNat : Nat) : Int)) ?_
            simp_all [usesV, readB, extraU, writesB, extraS, insV, Bool.cond_eq_ite]
            ac_rfl)
         | (refine congrArg (fun v : BitVec 16 => ((v.toNat : Nat) : Int)) ?_
            by_cases t1 : tk = 1 <;> by_cases t3 : tk = 3 <;> by_cases f1 : fk = 1 <;> by_cases f3 : fk = 3 <;> simp_all [usesV, readB, extraU, writesB, extraS, insV, Bool.cond_eq_ite] <;> ac_rfl)
         | (simp_all [usesV, readB, extraU, writesB, extraS, insV, Bool.cond_eq_ite]; done))
theorem c7_B (isz ico : Int) (tk tr tb tx ts : Int) (tp tf : Bool) (tn : Int) (tw : List Int) (tm : Int) (fk fr fb fx fs : Int) (fp ff : Bool) (fn : Int) (fw : List Int) (fm : Int) (sh : Bool) (k : Int → Prop) : (k (usesE 10 isz ico tk tr tb tx ts tp tf tn tw tm fk fr fb fx fs fp ff fn fw fm sh) → G7_10 isz ico tk tr tb tx ts tp tf tn tw tm fk fr fb fx fs fp ff fn fw fm sh (k 0) (fun u => k u)) ∧
    (k (usesE 11 isz ico tk tr tb tx ts tp tf tn tw tm fk fr fb fx fs fp ff fn fw fm sh) → G7_11 isz ico tk tr tb tx ts tp tf tn tw tm fk fr fb fx fs fp ff fn fw fm sh (k 0) (fun u => k u)) ∧
    (k (usesE 12 isz ico tk tr tb tx ts tp tf tn tw tm fk fr fb fx fs fp ff fn fw fm sh) → G7_12 isz ico tk tr tb tx ts tp tf tn tw tm fk fr fb fx fs fp ff fn fw fm sh (k 0) (fun u => k u)) ∧
    (k (usesE 13 isz ico tk tr tb tx ts tp tf tn tw tm fk fr fb fx fs fp ff fn fw fm sh) → G7_13 isz ico tk tr tb tx ts tp tf tn tw tm fk fr fb fx fs fp ff fn fw fm sh (k 0) (fun u => k u)) ∧
    (k (usesE 14 isz ico tk tr tb tx ts tp tf tn tw tm fk fr fb fx fs fp ff fn fw fm sh) → G7_14 isz ico tk tr tb tx ts tp tf tn tw tm fk fr fb fx fs fp ff fn fw fm sh (k 0) (fun u => k u)) ∧
    (k (usesE 15 isz ico tk tr tb tx ts tp tf tn tw tm fk fr fb fx fs fp ff fn fw fm sh) → G7_15 isz ico tk tr tb tx ts tp tf tn tw tm fk fr fb fx fs fp ff fn fw fm sh (k 0) (fun u => k u)) ∧
    (k (usesE 16 isz ico tk tr tb tx ts tp tf tn tw tm fk fr fb fx fs fp ff fn fw fm sh) → G7_16 isz ico tk tr tb tx ts tp tf tn tw tm fk fr fb fx fs fp ff fn fw fm sh (k 0) (fun u => k u)) ∧
    (k (usesE 17 isz ico tk tr tb tx ts tp tf tn tw tm fk fr fb fx fs fp ff fn fw fm sh) → G7_17 isz ico tk tr tb tx ts tp tf tn tw tm fk fr fb fx fs fp ff fn fw fm sh (k 0) (fun u => k u)) ∧
    (k (usesE 18 isz ico tk tr tb tx ts tp tf tn tw tm fk fr fb fx fs fp ff fn fw fm sh) → G7_18 isz ico tk tr tb tx ts tp tf tn tw tm fk fr fb fx fs fp ff fn fw fm sh (k 0) (fun u => k u)) := by
  refine ⟨?_, ?_, ?_, ?_, ?_, ?_, ?_, ?_, ?_⟩ <;> intro h <;> rcases c7_cases h with ⟨hv, e1, h⟩ | ⟨hv, e1, h⟩
  all_goals first | unfold G7_10 F7_10 | unfold G7_11 F7_11 | unfold G7_12 F7_12 | unfold G7_13 F7_13 | unfold G7_14 F7_14 | unfold G7_15 F7_15 | unfold G7_16 F7_16 | unfold G7_17 F7_17 | unfold G7_18 F7_18
  all_goals rw [e1]
  all_goals first
    | exact h
    | skip
  all_goals obtain ⟨ft1, ft2⟩ := factsT hv
  all_goals obtain ⟨ff1, ff2⟩ := factsF hv
  all_goals obtain ⟨u1, u2, u3, u4, u5⟩ := kindsK tk tr tb tx ts tp tf tn tw tm
  all_goals obtain ⟨v1, v2, v3, v4, v5⟩ := kindsK fk fr fb fx fs fp ff fn fw fm
  all_goals have bT : tk = 1 → bitI tr = ((bV tr).toNat : Int) := fun e => bitI_V (ft2 e).1 (ft2 e).2
  all_goals have bF : fk = 1 → bitI fr = ((bV fr).toNat : Int) := fun e => bitI_V (ff2 e).1 (ff2 e).2
  all_goals have rT : tk = 1 → bitR tr = ((bV tr).toNat : Int) := fun e => bitR_V (ft2 e).1 (ft2 e).2
  all_goals have rF : fk = 1 → bitR fr = ((bV fr).toNat : Int) := fun e => bitR_V (ff2 e).1 (ff2 e).2
  all_goals have wT := wrapU tr
  all_goals have wF := wrapU fr
  all_goals simp [validB, sizeB, condB, opsB] at hv
  all_goals simp only [show ((0 : Int) != 0) = false from rfl, cond_false, foldI_, foldR_, insI_V ft1, insI_V ff1, insR_V ft1 ft2, insR_V ff1 ff2]
  all_goals clear e1
  all_goals (repeat' refine cond_ind (fun _ => ?_) (fun _ => ?_))
  all_goals first
      | (exfalso; clear bT bF rT rF; simp_all; done)
      | (exfalso; clear bT bF rT rF; simp_all; omega)
      | (refine Eq.mp (congrArg k ?_) h
         (try rw [bF (by clear bT bF rT rF; simp_all; done)])
         (try rw [bT (by clear bT bF rT rF; simp_all; done)])
         (try rw [rF (by clear bT bF rT rF; simp_all; done)])
         (try rw [rT (by clear bT bF rT rF; simp_all; done)])
         clear bT bF rT rF
         try simp only [orI, orI0, orI0', o16_, o32_, o1_, o197_, o48_, o4_, o2051_, o128_, o64_]
         first
         | (refine congrArg (fun v : BitVec 16 => ((v.toNat : Nat) : Int)) ?_
            simp_all [usesV, readB, extraU, writesB, extraS, insV, Bool.cond_eq_ite]
            done)
         | (refine congrArg (fun v : BitVec 16 => ((v.toNat : Nat) : Int)) ?_
            simp_all [usesV, readB, extraU, writesB, extraS, insV, Bool.cond_eq_ite]
            ac_rfl)
         | (refine congrArg (fun v : BitVec 16 => ((v.toNat : Nat) : Int)) ?_
            by_cases t1 : tk = 1 <;> by_cases t3 : tk = 3 <;> by_cases f1 : fk = 1 <;> by_cases f3 : fk = 3 <;> simp_all [usesV, readB, extraU, writesB, extraS, insV, Bool.cond_eq_ite] <;> ac_rfl)
         | (simp_all [usesV, readB, extraU, writesB, extraS, insV, Bool.cond_eq_ite]; done))
theorem c7_C (isz ico : Int) (tk tr tb tx ts : Int) (tp tf : Bool) (tn : Int) (tw : List Int) (tm : Int) (fk fr fb fx fs : Int) (fp ff : Bool) (fn : Int) (fw : List Int) (fm : Int) (sh : Bool) (k : Int → Prop) : (k (usesE 19 isz ico tk tr tb tx ts tp tf tn tw tm fk fr fb fx fs fp ff fn fw fm sh) → G7_19 isz ico tk tr tb tx ts tp tf tn tw tm fk fr fb fx fs fp ff fn fw fm sh (k 0) (fun u => k u)) ∧
    (k (usesE 20 isz ico tk tr tb tx ts tp tf tn tw tm fk fr fb fx fs fp ff fn fw fm sh) → G7_20 isz ico tk tr tb tx ts tp tf tn tw tm fk fr fb fx fs fp ff fn fw fm sh (k 0) (fun u => k u)) ∧
    (k (usesE 21 isz ico tk tr tb tx ts tp tf tn tw tm fk fr fb fx fs fp ff fn fw fm sh) → G7_21 isz ico tk tr tb tx ts tp tf tn tw tm fk fr fb fx fs fp ff fn fw fm sh (k 0) (fun u => k u)) ∧
    (k (usesE 22 isz ico tk tr tb tx ts tp tf tn tw tm fk fr fb fx fs fp ff fn fw fm sh) → G7_22 isz ico tk tr tb tx ts tp tf tn tw tm fk fr fb fx fs fp ff fn fw fm sh (k 0) (fun u => k u)) ∧
    (k (usesE 23 isz ico tk tr tb tx ts tp tf tn tw tm fk fr fb fx fs fp ff fn fw fm sh) → G7_23 isz ico tk tr tb tx ts tp tf tn tw tm fk fr fb fx fs fp ff fn fw fm sh (k 0) (fun u => k u)) ∧
    (k (usesE 24 isz ico tk tr tb tx ts tp tf tn tw tm fk fr fb fx fs fp ff fn fw fm sh) → G7_24 isz ico tk tr tb tx ts tp tf tn tw tm fk fr fb fx fs fp ff fn fw fm sh (k 0) (fun u => k u)) ∧
    (k (usesE 25 isz ico tk tr tb tx ts tp tf tn tw tm fk fr fb fx fs fp ff fn fw fm sh) → G7_25 isz ico tk tr tb tx ts tp tf tn tw tm fk fr fb fx fs fp ff fn fw fm sh (k 0) (fun u => k u)) ∧
    (k (usesE 26 isz ico tk tr tb tx ts tp tf tn tw tm fk fr fb fx fs fp ff fn fw fm sh) → G7_26 isz ico tk tr tb tx ts tp tf tn tw tm fk fr fb fx fs fp ff fn fw fm sh (k 0) (fun u => k u)) ∧
    (k (usesE 27 isz ico tk tr tb tx ts tp tf tn tw tm fk fr fb fx fs fp ff fn fw fm sh) → G7_27 isz ico tk tr tb tx ts tp tf tn tw tm fk fr fb fx fs fp ff fn fw fm sh (k 0) (fun u => k u)) := by
  refine ⟨?_, ?_, ?_, ?_, ?_, ?_, ?_, ?_, ?_⟩ <;> intro h <;> rcases c7_cases h with ⟨hv, e1, h⟩ | ⟨hv, e1, h⟩
  all_goals first | unfold G7_19 F7_19 | unfold G7_20 F7_20 | unfold G7_21 F7_21 | unfold G7_22 F7_22 | unfold G7_23 F7_23 | unfold G7_24 F7_24 | unfold G7_25 F7_25 | unfold G7_26 F7_26 | unfold G7_27 F7_27
  all_goals rw [e1]
  all_goals first
    | exact h
    | skip
  all_goals obtain ⟨ft1, ft2⟩ := factsT hv
  all_goals obtain ⟨ff1, ff2⟩ := factsF hv
  all_goals obtain ⟨u1, u2, u3, u4, u5⟩ := kindsK tk tr tb tx ts tp tf tn tw tm
  all_goals obtain ⟨v1, v2, v3, v4, v5⟩ := kindsK fk fr fb fx fs fp ff fn fw fm
  all_goals have bT : tk = 1 → bitI tr = ((bV tr).toNat : Int) := fun e => bitI_V (ft2 e).1 (ft2 e).2
  all_goals have bF : fk = 1 → bitI fr = ((bV fr).toNat : Int) := fun e => bitI_V (ff2 e).1 (ff2 e).2
  all_goals have rT : tk = 1 → bitR tr = ((bV tr).toNat : Int) := fun e => bitR_V (ft2 e).1 (ft2 e).2
  all_goals have rF : fk = 1 → bitR fr = ((bV fr).toNat : Int) := fun e => bitR_V (ff2 e).1 (ff2 e).2
  all_goals have wT := wrapU tr
  all_goals have wF := wrapU fr
  all_goals simp [validB, sizeB, condB, opsB] at hv
  all_goals simp only [show ((0 : Int) != 0) = false from rfl, cond_false, foldI_, foldR_, insI_V ft1, insI_V ff1, insR_V ft1 ft2, insR_V ff1 ff2]
  all_goals clear e1
  all_goals (repeat' refine cond_ind (fun _ => ?_) (fun _ => ?_))
  all_goals first
      | (exfalso; clear bT bF rT rF; simp_all; done)
      | (exfalso; clear bT bF rT rF; simp_all; omega)
      | (refine Eq.mp (congrArg k ?_) h
         (try rw [bF (by clear bT bF rT rF; simp_all; done)])
         (try rw [bT (by clear bT bF rT rF; simp_all; done)])
         (try rw [rF (by clear bT bF rT rF; simp_all; done)])
         (try rw [rT (by clear bT bF rT rF; simp_all; done)])
         clear bT bF rT rF
         try simp only [orI, orI0, orI0', o16_, o32_, o1_, o197_, o48_, o4_, o2051_, o128_, o64_]
         first
         | (refine congrArg (fun v : BitVec 16 => ((v.toNat : Nat) : Int)) ?_
            simp_all [usesV, readB, extraU, writesB, extraS, insV, Bool.cond_eq_ite]
            done)
         | (refine congrArg (fun v : BitVec 16 => ((v.toNat : Nat) : Int)) ?_
            simp_all [usesV, readB, extraU, writesB, extraS, insV, Bool.cond_eq_ite]
            ac_rfl)
         | (refine congrArg (fun v : BitVec 16 => ((v.toNat : Nat) : Int)) ?_
            by_cases t1 : tk = 1 <;> by_cases t3 : tk = 3 <;> by_cases f1 : fk = 1 <;> by_cases f3 : fk = 3 <;> simp_all [usesV, readB, extraU, writesB, extraS, insV, Bool.cond_eq_ite] <;> ac_rfl)
         | (simp_all [usesV, readB, extraU, writesB, extraS, insV, Bool.cond_eq_ite]; done))
theorem c7_D (isz ico : Int) (tk tr tb tx ts : Int) (tp tf : Bool) (tn : Int) (tw : List Int) (tm : Int) (fk fr fb fx fs : Int) (fp ff : Bool) (fn : Int) (fw : List Int) (fm : Int) (sh : Bool) (k : Int → Prop) : (k (usesE 28 isz ico tk tr tb tx ts tp tf tn tw tm fk fr fb fx fs fp ff fn fw fm sh) → G7_28 isz ico tk tr tb tx ts tp tf tn tw tm fk fr fb fx fs fp ff fn fw fm sh (k 0) (fun u => k u)) ∧
    (k (usesE 29 isz ico tk tr tb tx ts tp tf tn tw tm fk fr fb fx fs fp ff fn fw fm sh) → G7_29 isz ico tk tr tb tx ts tp tf tn tw tm fk fr fb fx fs fp ff fn fw fm sh (k 0) (fun u => k u)) ∧
    (k (usesE 30 isz ico tk tr tb tx ts tp tf tn tw tm fk fr fb fx fs fp ff fn fw fm sh) → G7_30 isz ico tk tr tb tx ts tp tf tn tw tm fk fr fb fx fs fp ff fn fw fm sh (k 0) (fun u => k u)) ∧
    (k (usesE 31 isz ico tk tr tb tx ts tp tf tn tw tm fk fr fb fx fs fp ff fn fw fm sh) → G7_31 isz ico tk tr tb tx ts tp tf tn tw tm fk fr fb fx fs fp ff fn fw fm sh (k 0) (fun u => k u)) ∧
    (k (usesE 32 isz ico tk tr tb tx ts tp tf tn tw tm fk fr fb fx fs fp ff fn fw fm sh) → G7_32 isz ico tk tr tb tx ts tp tf tn tw tm fk fr fb fx fs fp ff fn fw fm sh (k 0) (fun u => k u)) ∧
    (k (usesE 33 isz ico tk tr tb tx ts tp tf tn tw tm fk fr fb fx fs fp ff fn fw fm sh) → G7_33 isz ico tk tr tb tx ts tp tf tn tw tm fk fr fb fx fs fp ff fn fw fm sh (k 0) (fun u => k u)) ∧
    (k (usesE 34 isz ico tk tr tb tx ts tp tf tn tw tm fk fr fb fx fs fp ff fn fw fm sh) → G7_34 isz ico tk tr tb tx ts tp tf tn tw tm fk fr fb fx fs fp ff fn fw fm sh (k 0) (fun u => k u)) ∧
    (k (usesE 35 isz ico tk tr tb tx ts tp tf tn tw tm fk fr fb fx fs fp ff fn fw fm sh) → G7_35 isz ico tk tr tb tx ts tp tf tn tw tm fk fr fb fx fs fp ff fn fw fm sh (k 0) (fun u => k u)) := by
  refine ⟨?_, ?_, ?_, ?_, ?_, ?_, ?_, ?_⟩ <;> intro h <;> rcases c7_cases h with ⟨hv, e1, h⟩ | ⟨hv, e1, h⟩
  all_goals first | unfold G7_28 F7_28 | unfold G7_29 F7_29 | unfold G7_30 F7_30 | unfold G7_31 F7_31 | unfold G7_32 F7_32 | unfold G7_33 F7_33 | unfold G7_34 F7_34 | unfold G7_35 F7_35
  all_goals rw [e1]
  all_goals first
    | exact h
    | skip
  all_goals obtain ⟨ft1, ft2⟩ := factsT hv
  all_goals obtain ⟨ff1, ff2⟩ := factsF hv
  all_goals obtain ⟨u1, u2, u3, u4, u5⟩ := kindsK tk tr tb tx ts tp tf tn tw tm
  all_goals obtain ⟨v1, v2, v3, v4, v5⟩ := kindsK fk fr fb fx fs fp ff fn fw fm
  all_goals have bT : tk = 1 → bitI tr = ((bV tr).toNat : Int) := fun e => bitI_V (ft2 e).1 (ft2 e).2
  all_goals have bF : fk = 1 → bitI fr = ((bV fr).toNat : Int) := fun e => bitI_V (ff2 e).1 (ff2 e).2
  all_goals have rT : tk = 1 → bitR tr = ((bV tr).toNat : Int) := fun e => bitR_V (ft2 e).1 (ft2 e).2
  all_goals have rF : fk = 1 → bitR fr = ((bV fr).toNat : Int) := fun e => bitR_V (ff2 e).1 (ff2 e).2
  all_goals have wT := wrapU tr
  all_goals have wF := wrapU fr
  all_goals simp [validB, sizeB, condB, opsB] at hv
  all_goals simp only [show ((0 : Int) != 0) = false from rfl, cond_false, foldI_, foldR_, insI_V ft1, insI_V ff1, insR_V ft1 ft2, insR_V ff1 ff2]
  all_goals clear e1
  all_goals (repeat' refine cond_ind (fun _ => ?_) (fun _ => ?_))
  all_goals first
      | (exfalso; clear bT bF rT rF; simp_all; done)
      | (exfalso; clear bT bF rT rF; simp_all; omega)
      | (refine Eq.mp (congrArg k ?_) h
         (try rw [bF (by clear bT bF rT rF; simp_all; done)])
         (try rw [bT (by clear bT bF rT rF; simp_all; done)])
         (try rw [rF (by clear bT bF rT rF; simp_all; done)])
         (try rw [rT (by clear bT bF rT rF; simp_all; done)])
         clear bT bF rT rF
         try simp only [orI, orI0, orI0', o16_, o32_, o1_, o197_, o48_, o4_, o2051_, o128_, o64_]
         first
         | (refine congrArg (fun v : BitVec 16 => ((v.toNat : Nat) : Int)) ?_
            simp_all [usesV, readB, extraU, writesB, extraS, insV, Bool.cond_eq_ite]
            done)
         | (refine congrArg (fun v : BitVec 16 => ((v.toNat : Nat) : Int)) ?_
            simp_all [usesV, readB, extraU, writesB, extraS, insV, Bool.cond_eq_ite]
            ac_rfl)
         | (refine congrArg (fun v : BitVec 16 => ((v.toNat : Nat) : Int)) ?_
            by_cases t1 : tk = 1 <;> by_cases t3 : tk = 3 <;> by_cases f1 : fk = 1 <;> by_cases f3 : fk = 3 <;> simp_all [usesV, readB, extraU, writesB, extraS, insV, Bool.cond_eq_ite] <;> ac_rfl)
         | (simp_all [usesV, readB, extraU, writesB, extraS, insV, Bool.cond_eq_ite]; done))
theorem c7_z (isz ico : Int) (tk tr tb tx ts : Int) (tp tf : Bool) (tn : Int) (tw : List Int) (tm : Int) (fk fr fb fx fs : Int) (fp ff : Bool) (fn : Int) (fw : List Int) (fm : Int) (sh : Bool) (k : Int → Prop) : (k (usesE 0 isz ico tk tr tb tx ts tp tf tn tw tm fk fr fb fx fs fp ff fn fw fm sh) → G7_z isz ico tk tr tb tx ts tp tf tn tw tm fk fr fb fx fs fp ff fn fw fm sh (k 0) (fun u => k u)) := by
  intro h <;> rcases c7_cases h with ⟨hv, e1, h⟩ | ⟨hv, e1, h⟩
  · first | unfold G7_z F7_z
    rw [e1]
    exact h
  · exfalso
    have e2 := chkE_out (op := 0) (z := isz) (c := ico) (tk := tk) (tr := tr) (tb := tb) (tx := tx) (ts := ts) (tp := tp) (tf := tf) (tn := tn) (tw := tw) (tm := tm) (fk := fk) (fr := fr) (fb := fb) (fx := fx) (fs := fs) (fp := fp) (ff := ff) (fn := fn) (fw := fw) (fm := fm) (sh := sh) (by first | omega | (simp only [Int.ofNat_eq_natCast]; omega))
    rw [e1] at e2; cases e2
theorem c7_m (isz ico : Int) (tk tr tb tx ts : Int) (tp tf : Bool) (tn : Int) (tw : List Int) (tm : Int) (fk fr fb fx fs : Int) (fp ff : Bool) (fn : Int) (fw : List Int) (fm : Int) (sh : Bool) (k : Int → Prop) : (k (usesE (-1) isz ico tk tr tb tx ts tp tf tn tw tm fk fr fb fx fs fp ff fn fw fm sh) → G7_m isz ico tk tr tb tx ts tp tf tn tw tm fk fr fb fx fs fp ff fn fw fm sh (k 0) (fun u => k u)) := by
  intro h <;> rcases c7_cases h with ⟨hv, e1, h⟩ | ⟨hv, e1, h⟩
  · first | unfold G7_m F7_m
    rw [e1]
    exact h
  · exfalso
    have e2 := chkE_out (op := (-1)) (z := isz) (c := ico) (tk := tk) (tr := tr) (tb := tb) (tx := tx) (ts := ts) (tp := tp) (tf := tf) (tn := tn) (tw := tw) (tm := tm) (fk := fk) (fr := fr) (fb := fb) (fx := fx) (fs := fs) (fp := fp) (ff := ff) (fn := fn) (fw := fw) (fm := fm) (sh := sh) (by first | omega | (simp only [Int.ofNat_eq_natCast]; omega))
    rw [e1] at e2; cases e2
theorem c7_n (q : Nat) (isz ico : Int) (tk tr tb tx ts : Int) (tp tf : Bool) (tn : Int) (tw : List Int) (tm : Int) (fk fr fb fx fs : Int) (fp ff : Bool) (fn : Int) (fw : List Int) (fm : Int) (sh : Bool) (k : Int → Prop) : (k (usesE (Int.negSucc (q + 1)) isz ico tk tr tb tx ts tp tf tn tw tm fk fr fb fx fs fp ff fn fw fm sh) → G7_n q isz ico tk tr tb tx ts tp tf tn tw tm fk fr fb fx fs fp ff fn fw fm sh (k 0) (fun u => k u)) := by
  intro h <;> rcases c7_cases h with ⟨hv, e1, h⟩ | ⟨hv, e1, h⟩
  · first | unfold G7_n F7_n
    rw [e1]
    exact h
  · exfalso
    have e2 := chkE_out (op := (Int.negSucc (q + 1))) (z := isz) (c := ico) (tk := tk) (tr := tr) (tb := tb) (tx := tx) (ts := ts) (tp := tp) (tf := tf) (tn := tn) (tw := tw) (tm := tm) (fk := fk) (fr := fr) (fb := fb) (fx := fx) (fs := fs) (fp := fp) (ff := ff) (fn := fn) (fw := fw) (fm := fm) (sh := sh) (by first | omega | (simp only [Int.ofNat_eq_natCast]; omega))
    rw [e1] at e2; cases e2
theorem c7_p (q : Nat) (isz ico : Int) (tk tr tb tx ts : Int) (tp tf : Bool) (tn : Int) (tw : List Int) (tm : Int) (fk fr fb fx fs : Int) (fp ff : Bool) (fn : Int) (fw : List Int) (fm : Int) (sh : Bool) (k : Int → Prop) : (k (usesE (Int.ofNat (q + 36)) isz ico tk tr tb tx ts tp tf tn tw tm fk fr fb fx fs fp ff fn fw fm sh) → G7_p q isz ico tk tr tb tx ts tp tf tn tw tm fk fr fb fx fs fp ff fn fw fm sh (k 0) (fun u => k u)) := by
  intro h <;> rcases c7_cases h with ⟨hv, e1, h⟩ | ⟨hv, e1, h⟩
  · first | unfold G7_p F7_p
    rw [e1]
    exact h
  · exfalso
    have e2 := chkE_out (op := (Int.ofNat (q + 36))) (z := isz) (c := ico) (tk := tk) (tr := tr) (tb := tb) (tx := tx) (ts := ts) (tp := tp) (tf := tf) (tn := tn) (tw := tw) (tm := tm) (fk := fk) (fr := fr) (fb := fb) (fx := fx) (fs := fs) (fp := fp) (ff := ff) (fn := fn) (fw := fw) (fm := fm) (sh := sh) (by first | omega | (simp only [Int.ofNat_eq_natCast]; omega))
    rw [e1] at e2; cases e2
end Go.Proofs.YtaajhdkngiemlaaDoor.frm
