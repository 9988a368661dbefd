import Derived.Test.YtaajhdkngiemlaaDoorFrmQ
set_option linter.unusedVariables false
set_option linter.unusedSimpArgs false
set_option maxHeartbeats 0
set_option maxRecDepth 100000
namespace Go.Proofs.YtaajhdkngiemlaaDoor.frm
open Go Go.Ab
theorem c8_cases {op : Int} {isz ico : Int} {tk tr tb tx ts : Int} {tp tf : Bool} {tn : Int} {tw : List Int} {tm : Int} {fk fr fb fx fs : Int} {fp ff : Bool} {fn : Int} {fw : List Int} {fm : Int} {sh : Bool} {k : Int → Prop} (h : k (usesE op isz ico tk tr tb tx ts tp tf tn tw tm fk fr fb fx fs fp ff fn fw fm sh)) :
    (validB op isz ico tk tr tb tx ts tp tf tn tw tm fk fr fb fx fs fp ff fn fw fm sh = false ∧ chkE op isz ico tk tr tb tx ts tp tf tn tw tm fk fr fb fx fs fp ff fn fw fm sh = 30 ∧ k 0) ∨ (validB op isz ico tk tr tb tx ts tp tf tn tw tm fk fr fb fx fs fp ff fn fw fm sh = true ∧ chkE op isz ico tk tr tb tx ts tp tf tn tw tm fk fr fb fx fs fp ff fn fw fm sh = 0 ∧ k ((usesV op isz tk tr tb tx fk fr fb fx).toNat : Int)) := by
  cases hv : validB op isz ico tk tr tb tx ts tp tf tn tw tm fk fr fb fx fs fp ff fn fw fm sh with
  | false => exact .inl ⟨rfl, by unfold chkE; rw [hv]; rfl, by unfold usesE at h; rw [hv] at h; exact h⟩
  | true => exact .inr ⟨rfl, by unfold chkE; rw [hv]; rfl, by unfold usesE at h; rw [hv] at h; exact h⟩
theorem c8_A (isz ico : Int) (tk tr tb tx ts : Int) (tp tf : Bool) (tn : Int) (tw : List Int) (tm : Int) (fk fr fb fx fs : Int) (fp ff : Bool) (fn : Int) (fw : List Int) (fm : Int) (sh : Bool) (k : Int → Prop) : (k (usesE 1 isz ico tk tr tb tx ts tp tf tn tw tm fk fr fb fx fs fp ff fn fw fm sh) → G8_1 isz ico tk tr tb tx ts tp tf tn tw tm fk fr fb fx fs fp ff fn fw fm sh (k 0) (fun u => k u)) ∧
    (k (usesE 2 isz ico tk tr tb tx ts tp tf tn tw tm fk fr fb fx fs fp ff fn fw fm sh) → G8_2 isz ico tk tr tb tx ts tp tf tn tw tm fk fr fb fx fs fp ff fn fw fm sh (k 0) (fun u => k u)) ∧
    (k (usesE 3 isz ico tk tr tb tx ts tp tf tn tw tm fk fr fb fx fs fp ff fn fw fm sh) → G8_3 isz ico tk tr tb tx ts tp tf tn tw tm fk fr fb fx fs fp ff fn fw fm sh (k 0) (fun u => k u)) ∧
    (k (usesE 4 isz ico tk tr tb tx ts tp tf tn tw tm fk fr fb fx fs fp ff fn fw fm sh) → G8_4 isz ico tk tr tb tx ts tp tf tn tw tm fk fr fb fx fs fp ff fn fw fm sh (k 0) (fun u => k u)) ∧
    (k (usesE 5 isz ico tk tr tb tx ts tp tf tn tw tm fk fr fb fx fs fp ff fn fw fm sh) → G8_5 isz ico tk tr tb tx ts tp tf tn tw tm fk fr fb fx fs fp ff fn fw fm sh (k 0) (fun u => k u)) ∧
    (k (usesE 6 isz ico tk tr tb tx ts tp tf tn tw tm fk fr fb fx fs fp ff fn fw fm sh) → G8_6 isz ico tk tr tb tx ts tp tf tn tw tm fk fr fb fx fs fp ff fn fw fm sh (k 0) (fun u => k u)) ∧
    (k (usesE 7 isz ico tk tr tb tx ts tp tf tn tw tm fk fr fb fx fs fp ff fn fw fm sh) → G8_7 isz ico tk tr tb tx ts tp tf tn tw tm fk fr fb fx fs fp ff fn fw fm sh (k 0) (fun u => k u)) ∧
    (k (usesE 8 isz ico tk tr tb tx ts tp tf tn tw tm fk fr fb fx fs fp ff fn fw fm sh) → G8_8 isz ico tk tr tb tx ts tp tf tn tw tm fk fr fb fx fs fp ff fn fw fm sh (k 0) (fun u => k u)) ∧
    (k (usesE 9 isz ico tk tr tb tx ts tp tf tn tw tm fk fr fb fx fs fp ff fn fw fm sh) → G8_9 isz ico tk tr tb tx ts tp tf tn tw tm fk fr fb fx fs fp ff fn fw fm sh (k 0) (fun u => k u)) := by
  refine ⟨?_, ?_, ?_, ?_, ?_, ?_, ?_, ?_, ?_⟩ <;> intro h <;> rcases c8_cases h with ⟨hv, e1, h⟩ | ⟨hv, e1, h⟩
  all_goals first | unfold G8_1 F8_1 | unfold G8_2 F8_2 | unfold G8_3 F8_3 | unfold G8_4 F8_4 | unfold G8_5 F8_5 | unfold G8_6 F8_6 | unfold G8_7 F8_7 | unfold G8_8 F8_8 | unfold G8_9 F8_9
  all_goals rw [e1]
  all_goals first
    | exact h
    | skip
  all_goals obtain ⟨ft1, ft2⟩ := factsT hv
  all_goals obtain ⟨ff1, ff2⟩ := factsF hv
  all_goals obtain ⟨u1, u2, u3, u4, u5⟩ := kindsK tk tr tb tx ts tp tf tn tw tm
  all_goals obtain ⟨v1, v2, v3, v4, v5⟩ := kindsK fk fr fb fx fs fp ff fn fw fm
  all_goals have bT : tk = 1 → bitI tr = ((bV tr).toNat : Int) := fun e => bitI_V (ft2 e).1 (ft2 e).2
  all_goals have bF : fk = 1 → bitI fr = ((bV fr).toNat : Int) := fun e => bitI_V (ff2 e).1 (ff2 e).2
  all_goals have rT : tk = 1 → bitR tr = ((bV tr).toNat : Int) := fun e => bitR_V (ft2 e).1 (ft2 e).2
  all_goals have rF : fk = 1 → bitR fr = ((bV fr).toNat : Int) := fun e => bitR_V (ff2 e).1 (ff2 e).2
  all_goals have wT := wrapU tr
  all_goals have wF := wrapU fr
  all_goals simp [validB, sizeB, condB, opsB] at hv
  all_goals simp only [show ((0 : Int) != 0) = false from rfl, cond_false, foldI_, foldR_, insI_V ft1, insI_V ff1, insR_V ft1 ft2, insR_V ff1 ff2]
  all_goals clear e1
  all_goals (repeat' refine cond_ind (fun _ => ?_) (fun _ => ?_))
  all_goals first
      | (exfalso; clear bT bF rT rF; simp_all; done)
      | (exfalso; clear bT bF rT rF; simp_all; omega)
      | (refine Eq.mp (congrArg k ?_) h
         (try rw [bF (by clear bT bF rT rF; simp_all; done)])
         (try rw [bT (by clear bT bF rT rF; simp_all; done)])
         (try rw [rF (by clear bT bF rT rF; simp_all; done)])
         (try rw [rT (by clear bT bF rT rF; simp_all; done)])
         clear bT bF rT rF
         try simp only [orI, orI0, orI0', o16_, o32_, o1_, o197_, o48_, o4_, o2051_, o128_, o64_]
         first
         | (refine congrArg (fun v : BitVec 16 => ((v.toNat : Nat) : Int)) ?_
            simp_all [usesV, readB, extraU, writesB, extraS, insV, Bool.cond_eq_ite]
            done)
         | (refine congrArg (fun v : BitVec 16 => ((v.toNat : Nat) : Int)) ?_
            simp_all [usesV, readB, extraU, writesB, extraS, insV, Bool.cond_eq_ite]
            ac_rfl)
         | (refine congrArg (fun v : BitVec 16 => ((v.toNat : Nat) : Int)) ?_
            by_cases t1 : tk = 1 <;> by_cases t3 : tk = 3 <;> by_cases f1 : fk = 1 <;> by_cases f3 : fk = 3 <;> simp_all [usesV, readB, extraU, writesB, extraS, insV, Bool.cond_eq_ite] <;> ac_rfl)
         | (simp_all [usesV, readB, extraU, writesB, extraS, insV, Bool.cond_eq_ite]; done))
theorem c8_B (isz ico : Int) (tk tr tb tx ts : Int) (tp tf : Bool) (tn : Int) (tw : List Int) (tm : Int) (fk fr fb fx fs : Int) (fp ff : Bool) (fn : Int) (fw : List Int) (fm : Int) (sh : Bool) (k : Int → Prop) : (k (usesE 10 isz ico tk tr tb tx ts tp tf tn tw tm fk fr fb fx fs fp ff fn fw fm sh) → G8_10 isz ico tk tr tb tx ts tp tf tn tw tm fk fr fb fx fs fp ff fn fw fm sh (k 0) (fun u => k u)) ∧
    (k (usesE 11 isz ico tk tr tb tx ts tp tf tn tw tm fk fr fb fx fs fp ff fn fw fm sh) → G8_11 isz ico tk tr tb tx ts tp tf tn tw tm fk fr fb fx fs fp ff fn fw fm sh (k 0) (fun u => k u)) ∧
    (k (usesE 12 isz ico tk tr tb tx ts tp tf tn tw tm fk fr fb fx fs fp ff fn fw fm sh) → G8_12 isz ico tk tr tb tx ts tp tf tn tw tm fk fr fb fx fs fp ff fn fw fm sh (k 0) (fun u => k u)) ∧
    (k (usesE 13 isz ico tk tr tb tx ts tp tf tn tw tm fk fr fb fx fs fp ff fn fw fm sh) → G8_13 isz ico tk tr tb tx ts tp tf tn tw tm fk fr fb fx fs fp ff fn fw fm sh (k 0) (fun u => k u)) ∧
    (k (usesE 14 isz ico tk tr tb tx ts tp tf tn tw tm fk fr fb fx fs fp ff fn fw fm sh) → G8_14 isz ico tk tr tb tx ts tp tf tn tw tm fk fr fb fx fs fp ff fn fw fm sh (k 0) (fun u => k u)) ∧
    (k (usesE 15 isz ico tk tr tb tx ts tp tf tn tw tm fk fr fb fx fs fp ff fn fw fm sh) → G8_15 isz ico tk tr tb tx ts tp tf tn tw tm fk fr fb fx fs fp ff fn fw fm sh (k 0) (fun u => k u)) ∧
    (k (usesE 16 isz ico tk tr tb tx ts tp tf tn tw tm fk fr fb fx fs fp ff fn fw fm sh) → G8_16 isz ico tk tr tb tx ts tp tf tn tw tm fk fr fb fx fs fp ff fn fw fm sh (k 0) (fun u => k u)) ∧
    (k (usesE 17 isz ico tk tr tb tx ts tp tf tn tw tm fk fr fb fx fs fp ff fn fw fm sh) → G8_17 isz ico tk tr tb tx ts tp tf tn tw tm fk fr fb fx fs fp ff fn fw fm sh (k 0) (fun u => k u)) ∧
    (k (usesE 18 isz ico tk tr tb tx ts tp tf tn tw tm fk fr fb fx fs fp ff fn fw fm sh) → G8_18 isz ico tk tr tb tx ts tp tf tn tw tm fk fr fb fx fs fp ff fn fw fm sh (k 0) (fun u => k u)) := by
  refine ⟨?_, ?_, ?_, ?_, ?_, ?_, ?_, ?_, ?_⟩ <;> intro h <;> rcases c8_cases h with ⟨hv, e1, h⟩ | ⟨hv, e1, h⟩
  all_goals first | unfold G8_10 F8_10 | unfold G8_11 F8_11 | unfold G8_12 F8_12 | unfold G8_13 F8_13 | unfold G8_14 F8_14 | unfold G8_15 F8_15 | unfold G8_16 F8_16 | unfold G8_17 F8_17 | unfold G8_18 F8_18
  all_goals rw [e1]
  all_goals first
    | exact h
    | skip
  all_goals obtain ⟨ft1, ft2⟩ := factsT hv
  all_goals obtain ⟨ff1, ff2⟩ := factsF hv
  all_goals obtain ⟨u1, u2, u3, u4, u5⟩ := kindsK tk tr tb tx ts tp tf tn tw tm
  all_goals obtain ⟨v1, v2, v3, v4, v5⟩ := kindsK fk fr fb fx fs fp ff fn fw fm
  all_goals have bT : tk = 1 → bitI tr = ((bV tr).toNat : Int) := fun e => bitI_V (ft2 e).1 (ft2 e).2
  all_goals have bF : fk = 1 → bitI fr = ((bV fr).toNat : Int) := fun e => bitI_V (ff2 e).1 (ff2 e).2
  all_goals have rT : tk = 1 → bitR tr = ((bV tr).toNat : Int) := fun e => bitR_V (ft2 e).1 (ft2 e).2
  all_goals have rF : fk = 1 → bitR fr = ((bV fr).toNat : Int) := fun e => bitR_V (ff2 e).1 (ff2 e).2
  all_goals have wT := wrapU tr
  all_goals have wF := wrapU fr
  all_goals simp [validB, sizeB, condB, opsB] at hv
  all_goals simp only [show ((0 : Int) != 0) = false from rfl, cond_false, foldI_, foldR_, insI_V ft1, insI_V ff1, insR_V ft1 ft2, insR_V ff1 ff2]
  all_goals clear e1
  all_goals (repeat' refine cond_ind (fun _ => ?_) (fun _ => ?_))
  all_goals first
      | (exfalso; clear bT bF rT rF; simp_all; done)
      | (exfalso; clear bT bF rT rF; simp_all; omega)
      | (refine Eq.mp (congrArg k ?_) h
         (try rw [bF (by clear bT bF rT rF; simp_all; done)])
         (try rw [bT (by clear bT bF rT rF; simp_all; done)])
         (try rw [rF (by clear bT bF rT rF; simp_all; done)])
         (try rw [rT (by clear bT bF rT rF; simp_all; done)])
         clear bT bF rT rF
         try simp only [orI, orI0, orI0', o16_, o32_, o1_, o197_, o48_, o4_, o2051_, o128_, o64_]
         first
         | (refine congrArg (fun v : BitVec 16 => ((v.toNat : Nat) : Int)) ?_
            simp_all [usesV, readB, extraU, writesB, extraS, insV, Bool.cond_eq_ite]
            done)
         | (refine congrArg (fun v : BitVec 16 => ((v.toNat : Nat) : Int)) ?_
            simp_all [usesV, readB, extraU, writesB, extraS, insV, Bool.cond_eq_ite]
            ac_rfl)
         | (refine congrArg (fun v : BitVec 16 => ((v.toNat : Nat) : Int)) ?_
            by_cases t1 : tk = 1 <;> by_cases t3 : tk = 3 <;> by_cases f1 : fk = 1 <;> by_cases f3 : fk = 3 <;> simp_all [usesV, readB, extraU, writesB, extraS, insV, Bool.cond_eq_ite] <;> ac_rfl)
         | (simp_all [usesV, readB, extraU, writesB, extraS, insV, Bool.cond_eq_ite]; done))
theorem c8_C (isz ico : Int) (tk tr tb tx ts : Int) (tp tf : Bool) (tn : Int) (tw : List Int) (tm : Int) (fk fr fb fx fs : Int) (fp ff : Bool) (fn : Int) (fw : List Int) (fm : Int) (sh : Bool) (k : Int → Prop) : (k (usesE 19 isz ico tk tr tb tx ts tp tf tn tw tm fk fr fb fx fs fp ff fn fw fm sh) → G8_19 isz ico tk tr tb tx ts tp tf tn tw tm fk fr fb fx fs fp ff fn fw fm sh (k 0) (fun u => k u)) ∧
    (k (usesE 20 isz ico tk tr tb tx ts tp tf tn tw tm fk fr fb fx fs fp ff fn fw fm sh) → G8_20 isz ico tk tr tb tx ts tp tf tn tw tm fk fr fb fx fs fp ff fn fw fm sh (k 0) (fun u => k u)) ∧
    (k (usesE 21 isz ico tk tr tb tx ts tp tf tn tw tm fk fr fb fx fs fp ff fn fw fm sh) → G8_21 isz ico tk tr tb tx ts tp tf tn tw tm fk fr fb fx fs fp ff fn fw fm sh (k 0) (fun u => k u)) ∧
    (k (usesE 22 isz ico tk tr tb tx ts tp tf tn tw tm fk fr fb fx fs fp ff fn fw fm sh) → G8_22 isz ico tk tr tb tx ts tp tf tn tw tm fk fr fb fx fs fp ff fn fw fm sh (k 0) (fun u => k u)) ∧
    (k (usesE 23 isz ico tk tr tb tx ts tp tf tn tw tm fk fr fb fx fs fp ff fn fw fm sh) → G8_23 isz ico tk tr tb tx ts tp tf tn tw tm fk fr fb fx fs fp ff fn fw fm sh (k 0) (fun u => k u)) ∧
    (k (usesE 24 isz ico tk tr tb tx ts tp tf tn tw tm fk fr fb fx fs fp ff fn fw fm sh) → G8_24 isz ico tk tr tb tx ts tp tf tn tw tm fk fr fb fx fs fp ff fn fw fm sh (k 0) (fun u => k u)) ∧
    (k (usesE 25 isz ico tk tr tb tx ts tp tf tn tw tm fk fr fb fx fs fp ff fn fw fm sh) → G8_25 isz ico tk tr tb tx ts tp tf tn tw tm fk fr fb fx fs fp ff fn fw fm sh (k 0) (fun u => k u)) ∧
    (k (usesE 26 isz ico tk tr tb tx ts tp tf tn tw tm fk fr fb fx fs fp ff fn fw fm sh) → G8_26 isz ico tk tr tb tx ts tp tf tn tw tm fk fr fb fx fs fp ff fn fw fm sh (k 0) (fun u => k u)) ∧
    (k (usesE 27 isz ico tk tr tb tx ts tp tf tn tw tm fk fr fb fx fs fp ff fn fw fm sh) → G8_27 isz ico tk tr tb tx ts tp tf tn tw tm fk fr fb fx fs fp ff fn fw fm sh (k 0) (fun u => k u)) := by
  refine ⟨?_, ?_, ?_, ?_, ?_, ?_, ?_, ?_, ?_⟩ <;> intro h <;> rcases c8_cases h with ⟨hv, e1, h⟩ | ⟨hv, e1, h⟩
  all_goals first | unfold G8_19 F8_19 | unfold G8_20 F8_20 | unfold G8_21 F8_21 | unfold G8_22 F8_22 | unfold G8_23 F8_23 | unfold G8_24 F8_24 | unfold G8_25 F8_25 | unfold G8_26 F8_26 | unfold G8_27 F8_27
  all_goals rw [e1]
  all_goals first
    | exact h
    | skip
  all_goals obtain ⟨ft1, ft2⟩ := factsT hv
  all_goals obtain ⟨ff1, ff2⟩ := factsF hv
  all_goals obtain ⟨u1, u2, u3, u4, u5⟩ := kindsK tk tr tb tx ts tp tf tn tw tm
  all_goals obtain ⟨v1, v2, v3, v4, v5⟩ := kindsK fk fr fb fx fs fp ff fn fw fm
  all_goals have bT : tk = 1 → bitI tr = ((bV tr).toNat : Int) := fun e => bitI_V (ft2 e).1 (ft2 e).2
  all_goals have bF : fk = 1 → bitI fr = ((bV fr).toNat : Int) := fun e => bitI_V (ff2 e).1 (ff2 e).2
  all_goals have rT : tk = 1 → bitR tr = ((bV tr).toNat : Int) := fun e => bitR_V (ft2 e).1 (ft2 e).2
  all_goals have rF : fk = 1 → bitR fr = ((bV fr).toNat : Int) := fun e => bitR_V (ff2 e).1 (ff2 e).2
  all_goals have wT := wrapU tr
  all_goals have wF := wrapU fr
  all_goals simp [validB, sizeB, condB, opsB] at hv
  all_goals simp only [show ((0 : Int) != 0) = false from rfl, cond_false, foldI_, foldR_, insI_V ft1, insI_V ff1, insR_V ft1 ft2, insR_V ff1 ff2]
  all_goals clear e1
  all_goals (repeat' refine cond_ind (fun _ => ?_) (fun _ => ?_))
  all_goals first
      | (exfalso; clear bT bF rT rF; simp_all; done)
      | (exfalso; clear bT bF rT rF; simp_all; omega)
      | (refine Eq.mp (congrArg k ?_) h
         (try rw [bF (by clear bT bF rT rF; simp_all; done)])
         (try rw [bT (by clear bT bF rT rF; simp_all; done)])
         (try rw [rF (by clear bT bF rT rF; simp_all; done)])
         (try rw [rT (by clear bT bF rT rF; simp_all; done)])
         clear bT bF rT rF
         try simp only [orI, orI0, orI0', o16_, o32_, o1_, o197_, o48_, o4_, o2051_, o128_, o64_]
         first
         | (refine congrArg (fun v : BitVec 16 => ((v.toNat : Nat) : Int)) ?_
            simp_all [usesV, readB, extraU, writesB, extraS, insV, Bool.cond_eq_ite]
            done)
         | (refine congrArg (fun v : BitVec 16 => ((v.toNat : Nat) : Int)) ?_
            simp_all [usesV, readB, extraU, writesB, extraS, insV, Bool.cond_eq_ite]
            ac_rfl)
         | (refine congrArg (fun v : BitVec 16 => ((v.toNat : Nat) : Int)) ?_
            by_cases t1 : tk = 1 <;> by_cases t3 : tk = 3 <;> by_cases f1 : fk = 1 <;> by_cases f3 : fk = 3 <;> simp_all [usesV, readB, extraU, writesB, extraS, insV, Bool.cond_eq_ite] <;> ac_rfl)
         | (simp_all [usesV, readB, extraU, writesB, extraS, insV, Bool.cond_eq_ite]; done))
theorem c8_D (isz ico : Int) (tk tr tb tx ts : Int) (tp tf : Bool) (tn : Int) (tw : List Int) (tm : Int) (fk fr fb fx fs : Int) (fp ff : Bool) (fn : Int) (fw : List Int) (fm : Int) (sh : Bool) (k : Int → Prop) : (k (usesE 28 isz ico tk tr tb tx ts tp tf tn tw tm fk fr fb fx fs fp ff fn fw fm sh) → G8_28 isz ico tk tr tb tx ts tp tf tn tw tm fk fr fb fx fs fp ff fn fw fm sh (k 0) (fun u => k u)) ∧
    (k (usesE 29 isz ico tk tr tb tx ts tp tf tn tw tm fk fr fb fx fs fp ff fn fw fm sh) → G8_29 isz ico tk tr tb tx ts tp tf tn tw tm fk fr fb fx fs fp ff fn fw fm sh (k 0) (fun u => k u)) ∧
    (k (usesE 30 isz ico tk tr tb tx ts tp tf tn tw tm fk fr fb fx fs fp ff fn fw fm sh) → G8_30 isz ico tk tr tb tx ts tp tf tn tw tm fk fr fb fx fs fp ff fn fw fm sh (k 0) (fun u => k u)) ∧
    (k (usesE 31 isz ico tk tr tb tx ts tp tf tn tw tm fk fr fb fx fs fp ff fn fw fm sh) → G8_31 isz ico tk tr tb tx ts tp tf tn tw tm fk fr fb fx fs fp ff fn fw fm sh (k 0) (fun u => k u)) ∧
    (k (usesE 32 isz ico tk tr tb tx ts tp tf tn tw tm fk fr fb fx fs fp ff fn fw fm sh) → G8_32 isz ico tk tr tb tx ts tp tf tn tw tm fk fr fb fx fs fp ff fn fw fm sh (k 0) (fun u => k u)) ∧
    (k (usesE 33 isz ico tk tr tb tx ts tp tf tn tw tm fk fr fb fx fs fp ff fn fw fm sh) → G8_33 isz ico tk tr tb tx ts tp tf tn tw tm fk fr fb fx fs fp ff fn fw fm sh (k 0) (fun u => k u)) ∧
    (k (usesE 34 isz ico tk tr tb tx ts tp tf tn tw tm fk fr fb fx fs fp ff fn fw fm sh) → G8_34 isz ico tk tr tb tx ts tp tf tn tw tm fk fr fb fx fs fp ff fn fw fm sh (k 0) (fun u => k u)) ∧
    (k (usesE 35 isz ico tk tr tb tx ts tp tf tn tw tm fk fr fb fx fs fp ff fn fw fm sh) → G8_35 isz ico tk tr tb tx ts tp tf tn tw tm fk fr fb fx fs fp ff fn fw fm sh (k 0) (fun u => k u)) := by
  refine ⟨?_, ?_, ?_, ?_, ?_, ?_, ?_, ?_⟩ <;> intro h <;> rcases c8_cases h with ⟨hv, e1, h⟩ | ⟨hv, e1, h⟩
  all_goals first | unfold G8_28 F8_28 | unfold G8_29 F8_29 | unfold G8_30 F8_30 | unfold G8_31 F8_31 | unfold G8_32 F8_32 | unfold G8_33 F8_33 | unfold G8_34 F8_34 | unfold G8_35 F8_35
  all_goals rw [e1]
  all_goals first
    | exact h
    | skip
  all_goals obtain ⟨ft1, ft2⟩ := factsT hv
  all_goals obtain ⟨ff1, ff2⟩ := factsF hv
  all_goals obtain ⟨u1, u2, u3, u4, u5⟩ := kindsK tk tr tb tx ts tp tf tn tw tm
  all_goals obtain ⟨v1, v2, v3, v4, v5⟩ := kindsK fk fr fb fx fs fp ff fn fw fm
  all_goals have bT : tk = 1 → bitI tr = ((bV tr).toNat : Int) := fun e => bitI_V (ft2 e).1 (ft2 e).2
  all_goals have bF : fk = 1 → bitI fr = ((bV fr).toNat : Int) := fun e => bitI_V (ff2 e).1 (ff2 e).2
  all_goals have rT : tk = 1 → bitR tr = ((bV tr).toNat : Int) := fun e => bitR_V (ft2 e).1 (ft2 e).2
  all_goals have rF : fk = 1 → bitR fr = ((bV fr).toNat : Int) := fun e => bitR_V (ff2 e).1 (ff2 e).2
  all_goals have wT := wrapU tr
  all_goals have wF := wrapU fr
  all_goals simp [validB, sizeB, condB, opsB] at hv
  all_goals simp only [show ((0 : Int) != 0) = false from rfl, cond_false, foldI_, foldR_, insI_V ft1, insI_V ff1, insR_V ft1 ft2, insR_V ff1 ff2]
  all_goals clear e1
  all_goals (repeat' refine cond_ind (fun _ => ?_) (fun _ => ?_))
  all_goals first
      | (exfalso; clear bT bF rT rF; simp_all; done)
      | (exfalso; clear bT bF rT rF; simp_all; omega)
      | (refine Eq.mp (congrArg k ?_) h
         (try rw [bF (by clear bT bF rT rF; simp_all; done)])
         (try rw [bT (by clear bT bF rT rF; simp_all; done)])
         (try rw [rF (by clear bT bF rT rF; simp_all; done)])
         (try rw [rT (by clear bT bF rT rF; simp_all; done)])
         clear bT bF rT rF
         try simp only [orI, orI0, orI0', o16_, o32_, o1_, o197_, o48_, o4_, o2051_, o128_, o64_]
         first
         | (refine congrArg (fun v : BitVec 16 => ((v.toNat : Nat) : Int)) ?_
            simp_all [usesV, readB, extraU, writesB, extraS, insV, Bool.cond_eq_ite]
            done)
         | (refine congrArg (fun v : BitVec 16 => ((v.toNat : Nat) : Int)) ?_
            simp_all [usesV, readB, extraU, writesB, extraS, insV, Bool.cond_eq_ite]
            ac_rfl)
         | (refine congrArg (fun v : BitVec 16 => ((v.toNat : Nat) : Int)) ?_
            by_cases t1 : tk = 1 <;> by_cases t3 : tk = 3 <;> by_cases f1 : fk = 1 <;> by_cases f3 : fk = 3 <;> simp_all [usesV, readB, extraU, writesB, extraS, insV, Bool.cond_eq_ite] <;> ac_rfl)
         | (simp_all [usesV, readB, extraU, writesB, extraS, insV, Bool.cond_eq_ite]; done))
theorem c8_z (isz ico : Int) (tk tr tb tx ts : Int) (tp tf : Bool) (tn : Int) (tw : List Int) (tm : Int) (fk fr fb fx fs : Int) (fp ff : Bool) (fn : Int) (fw : List Int) (fm : Int) (sh : Bool) (k : Int → Prop) : (k (usesE 0 isz ico tk tr tb tx ts tp tf tn tw tm fk fr fb fx fs fp ff fn fw fm sh) → G8_z isz ico tk tr tb tx ts tp tf tn tw tm fk fr fb fx fs fp ff fn fw fm sh (k 0) (fun u => k u)) := by
  intro h <;> rcases c8_cases h with ⟨hv, e1, h⟩ | ⟨hv, e1, h⟩
  · first | unfold G8_z F8_z
    rw [e1]
    exact h
  · exfalso
    have e2 := chkE_out (op := 0) (z := isz) (c := ico) (tk := tk) (tr := tr) (tb := tb) (tx := tx) (ts := ts) (tp := tp) (tf := tf) (tn := tn) (tw := tw) (tm := tm) (fk := fk) (fr := fr) (fb := fb) (fx := fx) (fs := fs) (fp := fp) (ff := ff) (fn := fn) (fw := fw) (fm := fm) (sh := sh) (by first | omega | (simp only [Int.ofNat_eq_natCast]; omega))
    rw [e1] at e2; cases e2
theorem c8_m (isz ico : Int) (tk tr tb tx ts : Int) (tp tf : Bool) (tn : Int) (tw : List Int) (tm : Int) (fk fr fb fx fs : Int) (fp ff : Bool) (fn : Int) (fw : List Int) (fm : Int) (sh : Bool) (k : Int → Prop) : (k (usesE (-1) isz ico tk tr tb tx ts tp tf tn tw tm fk fr fb fx fs fp ff fn fw fm sh) → G8_m isz ico tk tr tb tx ts tp tf tn tw tm fk fr fb fx fs fp ff fn fw fm sh (k 0) (fun u => k u)) := by
  intro h <;> rcases c8_cases h with ⟨hv, e1, h⟩ | ⟨hv, e1, h⟩
  · first | unfold G8_m F8_m
    rw [e1]
    exact h
  · exfalso
    have e2 := chkE_out (op := (-1)) (z := isz) (c := ico) (tk := tk) (tr := tr) (tb := tb) (tx := tx) (ts := ts) (tp := tp) (tf := tf) (tn := tn) (tw := tw) (tm := tm) (fk := fk) (fr := fr) (fb := fb) (fx := fx) (fs := fs) (fp := fp) (ff := ff) (fn := fn) (fw := fw) (fm := fm) (sh := sh) (by first | omega | (simp only [Int.ofNat_eq_natCast]; omega))
    rw [e1] at e2; cases e2
theorem c8_n (q : Nat) (isz ico : Int) (tk tr tb tx ts : Int) (tp tf : Bool) (tn : Int) (tw : List Int) (tm : Int) (fk fr fb fx fs : Int) (fp ff : Bool) (fn : Int) (fw : List Int) (fm : Int) (sh : Bool) (k : Int → Prop) : (k (usesE (Int.negSucc (q + 1)) isz ico tk tr tb tx ts tp tf tn tw tm fk fr fb fx fs fp ff fn fw fm sh) → G8_n q isz ico tk tr tb tx ts tp tf tn tw tm fk fr fb fx fs fp ff fn fw fm sh (k 0) (fun u => k u)) := by
  intro h <;> rcases c8_cases h with ⟨hv, e1, h⟩ | ⟨hv, e1, h⟩
  · first | unfold G8_n F8_n
    rw [e1]
    exact h
  · exfalso
    have e2 := chkE_out (op := (Int.negSucc (q + 1))) (z := isz) (c := ico) (tk := tk) (tr := tr) (tb := tb) (tx := tx) (ts := ts) (tp := tp) (tf := tf) (tn := tn) (tw := tw) (tm := tm) (fk := fk) (fr := fr) (fb := fb) (fx := fx) (fs := fs) (fp := fp) (ff := ff) (fn := fn) (fw := fw) (fm := fm) (sh := sh) (by first | omega | (simp only [Int.ofNat_eq_natCast]; omega))
    rw [e1] at e2; cases e2
theorem c8_p (q : Nat) (isz ico : Int) (tk tr tb tx ts : Int) (tp tf : Bool) (tn : Int) (tw : List Int) (tm : Int) (fk fr fb fx fs : Int) (fp ff : Bool) (fn : Int) (fw : List Int) (fm : Int) (sh : Bool) (k : Int → Prop) : (k (usesE (Int.ofNat (q + 36)) isz ico tk tr tb tx ts tp tf tn tw tm fk fr fb fx fs fp ff fn fw fm sh) → G8_p q isz ico tk tr tb tx ts tp tf tn tw tm fk fr fb fx fs fp ff fn fw fm sh (k 0) (fun u => k u)) := by
  intro h <;> rcases c8_cases h with ⟨hv, e1, h⟩ | ⟨hv, e1, h⟩
  · first | unfold G8_p F8_p
    rw [e1]
    exact h
  · exfalso
    have e2 := chkE_out (op := (Int.ofNat (q + 36))) (z := isz) (c := ico) (tk := tk) (tr := tr) (tb := tb) (tx := tx) (ts := ts) (tp := tp) (tf := tf) (tn := tn) (tw := tw) (tm := tm) (fk := fk) (fr := fr) (fb := fb) (fx := fx) (fs := fs) (fp := fp) (ff := ff) (fn := fn) (fw := fw) (fm := fm) (sh := sh) (by first | omega | (simp only [Int.ofNat_eq_natCast]; omega))
    rw [e1] at e2; cases e2
end Go.Proofs.YtaajhdkngiemlaaDoor.frm
