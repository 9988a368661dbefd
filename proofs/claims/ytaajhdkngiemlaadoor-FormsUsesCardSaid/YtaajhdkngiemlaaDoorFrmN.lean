import Derived.Test.YtaajhdkngiemlaaDoorFrmQ
set_option linter.unusedVariables false
set_option linter.unusedSimpArgs false
set_option maxHeartbeats 0
set_option maxRecDepth 100000
namespace Go.Proofs.YtaajhdkngiemlaaDoor.frm
open Go Go.Ab
theorem c9_cases {op : Int} {isz ico : Int} {tk tr tb tx ts : Int} {tp tf : Bool} {tn : Int} {tw : List Int} {tm : Int} {fk fr fb fx fs : Int} {fp ff : Bool} {fn : Int} {fw : List Int} {fm : Int} {sh : Bool} {k : Int → Prop} (h : k (setsE op isz ico tk tr tb tx ts tp tf tn tw tm fk fr fb fx fs fp ff fn fw fm sh)) :
    (validB op isz ico tk tr tb tx ts tp tf tn tw tm fk fr fb fx fs fp ff fn fw fm sh = false ∧ chkE op isz ico tk tr tb tx ts tp tf tn tw tm fk fr fb fx fs fp ff fn fw fm sh = 30 ∧ k 0) ∨ (validB op isz ico tk tr tb tx ts tp tf tn tw tm fk fr fb fx fs fp ff fn fw fm sh = true ∧ chkE op isz ico tk tr tb tx ts tp tf tn tw tm fk fr fb fx fs fp ff fn fw fm sh = 0 ∧ k ((setsV op tk tr fr).toNat : Int)) := by
  cases hv : validB op isz ico tk tr tb tx ts tp tf tn tw tm fk fr fb fx fs fp ff fn fw fm sh with
  | false => exact .inl ⟨rfl, by unfold chkE; rw [hv]; rfl, by unfold setsE at h; rw [hv] at h; exact h⟩
  | true => exact .inr ⟨rfl, by unfold chkE; rw [hv]; rfl, by unfold setsE at h; rw [hv] at h; exact h⟩
theorem c9_A (isz ico : Int) (tk tr tb tx ts : Int) (tp tf : Bool) (tn : Int) (tw : List Int) (tm : Int) (fk fr fb fx fs : Int) (fp ff : Bool) (fn : Int) (fw : List Int) (fm : Int) (sh : Bool) (k : Int → Prop) : (k (setsE 1 isz ico tk tr tb tx ts tp tf tn tw tm fk fr fb fx fs fp ff fn fw fm sh) → G9_1 isz ico tk tr tb tx ts tp tf tn tw tm fk fr fb fx fs fp ff fn fw fm sh (k 0) (fun u => k u)) ∧
    (k (setsE 2 isz ico tk tr tb tx ts tp tf tn tw tm fk fr fb fx fs fp ff fn fw fm sh) → G9_2 isz ico tk tr tb tx ts tp tf tn tw tm fk fr fb fx fs fp ff fn fw fm sh (k 0) (fun u => k u)) ∧
    (k (setsE 3 isz ico tk tr tb tx ts tp tf tn tw tm fk fr fb fx fs fp ff fn fw fm sh) → G9_3 isz ico tk tr tb tx ts tp tf tn tw tm fk fr fb fx fs fp ff fn fw fm sh (k 0) (fun u => k u)) ∧
    (k (setsE 4 isz ico tk tr tb tx ts tp tf tn tw tm fk fr fb fx fs fp ff fn fw fm sh) → G9_4 isz ico tk tr tb tx ts tp tf tn tw tm fk fr fb fx fs fp ff fn fw fm sh (k 0) (fun u => k u)) ∧
    (k (setsE 5 isz ico tk tr tb tx ts tp tf tn tw tm fk fr fb fx fs fp ff fn fw fm sh) → G9_5 isz ico tk tr tb tx ts tp tf tn tw tm fk fr fb fx fs fp ff fn fw fm sh (k 0) (fun u => k u)) ∧
    (k (setsE 6 isz ico tk tr tb tx ts tp tf tn tw tm fk fr fb fx fs fp ff fn fw fm sh) → G9_6 isz ico tk tr tb tx ts tp tf tn tw tm fk fr fb fx fs fp ff fn fw fm sh (k 0) (fun u => k u)) ∧
    (k (setsE 7 isz ico tk tr tb tx ts tp tf tn tw tm fk fr fb fx fs fp ff fn fw fm sh) → G9_7 isz ico tk tr tb tx ts tp tf tn tw tm fk fr fb fx fs fp ff fn fw fm sh (k 0) (fun u => k u)) ∧
    (k (setsE 8 isz ico tk tr tb tx ts tp tf tn tw tm fk fr fb fx fs fp ff fn fw fm sh) → G9_8 isz ico tk tr tb tx ts tp tf tn tw tm fk fr fb fx fs fp ff fn fw fm sh (k 0) (fun u => k u)) ∧
    (k (setsE 9 isz ico tk tr tb tx ts tp tf tn tw tm fk fr fb fx fs fp ff fn fw fm sh) → G9_9 isz ico tk tr tb tx ts tp tf tn tw tm fk fr fb fx fs fp ff fn fw fm sh (k 0) (fun u => k u)) := by
  refine ⟨?_, ?_, ?_, ?_, ?_, ?_, ?_, ?_, ?_⟩ <;> intro h <;> rcases c9_cases h with ⟨hv, e1, h⟩ | ⟨hv, e1, h⟩
  all_goals first | unfold G9_1 F9_1 | unfold G9_2 F9_2 | unfold G9_3 F9_3 | unfold G9_4 F9_4 | unfold G9_5 F9_5 | unfold G9_6 F9_6 | unfold G9_7 F9_7 | unfold G9_8 F9_8 | unfold G9_9 F9_9
  all_goals rw [e1]
  all_goals first
    | exact h
    | skip
  all_goals obtain ⟨ft1, ft2⟩ := factsT hv
  all_goals obtain ⟨ff1, ff2⟩ := factsF hv
  all_goals obtain ⟨u1, u2, u3, u4, u5⟩ := kindsK tk tr tb tx ts tp tf tn tw tm
  all_goals obtain ⟨v1, v2, v3, v4, v5⟩ := kindsK fk fr fb fx fs fp ff fn fw fm
  all_goals have bT : tk = 1 → bitI tr = ((bV tr).toNat : Int) := fun e => bitI_V (ft2 e).1 (ft2 e).2
  all_goals have bF : fk = 1 → bitI fr = ((bV fr).toNat : Int) := fun e => bitI_V (ff2 e).1 (ff2 e).2
  all_goals have rT : tk = 1 → bitR tr = ((bV tr).toNat : Int) := fun e => bitR_V (ft2 e).1 (ft2 e).2
  all_goals have rF : fk = 1 → bitR fr = ((bV fr).toNat : Int) := fun e => bitR_V (ff2 e).1 (ff2 e).2
  all_goals have wT := wrapU tr
  all_goals have wF := wrapU fr
  all_goals simp [validB, sizeB, condB, opsB] at hv
  all_goals simp only [show ((0 : Int) != 0) = false from rfl, cond_false, foldI_, foldR_, insI_V ft1, insI_V ff1, insR_V ft1 ft2, insR_V ff1 ff2]
  all_goals clear e1
  all_goals (repeat' refine cond_ind (fun _ => ?_) (fun _ => ?_))
  all_goals first
      | (exfalso; clear bT bF rT rF; simp_all; done)
      | (exfalso; clear bT bF rT rF; simp_all; omega)
      | (refine Eq.mp (congrArg k ?_) h
         (try rw [bF (by clear bT bF rT rF; simp_all; done)])
         (try rw [bT (by clear bT bF rT rF; simp_all; done)])
         (try rw [rF (by clear bT bF rT rF; simp_all; done)])
         (try rw [rT (by clear bT bF rT rF; simp_all; done)])
         clear bT bF rT rF
         try simp only [orI, orI0, orI0', o16_, o32_, o1_, o197_, o48_, o4_, o2051_, o128_, o64_]
         first
         | (refine congrArg (fun v : BitVec 16 => ((v.toNat : Nat) : Int)) ?_
            simp_all [setsV, readB, extraU, writesB, extraS, insV, Bool.cond_eq_ite]
            done)
         | (refine congrArg (fun v : BitVec 16 => ((v.toNat : Nat) : Int)) ?_
            simp_all [setsV, readB, extraU, writesB, extraS, insV, Bool.cond_eq_ite]
            ac_rfl)
         | (refine congrArg (fun v : BitVec 16 => ((v.toNat : Nat) : Int)) ?_
            by_cases t1 : tk = 1 <;> by_cases t3 : tk = 3 <;> by_cases f1 : fk = 1 <;> by_cases f3 : fk = 3 <;> simp_all [setsV, readB, extraU, writesB, extraS, insV, Bool.cond_eq_ite] <;> ac_rfl)
         | (simp_all [setsV, readB, extraU, writesB, extraS, insV, Bool.cond_eq_ite]; done))
theorem c9_B (isz ico : Int) (tk tr tb tx ts : Int) (tp tf : Bool) (tn : Int) (tw : List Int) (tm : Int) (fk fr fb fx fs : Int) (fp ff : Bool) (fn : Int) (fw : List Int) (fm : Int) (sh : Bool) (k : Int → Prop) : (k (setsE 10 isz ico tk tr tb tx ts tp tf tn tw tm fk fr fb fx fs fp ff fn fw fm sh) → G9_10 isz ico tk tr tb tx ts tp tf tn tw tm fk fr fb fx fs fp ff fn fw fm sh (k 0)) ∧
    (k (setsE 11 isz ico tk tr tb tx ts tp tf tn tw tm fk fr fb fx fs fp ff fn fw fm sh) → G9_11 isz ico tk tr tb tx ts tp tf tn tw tm fk fr fb fx fs fp ff fn fw fm sh (k 0)) ∧
    (k (setsE 12 isz ico tk tr tb tx ts tp tf tn tw tm fk fr fb fx fs fp ff fn fw fm sh) → G9_12 isz ico tk tr tb tx ts tp tf tn tw tm fk fr fb fx fs fp ff fn fw fm sh (k 0) (fun u => k u)) ∧
    (k (setsE 13 isz ico tk tr tb tx ts tp tf tn tw tm fk fr fb fx fs fp ff fn fw fm sh) → G9_13 isz ico tk tr tb tx ts tp tf tn tw tm fk fr fb fx fs fp ff fn fw fm sh (k 0) (fun u => k u)) ∧
    (k (setsE 14 isz ico tk tr tb tx ts tp tf tn tw tm fk fr fb fx fs fp ff fn fw fm sh) → G9_14 isz ico tk tr tb tx ts tp tf tn tw tm fk fr fb fx fs fp ff fn fw fm sh (k 0) (fun u => k u)) ∧
    (k (setsE 15 isz ico tk tr tb tx ts tp tf tn tw tm fk fr fb fx fs fp ff fn fw fm sh) → G9_15 isz ico tk tr tb tx ts tp tf tn tw tm fk fr fb fx fs fp ff fn fw fm sh (k 0) (fun u => k u)) ∧
    (k (setsE 16 isz ico tk tr tb tx ts tp tf tn tw tm fk fr fb fx fs fp ff fn fw fm sh) → G9_16 isz ico tk tr tb tx ts tp tf tn tw tm fk fr fb fx fs fp ff fn fw fm sh (k 0) (fun u => k u)) ∧
    (k (setsE 17 isz ico tk tr tb tx ts tp tf tn tw tm fk fr fb fx fs fp ff fn fw fm sh) → G9_17 isz ico tk tr tb tx ts tp tf tn tw tm fk fr fb fx fs fp ff fn fw fm sh (k 0) (fun u => k u)) ∧
    (k (setsE 18 isz ico tk tr tb tx ts tp tf tn tw tm fk fr fb fx fs fp ff fn fw fm sh) → G9_18 isz ico tk tr tb tx ts tp tf tn tw tm fk fr fb fx fs fp ff fn fw fm sh (k 0) (fun u => k u)) := by
  refine ⟨?_, ?_, ?_, ?_, ?_, ?_, ?_, ?_, ?_⟩ <;> intro h <;> rcases c9_cases h with ⟨hv, e1, h⟩ | ⟨hv, e1, h⟩
  all_goals first | unfold G9_10 F9_10 | unfold G9_11 F9_11 | unfold G9_12 F9_12 | unfold G9_13 F9_13 | unfold G9_14 F9_14 | unfold G9_15 F9_15 | unfold G9_16 F9_16 | unfold G9_17 F9_17 | unfold G9_18 F9_18
  all_goals rw [e1]
  all_goals first
    | exact h
    | skip
  all_goals obtain ⟨ft1, ft2⟩ := factsT hv
  all_goals obtain ⟨ff1, ff2⟩ := factsF hv
  all_goals obtain ⟨u1, u2, u3, u4, u5⟩ := kindsK tk tr tb tx ts tp tf tn tw tm
  all_goals obtain ⟨v1, v2, v3, v4, v5⟩ := kindsK fk fr fb fx fs fp ff fn fw fm
  all_goals have bT : tk = 1 → bitI tr = ((bV tr).toNat : Int) := fun e => bitI_V (ft2 e).1 (ft2 e).2
  all_goals have bF : fk = 1 → bitI fr = ((bV fr).toNat : Int) := fun e => bitI_V (ff2 e).1 (ff2 e).2
  all_goals have rT : tk = 1 → bitR tr = ((bV tr).toNat : Int) := fun e => bitR_V (ft2 e).1 (ft2 e).2
  all_goals have rF : fk = 1 → bitR fr = ((bV fr).toNat : Int) := fun e => bitR_V (ff2 e).1 (ff2 e).2
  all_goals have wT := wrapU tr
  all_goals have wF := wrapU fr
  all_goals simp [validB, sizeB, condB, opsB] at hv
  all_goals simp only [show ((0 : Int) != 0) = false from rfl, cond_false, foldI_, foldR_, insI_V ft1, insI_V ff1, insR_V ft1 ft2, insR_V ff1 ff2]
  all_goals clear e1
  all_goals (repeat' refine cond_ind (fun _ => ?_) (fun _ => ?_))
  all_goals first
      | (exfalso; clear bT bF rT rF; simp_all; done)
      | (exfalso; clear bT bF rT rF; simp_all; omega)
      | (refine Eq.mp (congrArg k ?_) h
         (try rw [bF (by clear bT bF rT rF; simp_all; done)])
         (try rw [bT (by clear bT bF rT rF; simp_all; done)])
         (try rw [rF (by clear bT bF rT rF; simp_all; done)])
         (try rw [rT (by clear bT bF rT rF; simp_all; done)])
         clear bT bF rT rF
         try simp only [orI, orI0, orI0', o16_, o32_, o1_, o197_, o48_, o4_, o2051_, o128_, o64_]
         first
         | (refine congrArg (fun v : BitVec 16 => ((v.toNat : Nat) : Int)) ?_
            simp_all [setsV, readB, extraU, writesB, extraS, insV, Bool.cond_eq_ite]
            done)
         | (refine congrArg (fun v : BitVec 16 => ((v.toNat : Nat) : Int)) ?_
            simp_all [setsV, readB, extraU, writesB, extraS, insV, Bool.cond_eq_ite]
            ac_rfl)
         | (refine congrArg (fun v : BitVec 16 => ((v.toNat : Nat) : Int)) ?_
            by_cases t1 : tk = 1 <;> by_cases t3 : tk = 3 <;> by_cases f1 : fk = 1 <;> by_cases f3 : fk = 3 <;> simp_all [setsV, readB, extraU, writesB, extraS, insV, Bool.cond_eq_ite] <;> ac_rfl)
         | (simp_all [setsV, readB, extraU, writesB, extraS, insV, Bool.cond_eq_ite]; done))
theorem c9_C (isz ico : Int) (tk tr tb tx ts : Int) (tp tf : Bool) (tn : Int) (tw : List Int) (tm : Int) (fk fr fb fx fs : Int) (fp ff : Bool) (fn : Int) (fw : List Int) (fm : Int) (sh : Bool) (k : Int → Prop) : (k (setsE 19 isz ico tk tr tb tx ts tp tf tn tw tm fk fr fb fx fs fp ff fn fw fm sh) → G9_19 isz ico tk tr tb tx ts tp tf tn tw tm fk fr fb fx fs fp ff fn fw fm sh (k 0) (fun u => k u)) ∧
    (k (setsE 20 isz ico tk tr tb tx ts tp tf tn tw tm fk fr fb fx fs fp ff fn fw fm sh) → G9_20 isz ico tk tr tb tx ts tp tf tn tw tm fk fr fb fx fs fp ff fn fw fm sh (k 0) (k 16)) ∧
    (k (setsE 21 isz ico tk tr tb tx ts tp tf tn tw tm fk fr fb fx fs fp ff fn fw fm sh) → G9_21 isz ico tk tr tb tx ts tp tf tn tw tm fk fr fb fx fs fp ff fn fw fm sh (k 0) (fun u => k u) (k 16)) ∧
    (k (setsE 22 isz ico tk tr tb tx ts tp tf tn tw tm fk fr fb fx fs fp ff fn fw fm sh) → G9_22 isz ico tk tr tb tx ts tp tf tn tw tm fk fr fb fx fs fp ff fn fw fm sh (k 0) (k 16)) ∧
    (k (setsE 23 isz ico tk tr tb tx ts tp tf tn tw tm fk fr fb fx fs fp ff fn fw fm sh) → G9_23 isz ico tk tr tb tx ts tp tf tn tw tm fk fr fb fx fs fp ff fn fw fm sh (k 0)) ∧
    (k (setsE 24 isz ico tk tr tb tx ts tp tf tn tw tm fk fr fb fx fs fp ff fn fw fm sh) → G9_24 isz ico tk tr tb tx ts tp tf tn tw tm fk fr fb fx fs fp ff fn fw fm sh (k 0) (fun u => k u)) ∧
    (k (setsE 25 isz ico tk tr tb tx ts tp tf tn tw tm fk fr fb fx fs fp ff fn fw fm sh) → G9_25 isz ico tk tr tb tx ts tp tf tn tw tm fk fr fb fx fs fp ff fn fw fm sh (k 0) (fun u => k u) (k 16)) ∧
    (k (setsE 26 isz ico tk tr tb tx ts tp tf tn tw tm fk fr fb fx fs fp ff fn fw fm sh) → G9_26 isz ico tk tr tb tx ts tp tf tn tw tm fk fr fb fx fs fp ff fn fw fm sh (k 0) (fun u => k u) (k 48)) ∧
    (k (setsE 27 isz ico tk tr tb tx ts tp tf tn tw tm fk fr fb fx fs fp ff fn fw fm sh) → G9_27 isz ico tk tr tb tx ts tp tf tn tw tm fk fr fb fx fs fp ff fn fw fm sh (k 0) (fun u => k u)) := by
  refine ⟨?_, ?_, ?_, ?_, ?_, ?_, ?_, ?_, ?_⟩ <;> intro h <;> rcases c9_cases h with ⟨hv, e1, h⟩ | ⟨hv, e1, h⟩
  all_goals first | unfold G9_19 F9_19 | unfold G9_20 F9_20 | unfold G9_21 F9_21 | unfold G9_22 F9_22 | unfold G9_23 F9_23 | unfold G9_24 F9_24 | unfold G9_25 F9_25 | unfold G9_26 F9_26 | unfold G9_27 F9_27
  all_goals rw [e1]
  all_goals first
    | exact h
    | skip
  all_goals obtain ⟨ft1, ft2⟩ := factsT hv
  all_goals obtain ⟨ff1, ff2⟩ := factsF hv
  all_goals obtain ⟨u1, u2, u3, u4, u5⟩ := kindsK tk tr tb tx ts tp tf tn tw tm
  all_goals obtain ⟨v1, v2, v3, v4, v5⟩ := kindsK fk fr fb fx fs fp ff fn fw fm
  all_goals have bT : tk = 1 → bitI tr = ((bV tr).toNat : Int) := fun e => bitI_V (ft2 e).1 (ft2 e).2
  all_goals have bF : fk = 1 → bitI fr = ((bV fr).toNat : Int) := fun e => bitI_V (ff2 e).1 (ff2 e).2
  all_goals have rT : tk = 1 → bitR tr = ((bV tr).toNat : Int) := fun e => bitR_V (ft2 e).1 (ft2 e).2
  all_goals have rF : fk = 1 → bitR fr = ((bV fr).toNat : Int) := fun e => bitR_V (ff2 e).1 (ff2 e).2
  all_goals have wT := wrapU tr
  all_goals have wF := wrapU fr
  all_goals simp [validB, sizeB, condB, opsB] at hv
  all_goals simp only [show ((0 : Int) != 0) = false from rfl, cond_false, foldI_, foldR_, insI_V ft1, insI_V ff1, insR_V ft1 ft2, insR_V ff1 ff2]
  all_goals clear e1
  all_goals (repeat' refine cond_ind (fun _ => ?_) (fun _ => ?_))
  all_goals first
      | (exfalso; clear bT bF rT rF; simp_all; done)
      | (exfalso; clear bT bF rT rF; simp_all; omega)
      | (refine Eq.mp (congrArg k ?_) h
         (try rw [bF (by clear bT bF rT rF; simp_all; done)])
         (try rw [bT (by clear bT bF rT rF; simp_all; done)])
         (try rw [rF (by clear bT bF rT rF; simp_all; done)])
         (try rw [rT (by clear bT bF rT rF; simp_all; done)])
         clear bT bF rT rF
         try simp only [orI, orI0, orI0', o16_, o32_, o1_, o197_, o48_, o4_, o2051_, o128_, o64_]
         first
         | (refine congrArg (fun v : BitVec 16 => ((v.toNat : Nat) : Int)) ?_
            simp_all [setsV, readB, extraU, writesB, extraS, insV, Bool.cond_eq_ite]
            done)
         | (refine congrArg (fun v : BitVec 16 => ((v.toNat : Nat) : Int)) ?_
            simp_all [setsV, readB, extraU, writesB, extraS, insV, Bool.cond_eq_ite]
            ac_rfl)
         | (refine congrArg (fun v : BitVec 16 => ((v.toNat : Nat) : Int)) ?_
            by_cases t1 : tk = 1 <;> by_cases t3 : tk = 3 <;> by_cases f1 : fk = 1 <;> by_cases f3 : fk = 3 <;> simp_all [setsV, readB, extraU, writesB, extraS, insV, Bool.cond_eq_ite] <;> ac_rfl)
         | (simp_all [setsV, readB, extraU, writesB, extraS, insV, Bool.cond_eq_ite]; done))
theorem c9_D (isz ico : Int) (tk tr tb tx ts : Int) (tp tf : Bool) (tn : Int) (tw : List Int) (tm : Int) (fk fr fb fx fs : Int) (fp ff : Bool) (fn : Int) (fw : List Int) (fm : Int) (sh : Bool) (k : Int → Prop) : (k (setsE 28 isz ico tk tr tb tx ts tp tf tn tw tm fk fr fb fx fs fp ff fn fw fm sh) → G9_28 isz ico tk tr tb tx ts tp tf tn tw tm fk fr fb fx fs fp ff fn fw fm sh (k 0) (fun u => k u)) ∧
    (k (setsE 29 isz ico tk tr tb tx ts tp tf tn tw tm fk fr fb fx fs fp ff fn fw fm sh) → G9_29 isz ico tk tr tb tx ts tp tf tn tw tm fk fr fb fx fs fp ff fn fw fm sh (k 0) (fun u => k u)) ∧
    (k (setsE 30 isz ico tk tr tb tx ts tp tf tn tw tm fk fr fb fx fs fp ff fn fw fm sh) → G9_30 isz ico tk tr tb tx ts tp tf tn tw tm fk fr fb fx fs fp ff fn fw fm sh (k 0) (fun u => k u)) ∧
    (k (setsE 31 isz ico tk tr tb tx ts tp tf tn tw tm fk fr fb fx fs fp ff fn fw fm sh) → G9_31 isz ico tk tr tb tx ts tp tf tn tw tm fk fr fb fx fs fp ff fn fw fm sh (k 0) (fun u => k u)) ∧
    (k (setsE 32 isz ico tk tr tb tx ts tp tf tn tw tm fk fr fb fx fs fp ff fn fw fm sh) → G9_32 isz ico tk tr tb tx ts tp tf tn tw tm fk fr fb fx fs fp ff fn fw fm sh (k 0) (fun u => k u) (k 4)) ∧
    (k (setsE 33 isz ico tk tr tb tx ts tp tf tn tw tm fk fr fb fx fs fp ff fn fw fm sh) → G9_33 isz ico tk tr tb tx ts tp tf tn tw tm fk fr fb fx fs fp ff fn fw fm sh (k 0) (fun u => k u)) ∧
    (k (setsE 34 isz ico tk tr tb tx ts tp tf tn tw tm fk fr fb fx fs fp ff fn fw fm sh) → G9_34 isz ico tk tr tb tx ts tp tf tn tw tm fk fr fb fx fs fp ff fn fw fm sh (k 0) (fun u => k u)) ∧
    (k (setsE 35 isz ico tk tr tb tx ts tp tf tn tw tm fk fr fb fx fs fp ff fn fw fm sh) → G9_35 isz ico tk tr tb tx ts tp tf tn tw tm fk fr fb fx fs fp ff fn fw fm sh (k 0) (fun u => k u) (k 2051)) := by
  refine ⟨?_, ?_, ?_, ?_, ?_, ?_, ?_, ?_⟩ <;> intro h <;> rcases c9_cases h with ⟨hv, e1, h⟩ | ⟨hv, e1, h⟩
  all_goals first | unfold G9_28 F9_28 | unfold G9_29 F9_29 | unfold G9_30 F9_30 | unfold G9_31 F9_31 | unfold G9_32 F9_32 | unfold G9_33 F9_33 | unfold G9_34 F9_34 | unfold G9_35 F9_35
  all_goals rw [e1]
  all_goals first
    | exact h
    | skip
  all_goals obtain ⟨ft1, ft2⟩ := factsT hv
  all_goals obtain ⟨ff1, ff2⟩ := factsF hv
  all_goals obtain ⟨u1, u2, u3, u4, u5⟩ := kindsK tk tr tb tx ts tp tf tn tw tm
  all_goals obtain ⟨v1, v2, v3, v4, v5⟩ := kindsK fk fr fb fx fs fp ff fn fw fm
  all_goals have bT : tk = 1 → bitI tr = ((bV tr).toNat : Int) := fun e => bitI_V (ft2 e).1 (ft2 e).2
  all_goals have bF : fk = 1 → bitI fr = ((bV fr).toNat : Int) := fun e => bitI_V (ff2 e).1 (ff2 e).2
  all_goals have rT : tk = 1 → bitR tr = ((bV tr).toNat : Int) := fun e => bitR_V (ft2 e).1 (ft2 e).2
  all_goals have rF : fk = 1 → bitR fr = ((bV fr).toNat : Int) := fun e => bitR_V (ff2 e).1 (ff2 e).2
  all_goals have wT := wrapU tr
  all_goals have wF := wrapU fr
  all_goals simp [validB, sizeB, condB, opsB] at hv
  all_goals simp only [show ((0 : Int) != 0) = false from rfl, cond_false, foldI_, foldR_, insI_V ft1, insI_V ff1, insR_V ft1 ft2, insR_V ff1 ff2]
  all_goals clear e1
  all_goals (repeat' refine cond_ind (fun _ => ?_) (fun _ => ?_))
  all_goals first
      | (exfalso; clear bT bF rT rF; simp_all; done)
      | (exfalso; clear bT bF rT rF; simp_all; omega)
      | (refine Eq.mp (congrArg k ?_) h
         (try rw [bF (by clear bT bF rT rF; simp_all; done)])
         (try rw [bT (by clear bT bF rT rF; simp_all; done)])
         (try rw [rF (by clear bT bF rT rF; simp_all; done)])
         (try rw [rT (by clear bT bF rT rF; simp_all; done)])
         clear bT bF rT rF
         try simp only [orI, orI0, orI0', o16_, o32_, o1_, o197_, o48_, o4_, o2051_, o128_, o64_]
         first
         | (refine congrArg (fun v : BitVec 16 => ((v.toNat : Nat) : Int)) ?_
            simp_all [setsV, readB, extraU, writesB, extraS, insV, Bool.cond_eq_ite]
            done)
         | (refine congrArg (fun v : BitVec 16 => ((v.toNat : Nat) : Int)) ?_
            simp_all [setsV, readB, extraU, writesB, extraS, insV, Bool.cond_eq_ite]
            ac_rfl)
         | (refine congrArg (fun v : BitVec 16 => ((v.toNat : Nat) : Int)) ?_
            by_cases t1 : tk = 1 <;> by_cases t3 : tk = 3 <;> by_cases f1 : fk = 1 <;> by_cases f3 : fk = 3 <;> simp_all [setsV, readB, extraU, writesB, extraS, insV, Bool.cond_eq_ite] <;> ac_rfl)
         | (simp_all [setsV, readB, extraU, writesB, extraS, insV, Bool.cond_eq_ite]; done))
theorem c9_z (isz ico : Int) (tk tr tb tx ts : Int) (tp tf : Bool) (tn : Int) (tw : List Int) (tm : Int) (fk fr fb fx fs : Int) (fp ff : Bool) (fn : Int) (fw : List Int) (fm : Int) (sh : Bool) (k : Int → Prop) : (k (setsE 0 isz ico tk tr tb tx ts tp tf tn tw tm fk fr fb fx fs fp ff fn fw fm sh) → G9_z isz ico tk tr tb tx ts tp tf tn tw tm fk fr fb fx fs fp ff fn fw fm sh (k 0) (fun u => k u)) := by
  intro h <;> rcases c9_cases h with ⟨hv, e1, h⟩ | ⟨hv, e1, h⟩
  · first | unfold G9_z F9_z
    rw [e1]
    exact h
  · exfalso
    have e2 := chkE_out (op := 0) (z := isz) (c := ico) (tk := tk) (tr := tr) (tb := tb) (tx := tx) (ts := ts) (tp := tp) (tf := tf) (tn := tn) (tw := tw) (tm := tm) (fk := fk) (fr := fr) (fb := fb) (fx := fx) (fs := fs) (fp := fp) (ff := ff) (fn := fn) (fw := fw) (fm := fm) (sh := sh) (by first | omega | (simp only [Int.ofNat_eq_natCast]; omega))
    rw [e1] at e2; cases e2
theorem c9_m (isz ico : Int) (tk tr tb tx ts : Int) (tp tf : Bool) (tn : Int) (tw : List Int) (tm : Int) (fk fr fb fx fs : Int) (fp ff : Bool) (fn : Int) (fw : List Int) (fm : Int) (sh : Bool) (k : Int → Prop) : (k (setsE (-1) isz ico tk tr tb tx ts tp tf tn tw tm fk fr fb fx fs fp ff fn fw fm sh) → G9_m isz ico tk tr tb tx ts tp tf tn tw tm fk fr fb fx fs fp ff fn fw fm sh (k 0) (fun u => k u)) := by
  intro h <;> rcases c9_cases h with ⟨hv, e1, h⟩ | ⟨hv, e1, h⟩
  · first | unfold G9_m F9_m
    rw [e1]
    exact h
  · exfalso
    have e2 := chkE_out (op := (-1)) (z := isz) (c := ico) (tk := tk) (tr := tr) (tb := tb) (tx := tx) (ts := ts) (tp := tp) (tf := tf) (tn := tn) (tw := tw) (tm := tm) (fk := fk) (fr := fr) (fb := fb) (fx := fx) (fs := fs) (fp := fp) (ff := ff) (fn := fn) (fw := fw) (fm := fm) (sh := sh) (by first | omega | (simp only [Int.ofNat_eq_natCast]; omega))
    rw [e1] at e2; cases e2
theorem c9_n (q : Nat) (isz ico : Int) (tk tr tb tx ts : Int) (tp tf : Bool) (tn : Int) (tw : List Int) (tm : Int) (fk fr fb fx fs : Int) (fp ff : Bool) (fn : Int) (fw : List Int) (fm : Int) (sh : Bool) (k : Int → Prop) : (k (setsE (Int.negSucc (q + 1)) isz ico tk tr tb tx ts tp tf tn tw tm fk fr fb fx fs fp ff fn fw fm sh) → G9_n q isz ico tk tr tb tx ts tp tf tn tw tm fk fr fb fx fs fp ff fn fw fm sh (k 0) (fun u => k u)) := by
  intro h <;> rcases c9_cases h with ⟨hv, e1, h⟩ | ⟨hv, e1, h⟩
  · first | unfold G9_n F9_n
    rw [e1]
    exact h
  · exfalso
    have e2 := chkE_out (op := (Int.negSucc (q + 1))) (z := isz) (c := ico) (tk := tk) (tr := tr) (tb := tb) (tx := tx) (ts := ts) (tp := tp) (tf := tf) (tn := tn) (tw := tw) (tm := tm) (fk := fk) (fr := fr) (fb := fb) (fx := fx) (fs := fs) (fp := fp) (ff := ff) (fn := fn) (fw := fw) (fm := fm) (sh := sh) (by first | omega | (simp only [Int.ofNat_eq_natCast]; omega))
    rw [e1] at e2; cases e2
theorem c9_p (q : Nat) (isz ico : Int) (tk tr tb tx ts : Int) (tp tf : Bool) (tn : Int) (tw : List Int) (tm : Int) (fk fr fb fx fs : Int) (fp ff : Bool) (fn : Int) (fw : List Int) (fm : Int) (sh : Bool) (k : Int → Prop) : (k (setsE (Int.ofNat (q + 36)) isz ico tk tr tb tx ts tp tf tn tw tm fk fr fb fx fs fp ff fn fw fm sh) → G9_p q isz ico tk tr tb tx ts tp tf tn tw tm fk fr fb fx fs fp ff fn fw fm sh (k 0) (fun u => k u)) := by
  intro h <;> rcases c9_cases h with ⟨hv, e1, h⟩ | ⟨hv, e1, h⟩
  · first | unfold G9_p F9_p
    rw [e1]
    exact h
  · exfalso
    have e2 := chkE_out (op := (Int.ofNat (q + 36))) (z := isz) (c := ico) (tk := tk) (tr := tr) (tb := tb) (tx := tx) (ts := ts) (tp := tp) (tf := tf) (tn := tn) (tw := tw) (tm := tm) (fk := fk) (fr := fr) (fb := fb) (fx := fx) (fs := fs) (fp := fp) (ff := ff) (fn := fn) (fw := fw) (fm := fm) (sh := sh) (by first | omega | (simp only [Int.ofNat_eq_natCast]; omega))
    rw [e1] at e2; cases e2
end Go.Proofs.YtaajhdkngiemlaaDoor.frm
