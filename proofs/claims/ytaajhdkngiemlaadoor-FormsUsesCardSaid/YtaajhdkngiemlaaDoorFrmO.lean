import Derived.Test.YtaajhdkngiemlaaDoorFrmQ
set_option linter.unusedVariables false
set_option linter.unusedSimpArgs false
set_option maxHeartbeats 0
set_option maxRecDepth 100000
namespace Go.Proofs.YtaajhdkngiemlaaDoor.frm
open Go Go.Ab
theorem c10_cases {op : Int} {isz ico : Int} {tk tr tb tx ts : Int} {tp tf : Bool} {tn : Int} {tw : List Int} {tm : Int} {fk fr fb fx fs : Int} {fp ff : Bool} {fn : Int} {fw : List Int} {fm : Int} {sh : Bool} {k : Int → Prop} (h : k (setsE op isz ico tk tr tb tx ts tp tf tn tw tm fk fr fb fx fs fp ff fn fw fm sh)) :
    (validB op isz ico tk tr tb tx ts tp tf tn tw tm fk fr fb fx fs fp ff fn fw fm sh = false ∧ chkE op isz ico tk tr tb tx ts tp tf tn tw tm fk fr fb fx fs fp ff fn fw fm sh = 30 ∧ k 0) ∨ (validB op isz ico tk tr tb tx ts tp tf tn tw tm fk fr fb fx fs fp ff fn fw fm sh = true ∧ chkE op isz ico tk tr tb tx ts tp tf tn tw tm fk fr fb fx fs fp ff fn fw fm sh = 0 ∧ k ((setsV op tk tr fr).toNat : Int)) := by
  cases hv : validB op isz ico tk tr tb tx ts tp tf tn tw tm fk fr fb fx fs fp ff fn fw fm sh with
  | false => exact .inl ⟨rfl, by unfold chkE; rw [hv]; rfl, by unfold setsE at h; rw [hv] at h; exact h⟩
  | true => exact .inr ⟨rfl, by unfold chkE; rw [hv]; rfl, by unfold setsE at h; rw [hv] at h; exact h⟩
theorem c10_A (isz ico : Int) (tk tr tb tx ts : Int) (tp tf : Bool) (tn : Int) (tw : List Int) (tm : Int) (fk fr fb fx fs : Int) (fp ff : Bool) (fn : Int) (fw : List Int) (fm : Int) (sh : Bool) (k : Int → Prop) : (k (setsE 1 isz ico tk tr tb tx ts tp tf tn tw tm fk fr fb fx fs fp ff fn fw fm sh) → G10_1 isz ico tk tr tb tx ts tp tf tn tw tm fk fr fb fx fs fp ff fn fw fm sh (k 0) (fun u => k u)) ∧
    (k (setsE 2 isz ico tk tr tb tx ts tp tf tn tw tm fk fr fb fx fs fp ff fn fw fm sh) → G10_2 isz ico tk tr tb tx ts tp tf tn tw tm fk fr fb fx fs fp ff fn fw fm sh (k 0) (fun u => k u)) ∧
    (k (setsE 3 isz ico tk tr tb tx ts tp tf tn tw tm fk fr fb fx fs fp ff fn fw fm sh) → G10_3 isz ico tk tr tb tx ts tp tf tn tw tm fk fr fb fx fs fp ff fn fw fm sh (k 0) (fun u => k u)) ∧
    (k (setsE 4 isz ico tk tr tb tx ts tp tf tn tw tm fk fr fb fx fs fp ff fn fw fm sh) → G10_4 isz ico tk tr tb tx ts tp tf tn tw tm fk fr fb fx fs fp ff fn fw fm sh (k 0) (fun u => k u)) ∧
    (k (setsE 5 isz ico tk tr tb tx ts tp tf tn tw tm fk fr fb fx fs fp ff fn fw fm sh) → G10_5 isz ico tk tr tb tx ts tp tf tn tw tm fk fr fb fx fs fp ff fn fw fm sh (k 0) (fun u => k u)) ∧
    (k (setsE 6 isz ico tk tr tb tx ts tp tf tn tw tm fk fr fb fx fs fp ff fn fw fm sh) → G10_6 isz ico tk tr tb tx ts tp tf tn tw tm fk fr fb fx fs fp ff fn fw fm sh (k 0) (fun u => k u)) ∧
    (k (setsE 7 isz ico tk tr tb tx ts tp tf tn tw tm fk fr fb fx fs fp ff fn fw fm sh) → G10_7 isz ico tk tr tb tx ts tp tf tn tw tm fk fr fb fx fs fp ff fn fw fm sh (k 0) (fun u => k u)) ∧
    (k (setsE 8 isz ico tk tr tb tx ts tp tf tn tw tm fk fr fb fx fs fp ff fn fw fm sh) → G10_8 isz ico tk tr tb tx ts tp tf tn tw tm fk fr fb fx fs fp ff fn fw fm sh (k 0) (fun u => k u)) ∧
    (k (setsE 9 isz ico tk tr tb tx ts tp tf tn tw tm fk fr fb fx fs fp ff fn fw fm sh) → G10_9 isz ico tk tr tb tx ts tp tf tn tw tm fk fr fb fx fs fp ff fn fw fm sh (k 0) (fun u => k u)) := by
  refine ⟨?_, ?_, ?_, ?_, ?_, ?_, ?_, ?_, ?_⟩ <;> intro h <;> rcases c10_cases h with ⟨hv, e1, h⟩ | ⟨hv, e1, h⟩
  all_goals first | unfold G10_1 F10_1 | unfold G10_2 F10_2 | unfold G10_3 F10_3 | unfold G10_4 F10_4 | unfold G10_5 F10_5 | unfold G10_6 F10_6 | unfold G10_7 F10_7 | unfold G10_8 F10_8 | unfold G10_9 F10_9
  all_goals rw [e1]
  all_goals first
    | exact h
    | skip
  all_goals obtain ⟨ft1, ft2⟩ := factsT hv
  all_goals obtain ⟨ff1, ff2⟩ := factsF hv
  all_goals obtain ⟨u1, u2, u3, u4, u5⟩ := kindsK tk tr tb tx ts tp tf tn tw tm
  all_goals obtain ⟨v1, v2, v3, v4, v5⟩ := kindsK fk fr fb fx fs fp ff fn fw fm
  all_goals have bT : tk = 1 → bitI tr = ((bV tr).toNat : Int) := fun e => bitI_V (ft2 e).1 (ft2 e).2
  all_goals have bF : fk = 1 → bitI fr = ((bV fr).toNat : Int) := fun e => bitI_V (ff2 e).1 (ff2 e).2
  all_goals have rT : tk = 1 → bitR tr = ((bV tr).toNat : Int) := fun e => bitR_V (ft2 e).1 (ft2 e).2
  all_goals have rF : fk = 1 → bitR fr = ((bV fr).toNat : Int) := fun e => bitR_V (ff2 e).1 (ff2 e).2
  all_goals have wT := wrapU tr
  all_goals have wF := wrapU fr
  all_goals simp [validB, sizeB, condB, opsB] at hv
  all_goals simp only [show ((0 : Int) != 0) = false from rfl, cond_false, foldI_, foldR_, insI_V ft1, insI_V ff1, insR_V ft1 ft2, insR_V ff1 ff2]
  all_goals clear e1
  all_goals (repeat' refine cond_ind (fun _ => ?_) (fun _ => ?_))
  all_goals first
      | (exfalso; clear bT bF rT rF; simp_all; done)
      | (exfalso; clear bT bF rT rF; simp_all; omega)
      | (refine Eq.mp (congrArg k ?_) h
         (try rw [bF (by clear bT bF rT rF; simp_all; done)])
         (try rw [bT (by clear bT bF rT rF; simp_all; done)])
         (try rw [rF (by clear bT bF rT rF; simp_all; done)])
         (try rw [rT (by clear bT bF rT rF; simp_all; done)])
         clear bT bF rT rF
         try simp only [orI, orI0, orI0', o16_, o32_, o1_, o197_, o48_, o4_, o2051_, o128_, o64_]
         first
         | (refine congrArg (fun v : BitVec 16 => ((v.toNat : Nat) : Int)) ?_
            simp_all [setsV, readB, extraU, writesB, extraS, insV, Bool.cond_eq_ite]
            done)
         | (refine congrArg (fun v : BitVec 16 => ((v.toNat : Nat) : Int)) ?_
            simp_all [setsV, readB, extraU, writesB, extraS, insV, Bool.cond_eq_ite]
            ac_rfl)
         | (refine congrArg (fun v : BitVec 16 => ((v.toNat : Nat) : Int)) ?_
            by_cases t1 : tk = 1 <;> by_cases t3 : tk = 3 <;> by_cases f1 : fk = 1 <;> by_cases f3 : fk = 3 <;> simp_all [setsV, readB, extraU, writesB, extraS, insV, Bool.cond_eq_ite] <;> ac_rfl)
         | (simp_all [setsV, readB, extraU, writesB, extraS, insV, Bool.cond_eq_ite]; done))
theorem c10_B (isz ico : Int) (tk tr tb tx ts : Int) (tp tf : Bool) (tn : Int) (tw : List Int) (tm : Int) (fk fr fb fx fs : Int) (fp ff : Bool) (fn : Int) (fw : List Int) (fm : Int) (sh : Bool) (k : Int → Prop) : (k (setsE 10 isz ico tk tr tb tx ts tp tf tn tw tm fk fr fb fx fs fp ff fn fw fm sh) → G10_10 isz ico tk tr tb tx ts tp tf tn tw tm fk fr fb fx fs fp ff fn fw fm sh (k 0)) ∧
    (k (setsE 11 isz ico tk tr tb tx ts tp tf tn tw tm fk fr fb fx fs fp ff fn fw fm sh) → G10_11 isz ico tk tr tb tx ts tp tf tn tw tm fk fr fb fx fs fp ff fn fw fm sh (k 0)) ∧
    (k (setsE 12 isz ico tk tr tb tx ts tp tf tn tw tm fk fr fb fx fs fp ff fn fw fm sh) → G10_12 isz ico tk tr tb tx ts tp tf tn tw tm fk fr fb fx fs fp ff fn fw fm sh (k 0) (fun u => k u)) ∧
    (k (setsE 13 isz ico tk tr tb tx ts tp tf tn tw tm fk fr fb fx fs fp ff fn fw fm sh) → G10_13 isz ico tk tr tb tx ts tp tf tn tw tm fk fr fb fx fs fp ff fn fw fm sh (k 0) (fun u => k u)) ∧
    (k (setsE 14 isz ico tk tr tb tx ts tp tf tn tw tm fk fr fb fx fs fp ff fn fw fm sh) → G10_14 isz ico tk tr tb tx ts tp tf tn tw tm fk fr fb fx fs fp ff fn fw fm sh (k 0) (fun u => k u)) ∧
    (k (setsE 15 isz ico tk tr tb tx ts tp tf tn tw tm fk fr fb fx fs fp ff fn fw fm sh) → G10_15 isz ico tk tr tb tx ts tp tf tn tw tm fk fr fb fx fs fp ff fn fw fm sh (k 0) (fun u => k u)) ∧
    (k (setsE 16 isz ico tk tr tb tx ts tp tf tn tw tm fk fr fb fx fs fp ff fn fw fm sh) → G10_16 isz ico tk tr tb tx ts tp tf tn tw tm fk fr fb fx fs fp ff fn fw fm sh (k 0) (fun u => k u)) ∧
    (k (setsE 17 isz ico tk tr tb tx ts tp tf tn tw tm fk fr fb fx fs fp ff fn fw fm sh) → G10_17 isz ico tk tr tb tx ts tp tf tn tw tm fk fr fb fx fs fp ff fn fw fm sh (k 0) (fun u => k u)) ∧
    (k (setsE 18 isz ico tk tr tb tx ts tp tf tn tw tm fk fr fb fx fs fp ff fn fw fm sh) → G10_18 isz ico tk tr tb tx ts tp tf tn tw tm fk fr fb fx fs fp ff fn fw fm sh (k 0) (fun u => k u)) := by
  refine ⟨?_, ?_, ?_, ?_, ?_, ?_, ?_, ?_, ?_⟩ <;> intro h <;> rcases c10_cases h with ⟨hv, e1, h⟩ | ⟨hv, e1, h⟩
  all_goals first | unfold G10_10 F10_10 | unfold G10_11 F10_11 | unfold G10_12 F10_12 | unfold G10_13 F10_13 | unfold G10_14 F10_14 | unfold G10_15 F10_15 | unfold G10_16 F10_16 | unfold G10_17 F10_17 | unfold G10_18 F10_18
  all_goals rw [e1]
  all_goals first
    | exact h
    | skip
  all_goals obtain ⟨ft1, ft2⟩ := factsT hv
  all_goals obtain ⟨ff1, ff2⟩ := factsF hv
  all_goals obtain ⟨u1, u2, u3, u4, u5⟩ := kindsK tk tr tb tx ts tp tf tn tw tm
  all_goals obtain ⟨v1, v2, v3, v4, v5⟩ := kindsK fk fr fb fx fs fp ff fn fw fm
  all_goals have bT : tk = 1 → bitI tr = ((bV tr).toNat : Int) := fun e => bitI_V (ft2 e).1 (ft2 e).2
  all_goals have bF : fk = 1 → bitI fr = ((bV fr).toNat : Int) := fun e => bitI_V (ff2 e).1 (ff2 e).2
  all_goals have rT : tk = 1 → bitR tr = ((bV tr).toNat : Int) := fun e => bitR_V (ft2 e).1 (ft2 e).2
  all_goals have rF : fk = 1 → bitR fr = ((bV fr).toNat : Int) := fun e => bitR_V (ff2 e).1 (ff2 e).2
  all_goals have wT := wrapU tr
  all_goals have wF := wrapU fr
  all_goals simp [validB, sizeB, condB, opsB] at hv
  all_goals simp only [show ((0 : Int) != 0) = false from rfl, cond_false, foldI_, foldR_, insI_V ft1, insI_V ff1, insR_V ft1 ft2, insR_V ff1 ff2]
  all_goals clear e1
  all_goals (repeat' refine cond_ind (fun _ => ?_) (fun _ => ?_))
  all_goals first
      | (exfalso; clear bT bF rT rF; simp_all; done)
      | (exfalso; clear bT bF rT rF; simp_all; omega)
      | (refine Eq.mp (congrArg k ?_) h
         (try rw [bF (by clear bT bF rT rF; simp_all; done)])
         (try rw [bT (by clear bT bF rT rF; simp_all; done)])
         (try rw [rF (by clear bT bF rT rF; simp_all; done)])
         (try rw [rT (by clear bT bF rT rF; simp_all; done)])
         clear bT bF rT rF
         try simp only [orI, orI0, orI0', o16_, o32_, o1_, o197_, o48_, o4_, o2051_, o128_, o64_]
         first
         | (refine congrArg (fun v : BitVec 16 => ((v.toNat : Nat) : Int)) ?_
            simp_all [setsV, readB, extraU, writesB, extraS, insV, Bool.cond_eq_ite]
            done)
         | (refine congrArg (fun v : BitVec 16 => ((v.toNat : Nat) : Int)) ?_
            simp_all [setsV, readB, extraU, writesB, extraS, insV, Bool.cond_eq_ite]
            ac_rfl)
         | (refine congrArg (fun v : BitVec 16 => ((v.toNat : Nat) : Int)) ?_
            by_cases t1 : tk = 1 <;> by_cases t3 : tk = 3 <;> by_cases f1 : fk = 1 <;> by_cases f3 : fk = 3 <;> simp_all [setsV, readB, extraU, writesB, extraS, insV, Bool.cond_eq_ite] <;> ac_rfl)
         | (simp_all [setsV, readB, extraU, writesB, extraS, insV, Bool.cond_eq_ite]; done))
theorem c10_C (isz ico : Int) (tk tr tb tx ts : Int) (tp tf : Bool) (tn : Int) (tw : List Int) (tm : Int) (fk fr fb fx fs : Int) (fp ff : Bool) (fn : Int) (fw : List Int) (fm : Int) (sh : Bool) (k : Int → Prop) : (k (setsE 19 isz ico tk tr tb tx ts tp tf tn tw tm fk fr fb fx fs fp ff fn fw fm sh) → G10_19 isz ico tk tr tb tx ts tp tf tn tw tm fk fr fb fx fs fp ff fn fw fm sh (k 0) (fun u => k u)) ∧
    (k (setsE 20 isz ico tk tr tb tx ts tp tf tn tw tm fk fr fb fx fs fp ff fn fw fm sh) → G10_20 isz ico tk tr tb tx ts tp tf tn tw tm fk fr fb fx fs fp ff fn fw fm sh (k 0) (fun u => k u) (k 16)) ∧
    (k (setsE 21 isz ico tk tr tb tx ts tp tf tn tw tm fk fr fb fx fs fp ff fn fw fm sh) → G10_21 isz ico tk tr tb tx ts tp tf tn tw tm fk fr fb fx fs fp ff fn fw fm sh (k 0) (fun u => k u) (k 16)) ∧
    (k (setsE 22 isz ico tk tr tb tx ts tp tf tn tw tm fk fr fb fx fs fp ff fn fw fm sh) → G10_22 isz ico tk tr tb tx ts tp tf tn tw tm fk fr fb fx fs fp ff fn fw fm sh (k 0) (k 16)) ∧
    (k (setsE 23 isz ico tk tr tb tx ts tp tf tn tw tm fk fr fb fx fs fp ff fn fw fm sh) → G10_23 isz ico tk tr tb tx ts tp tf tn tw tm fk fr fb fx fs fp ff fn fw fm sh (k 0)) ∧
    (k (setsE 24 isz ico tk tr tb tx ts tp tf tn tw tm fk fr fb fx fs fp ff fn fw fm sh) → G10_24 isz ico tk tr tb tx ts tp tf tn tw tm fk fr fb fx fs fp ff fn fw fm sh (k 0) (fun u => k u)) ∧
    (k (setsE 25 isz ico tk tr tb tx ts tp tf tn tw tm fk fr fb fx fs fp ff fn fw fm sh) → G10_25 isz ico tk tr tb tx ts tp tf tn tw tm fk fr fb fx fs fp ff fn fw fm sh (k 0) (fun u => k u) (k 16)) ∧
    (k (setsE 26 isz ico tk tr tb tx ts tp tf tn tw tm fk fr fb fx fs fp ff fn fw fm sh) → G10_26 isz ico tk tr tb tx ts tp tf tn tw tm fk fr fb fx fs fp ff fn fw fm sh (k 0) (k 48)) ∧
    (k (setsE 27 isz ico tk tr tb tx ts tp tf tn tw tm fk fr fb fx fs fp ff fn fw fm sh) → G10_27 isz ico tk tr tb tx ts tp tf tn tw tm fk fr fb fx fs fp ff fn fw fm sh (k 0) (fun u => k u)) := by
  refine ⟨?_, ?_, ?_, ?_, ?_, ?_, ?_, ?_, ?_⟩ <;> intro h <;> rcases c10_cases h with ⟨hv, e1, h⟩ | ⟨hv, e1, h⟩
  all_goals first | unfold G10_19 F10_19 | unfold G10_20 F10_20 | unfold G10_21 F10_21 | unfold G10_22 F10_22 | unfold G10_23 F10_23 | unfold G10_24 F10_24 | unfold G10_25 F10_25 | unfold G10_26 F10_26 | unfold G10_27 F10_27
  all_goals rw [e1]
  all_goals first
    | exact h
    | skip
  all_goals obtain ⟨ft1, ft2⟩ := factsT hv
  all_goals obtain ⟨ff1, ff2⟩ := factsF hv
  all_goals obtain ⟨u1, u2, u3, u4, u5⟩ := kindsK tk tr tb tx ts tp tf tn tw tm
  all_goals obtain ⟨v1, v2, v3, v4, v5⟩ := kindsK fk fr fb fx fs fp ff fn fw fm
  all_goals have bT : tk = 1 → bitI tr = ((bV tr).toNat : Int) := fun e => bitI_V (ft2 e).1 (ft2 e).2
  all_goals have bF : fk = 1 → bitI fr = ((bV fr).toNat : Int) := fun e => bitI_V (ff2 e).1 (ff2 e).2
  all_goals have rT : tk = 1 → bitR tr = ((bV tr).toNat : Int) := fun e => bitR_V (ft2 e).1 (ft2 e).2
  all_goals have rF : fk = 1 → bitR fr = ((bV fr).toNat : Int) := fun e => bitR_V (ff2 e).1 (ff2 e).2
  all_goals have wT := wrapU tr
  all_goals have wF := wrapU fr
  all_goals simp [validB, sizeB, condB, opsB] at hv
  all_goals simp only [show ((0 : Int) != 0) = false from rfl, cond_false, foldI_, foldR_, insI_V ft1, insI_V ff1, insR_V ft1 ft2, insR_V ff1 ff2]
  all_goals clear e1
  all_goals (repeat' refine cond_ind (fun _ => ?_) (fun _ => ?_))
  all_goals first
      | (exfalso; clear bT bF rT rF; simp_all; done)
      | (exfalso; clear bT bF rT rF; simp_all; omega)
      | (refine Eq.mp (congrArg k ?_) h
         (try rw [bF (by clear bT bF rT rF; simp_all; done)])
         (try rw [bT (by clear bT bF rT rF; simp_all; done)])
         (try rw [rF (by clear bT bF rT rF; simp_all; done)])
         (try rw [rT (by clear bT bF rT rF; simp_all; done)])
         clear bT bF rT rF
         try simp only [orI, orI0, orI0', o16_, o32_, o1_, o197_, o48_, o4_, o2051_, o128_, o64_]
         first
         | (refine congrArg (fun v : BitVec 16 => ((v.toNat : Nat) : Int)) ?_
            simp_all [setsV, readB, extraU, writesB, extraS, insV, Bool.cond_eq_ite]
            done)
         | (refine congrArg (fun v : BitVec 16 => ((v.toNat : Nat) : Int)) ?_
            simp_all [setsV, readB, extraU, writesB, extraS, insV, Bool.cond_eq_ite]
            ac_rfl)
         | (refine congrArg (fun v : BitVec 16 => ((v.toNat : Nat) : Int)) ?_
            by_cases t1 : tk = 1 <;> by_cases t3 : tk = 3 <;> by_cases f1 : fk = 1 <;> by_cases f3 : fk = 3 <;> simp_all [setsV, readB, extraU, writesB, extraS, insV, Bool.cond_eq_ite] <;> ac_rfl)
         | (simp_all [setsV, readB, extraU, writesB, extraS, insV, Bool.cond_eq_ite]; done))
theorem c10_D (isz ico : Int) (tk tr tb tx ts : Int) (tp tf : Bool) (tn : Int) (tw : List Int) (tm : Int) (fk fr fb fx fs : Int) (fp ff : Bool) (fn : Int) (fw : List Int) (fm : Int) (sh : Bool) (k : Int → Prop) : (k (setsE 28 isz ico tk tr tb tx ts tp tf tn tw tm fk fr fb fx fs fp ff fn fw fm sh) → G10_28 isz ico tk tr tb tx ts tp tf tn tw tm fk fr fb fx fs fp ff fn fw fm sh (k 0) (fun u => k u)) ∧
    (k (setsE 29 isz ico tk tr tb tx ts tp tf tn tw tm fk fr fb fx fs fp ff fn fw fm sh) → G10_29 isz ico tk tr tb tx ts tp tf tn tw tm fk fr fb fx fs fp ff fn fw fm sh (k 0) (fun u => k u)) ∧
    (k (setsE 30 isz ico tk tr tb tx ts tp tf tn tw tm fk fr fb fx fs fp ff fn fw fm sh) → G10_30 isz ico tk tr tb tx ts tp tf tn tw tm fk fr fb fx fs fp ff fn fw fm sh (k 0) (fun u => k u)) ∧
    (k (setsE 31 isz ico tk tr tb tx ts tp tf tn tw tm fk fr fb fx fs fp ff fn fw fm sh) → G10_31 isz ico tk tr tb tx ts tp tf tn tw tm fk fr fb fx fs fp ff fn fw fm sh (k 0) (fun u => k u)) ∧
    (k (setsE 32 isz ico tk tr tb tx ts tp tf tn tw tm fk fr fb fx fs fp ff fn fw fm sh) → G10_32 isz ico tk tr tb tx ts tp tf tn tw tm fk fr fb fx fs fp ff fn fw fm sh (k 0) (k 4)) ∧
    (k (setsE 33 isz ico tk tr tb tx ts tp tf tn tw tm fk fr fb fx fs fp ff fn fw fm sh) → G10_33 isz ico tk tr tb tx ts tp tf tn tw tm fk fr fb fx fs fp ff fn fw fm sh (k 0) (fun u => k u)) ∧
    (k (setsE 34 isz ico tk tr tb tx ts tp tf tn tw tm fk fr fb fx fs fp ff fn fw fm sh) → G10_34 isz ico tk tr tb tx ts tp tf tn tw tm fk fr fb fx fs fp ff fn fw fm sh (k 0) (fun u => k u)) ∧
    (k (setsE 35 isz ico tk tr tb tx ts tp tf tn tw tm fk fr fb fx fs fp ff fn fw fm sh) → G10_35 isz ico tk tr tb tx ts tp tf tn tw tm fk fr fb fx fs fp ff fn fw fm sh (k 0) (k 2051)) := by
  refine ⟨?_, ?_, ?_, ?_, ?_, ?_, ?_, ?_⟩ <;> intro h <;> rcases c10_cases h with ⟨hv, e1, h⟩ | ⟨hv, e1, h⟩
  all_goals first | unfold G10_28 F10_28 | unfold G10_29 F10_29 | unfold G10_30 F10_30 | unfold G10_31 F10_31 | unfold G10_32 F10_32 | unfold G10_33 F10_33 | unfold G10_34 F10_34 | unfold G10_35 F10_35
  all_goals rw [e1]
  all_goals first
    | exact h
    | skip
  all_goals obtain ⟨ft1, ft2⟩ := factsT hv
  all_goals obtain ⟨ff1, ff2⟩ := factsF hv
  all_goals obtain ⟨u1, u2, u3, u4, u5⟩ := kindsK tk tr tb tx ts tp tf tn tw tm
  all_goals obtain ⟨v1, v2, v3, v4, v5⟩ := kindsK fk fr fb fx fs fp ff fn fw fm
  all_goals have bT : tk = 1 → bitI tr = ((bV tr).toNat : Int) := fun e => bitI_V (ft2 e).1 (ft2 e).2
  all_goals have bF : fk = 1 → bitI fr = ((bV fr).toNat : Int) := fun e => bitI_V (ff2 e).1 (ff2 e).2
  all_goals have rT : tk = 1 → bitR tr = ((bV tr).toNat : Int) := fun e => bitR_V (ft2 e).1 (ft2 e).2
  all_goals have rF : fk = 1 → bitR fr = ((bV fr).toNat : Int) := fun e => bitR_V (ff2 e).1 (ff2 e).2
  all_goals have wT := wrapU tr
  all_goals have wF := wrapU fr
  all_goals simp [validB, sizeB, condB, opsB] at hv
  all_goals simp only [show ((0 : Int) != 0) = false from rfl, cond_false, foldI_, foldR_, insI_V ft1, insI_V ff1, insR_V ft1 ft2, insR_V ff1 ff2]
  all_goals clear e1
  all_goals (repeat' refine cond_ind (fun _ => ?_) (fun _ => ?_))
  all_goals first
      | (exfalso; clear bT bF rT rF; simp_all; done)
      | (exfalso; clear bT bF rT rF; simp_all; omega)
      | (refine Eq.mp (congrArg k ?_) h
         (try rw [bF (by clear bT bF rT rF; simp_all; done)])
         (try rw [bT (by clear bT bF rT rF; simp_all; done)])
         (try rw [rF (by clear bT bF rT rF; simp_all; done)])
         (try rw [rT (by clear bT bF rT rF; simp_all; done)])
         clear bT bF rT rF
         try simp only [orI, orI0, orI0', o16_, o32_, o1_, o197_, o48_, o4_, o2051_, o128_, o64_]
         first
         | (refine congrArg (fun v : BitVec 16 => ((v.toNat : Nat) : Int)) ?_
            simp_all [setsV, readB, extraU, writesB, extraS, insV, Bool.cond_eq_ite]
            done)
         | (refine congrArg (fun v : BitVec 16 => ((v.toNat : Nat) : Int)) ?_
            simp_all [setsV, readB, extraU, writesB, extraS, insV, Bool.cond_eq_ite]
            ac_rfl)
         | (refine congrArg (fun v : BitVec 16 => ((v.toNat : Nat) : Int)) ?_
            by_cases t1 : tk = 1 <;> by_cases t3 : tk = 3 <;> by_cases f1 : fk = 1 <;> by_cases f3 : fk = 3 <;> simp_all [setsV, readB, extraU, writesB, extraS, insV, Bool.cond_eq_ite] <;> ac_rfl)
         | (simp_all [setsV, readB, extraU, writesB, extraS, insV, Bool.cond_eq_ite]; done))
theorem c10_z (isz ico : Int) (tk tr tb tx ts : Int) (tp tf : Bool) (tn : Int) (tw : List Int) (tm : Int) (fk fr fb fx fs : Int) (fp ff : Bool) (fn : Int) (fw : List Int) (fm : Int) (sh : Bool) (k : Int → Prop) : (k (setsE 0 isz ico tk tr tb tx ts tp tf tn tw tm fk fr fb fx fs fp ff fn fw fm sh) → G10_z isz ico tk tr tb tx ts tp tf tn tw tm fk fr fb fx fs fp ff fn fw fm sh (k 0) (fun u => k u)) := by
  intro h <;> rcases c10_cases h with ⟨hv, e1, h⟩ | ⟨hv, e1, h⟩
  · first | unfold G10_z F10_z
    rw [e1]
    exact h
  · exfalso
    have e2 := chkE_out (op := 0) (z := isz) (c := ico) (tk := tk) (tr := tr) (tb := tb) (tx := tx) (ts := ts) (tp := tp) (tf := tf) (tn := tn) (tw := tw) (tm := tm) (fk := fk) (fr := fr) (fb := fb) (fx := fx) (fs := fs) (fp := fp) (ff := ff) (fn := fn) (fw := fw) (fm := fm) (sh := sh) (by first | omega | (simp only [Int.ofNat_eq_natCast]; omega))
    rw [e1] at e2; cases e2
theorem c10_m (isz ico : Int) (tk tr tb tx ts : Int) (tp tf : Bool) (tn : Int) (tw : List Int) (tm : Int) (fk fr fb fx fs : Int) (fp ff : Bool) (fn : Int) (fw : List Int) (fm : Int) (sh : Bool) (k : Int → Prop) : (k (setsE (-1) isz ico tk tr tb tx ts tp tf tn tw tm fk fr fb fx fs fp ff fn fw fm sh) → G10_m isz ico tk tr tb tx ts tp tf tn tw tm fk fr fb fx fs fp ff fn fw fm sh (k 0) (fun u => k u)) := by
  intro h <;> rcases c10_cases h with ⟨hv, e1, h⟩ | ⟨hv, e1, h⟩
  · first | unfold G10_m F10_m
    rw [e1]
    exact h
  · exfalso
    have e2 := chkE_out (op := (-1)) (z := isz) (c := ico) (tk := tk) (tr := tr) (tb := tb) (tx := tx) (ts := ts) (tp := tp) (tf := tf) (tn := tn) (tw := tw) (tm := tm) (fk := fk) (fr := fr) (fb := fb) (fx := fx) (fs := fs) (fp := fp) (ff := ff) (fn := fn) (fw := fw) (fm := fm) (sh := sh) (by first | omega | (simp only [Int.ofNat_eq_natCast]; omega))
    rw [e1] at e2; cases e2
theorem c10_n (q : Nat) (isz ico : Int) (tk tr tb tx ts : Int) (tp tf : Bool) (tn : Int) (tw : List Int) (tm : Int) (fk fr fb fx fs : Int) (fp ff : Bool) (fn : Int) (fw : List Int) (fm : Int) (sh : Bool) (k : Int → Prop) : (k (setsE (Int.negSucc (q + 1)) isz ico tk tr tb tx ts tp tf tn tw tm fk fr fb fx fs fp ff fn fw fm sh) → G10_n q isz ico tk tr tb tx ts tp tf tn tw tm fk fr fb fx fs fp ff fn fw fm sh (k 0) (fun u => k u)) := by
  intro h <;> rcases c10_cases h with ⟨hv, e1, h⟩ | ⟨hv, e1, h⟩
  · first | unfold G10_n F10_n
    rw [e1]
    exact h
  · exfalso
    have e2 := chkE_out (op := (Int.negSucc (q + 1))) (z := isz) (c := ico) (tk := tk) (tr := tr) (tb := tb) (tx := tx) (ts := ts) (tp := tp) (tf := tf) (tn := tn) (tw := tw) (tm := tm) (fk := fk) (fr := fr) (fb := fb) (fx := fx) (fs := fs) (fp := fp) (ff := ff) (fn := fn) (fw := fw) (fm := fm) (sh := sh) (by first | omega | (simp only [Int.ofNat_eq_natCast]; omega))
    rw [e1] at e2; cases e2
theorem c10_p (q : Nat) (isz ico : Int) (tk tr tb tx ts : Int) (tp tf : Bool) (tn : Int) (tw : List Int) (tm : Int) (fk fr fb fx fs : Int) (fp ff : Bool) (fn : Int) (fw : List Int) (fm : Int) (sh : Bool) (k : Int → Prop) : (k (setsE (Int.ofNat (q + 36)) isz ico tk tr tb tx ts tp tf tn tw tm fk fr fb fx fs fp ff fn fw fm sh) → G10_p q isz ico tk tr tb tx ts tp tf tn tw tm fk fr fb fx fs fp ff fn fw fm sh (k 0) (fun u => k u)) := by
  intro h <;> rcases c10_cases h with ⟨hv, e1, h⟩ | ⟨hv, e1, h⟩
  · first | unfold G10_p F10_p
    rw [e1]
    exact h
  · exfalso
    have e2 := chkE_out (op := (Int.ofNat (q + 36))) (z := isz) (c := ico) (tk := tk) (tr := tr) (tb := tb) (tx := tx) (ts := ts) (tp := tp) (tf := tf) (tn := tn) (tw := tw) (tm := tm) (fk := fk) (fr := fr) (fb := fb) (fx := fx) (fs := fs) (fp := fp) (ff := ff) (fn := fn) (fw := fw) (fm := fm) (sh := sh) (by first | omega | (simp only [Int.ofNat_eq_natCast]; omega))
    rw [e1] at e2; cases e2
end Go.Proofs.YtaajhdkngiemlaaDoor.frm
