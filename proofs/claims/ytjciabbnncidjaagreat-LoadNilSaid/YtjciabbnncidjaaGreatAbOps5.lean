/- Operations, part 5: equality, unary, conversions, fields, indexes. -/
import Derived.Test.YtjciabbnncidjaaGreatAbOps4
import Derived.ChangeKeysEq
set_option linter.unusedSimpArgs false
set_option linter.unusedVariables false
namespace Go.Ab
open Go
section
variable {P : Program} {o : Oper} {a : Act} {E : Wh} {m : Mem} {w : World} {ρ : Env}

theorem part_rel [Pins] {t : TypeId} {vs : List V} {cs : Array Value} {n : Nat} {v : V} (hv : VsRel E vs cs.toList) (h1 : ∀ u ∈ cs.toList, u.oneCell' = true) (h : partV P t vs n = some v) : ∃ cv, (part t cs n).run P w = .ok cv w ∧ VRel E v cv := by
  unfold partV at h
  split at h
  · rename_i ha
    split at h
    · rename_i sz hs
      cases h
      refine ⟨.agg (cs.extract n (n + sz)), by simp [part, run_isAgg' ha, run_sizeOf' hs], ?_⟩
      simp only [VRel]
      refine ⟨_, rfl, ?_, ?_⟩
      · rw [Array.toList_extract, List.extract_eq_take_drop, show n + sz - n = sz by omega]
        exact (hv.drop n).take sz
      · intro u hu
        rw [Array.toList_extract, List.extract_eq_take_drop] at hu
        exact h1 u (List.mem_of_mem_drop (List.mem_of_mem_take hu))
    · cases h
  · rename_i ha
    obtain ⟨c, hc, hr⟩ := hv.look n v h
    have hc' : cs[n]? = some c := by simpa using hc
    exact ⟨c, by simp [part, run_isAgg' ha, hc'], hr⟩
  · cases h
theorem fieldsOf_eq [Pins] {t : TypeId} {fs : Array Field} (h : P.underlying t = some (.struct fs)) : P.fieldsOf t = fs := by simp [Program.fieldsOf, h]
theorem eqF_rel [Pins] {d : Nat} {eq : TypeId → V → V → Option Bool} (heq : ∀ (t : TypeId) (x y : V) (r : Bool) (cx cy : Value), eq t x y = some r → VRel E x cx → VRel E y cy → (Op.equalIn d t cx cy).run P w = .ok r w)
    {xs ys : List V} {cx cy : Array Value} (hx : VsRel E xs cx.toList) (hy : VsRel E ys cy.toList) (hx1 : ∀ u ∈ cx.toList, u.oneCell' = true) (hy1 : ∀ u ∈ cy.toList, u.oneCell' = true) :
    ∀ {fs : List Field} {r : Bool}, eqF P eq xs ys fs = some r → (Op.eqFields d cx cy fs).run P w = .ok r w
  | [], r, h => by simp [eqF] at h; subst h; simp [Op.eqFields]
  | f :: fs, r, h => by
    simp only [eqF] at h
    split at h
    · rename_i hf
      split at h
      · rename_i x y hpx hpy
        split at h
        · rename_i r1 s1 hr1 hs1
          cases h
          obtain ⟨c1, g1, g2⟩ := part_rel (w := w) hx hx1 hpx
          obtain ⟨c2, g3, g4⟩ := part_rel (w := w) hy hy1 hpy
          have g5 := heq _ _ _ _ _ _ hr1 g2 g4
          have ih := eqF_rel heq hx hy hx1 hy1 hs1
          simp only [Op.eqFields, hf, ne_eq, not_false_eq_true, if_true, Sem.run_bind, g1, g3, g5, Result.andThen_ok, Sem.run_ite]
          cases r1 <;> simp [ih]
        · cases h
      · cases h
    · rename_i hf
      simp only [Op.eqFields, hf, if_false]
      exact eqF_rel heq hx hy hx1 hy1 h
/-! ## Numbers q * c + d -/
theorem VRel.lin [Pins] {E : Wh} {k : IntKind} {i : Nat} {q b c d : Int} {x : Value} (h : VRel E (.L k i q b c d) x) : VRel E (.I k (q * c + d)) x ∧ q = Pins.num i ∧ 0 ≤ q ∧ q < b ∧ inR k (q * c + d) = true := by
  simp only [VRel] at h ⊢
  exact ⟨⟨h.1, h.2.1⟩, h.2.2.1, h.2.2.2.1, h.2.2.2.2, h.2.1⟩
theorem lin_lo {q b c d : Int} (h0 : 0 ≤ q) (h1 : q < b) : linLo b c d ≤ q * c + d := by
  unfold linLo
  rcases Int.le_total 0 c with hc | hc
  · have := Int.mul_nonneg h0 hc
    omega
  · have : 0 ≤ (b - 1 - q) * (-c) := Int.mul_nonneg (by omega) (by omega)
    have e : (b - 1 - q) * (-c) = q * c - (b - 1) * c := by rw [Int.mul_neg, Int.sub_mul]; omega
    omega
theorem lin_hi {q b c d : Int} (h0 : 0 ≤ q) (h1 : q < b) : q * c + d ≤ linHi b c d := by
  unfold linHi
  rcases Int.le_total 0 c with hc | hc
  · have : 0 ≤ (b - 1 - q) * c := Int.mul_nonneg (by omega) hc
    have e : (b - 1 - q) * c = (b - 1) * c - q * c := by rw [Int.sub_mul]
    omega
  · have : 0 ≤ q * (-c) := Int.mul_nonneg h0 (by omega)
    have e : q * (-c) = -(q * c) := Int.mul_neg q c
    omega
theorem wrap_in {k : IntKind} {n : Int} (h1 : k.min ≤ n) (h2 : n ≤ k.max) : k.wrap n = n := by
  cases k <;> simp [IntKind.wrap, IntKind.bits, IntKind.signed, IntKind.min, IntKind.max] at * <;> omega
theorem linV_rel [Pins] {E : Wh} {k : IntKind} {i : Nat} {q b c d : Int} {x : Value} (hq : q = Pins.num i) (h0 : 0 ≤ q) (h1 : q < b) (h : VRel E (.I k (k.wrap (q * c + d))) x) : VRel E (linV k i q b c d) x := by
  unfold linV
  split
  · rename_i hb
    simp only [Bool.and_eq_true, decide_eq_true_eq] at hb
    have e := wrap_in (k := k) (Int.le_trans hb.1 (lin_lo h0 h1)) (Int.le_trans (lin_hi h0 h1) hb.2)
    rw [e] at h
    simp only [VRel] at h ⊢
    exact ⟨h.1, h.2, hq, h0, h1⟩
  · exact h
theorem linB_some {q b c d n : Int} {r : Bool} (h0 : 0 ≤ q) (h1 : q < b) (h : linB b c d n = some r) : r = decide (q * c + d < n) := by
  unfold linB at h
  have l := lin_lo (c := c) (d := d) h0 h1
  have g := lin_hi (c := c) (d := d) h0 h1
  split at h
  · rename_i hb; cases h; simp at hb; symm; rw [decide_eq_true_eq]; omega
  · split at h
    · rename_i hb; cases h; simp at hb; symm; rw [decide_eq_false_iff_not]; omega
    · cases h
/-- What 'linI' answers is what the plain operation answers, or the same number told so. -/
theorem linI_rel [Pins] {E : Wh} {op : BinOp} {k : IntKind} {i : Nat} {q b c d n : Int} {v : V} (hq : q = Pins.num i) (h0 : 0 ≤ q) (h1 : q < b) (hr : inR k (q * c + d) = true) (h : linI op k i q b c d n = some (true, v)) :
    ∃ v0, iop op k (q * c + d) n = some (true, v0) ∧ ∀ x, VRel E v0 x → VRel E v x := by
  unfold linI at h
  split at h
  · cases h; exact ⟨_, rfl, fun x hx => linV_rel hq h0 h1 (by rwa [Int.add_assoc] at hx)⟩
  · cases h; exact ⟨_, rfl, fun x hx => linV_rel hq h0 h1 (by rwa [Int.add_sub_assoc] at hx)⟩
  · cases h; exact ⟨_, rfl, fun x hx => linV_rel hq h0 h1 (by rwa [Int.add_mul, Int.mul_assoc] at hx)⟩
  · split at h
    · rename_i hd
      simp only [divs, Bool.and_eq_true, decide_eq_true_eq] at hd
      obtain ⟨d1, d2, d3⟩ := hd
      have hnn : 0 ≤ q * c + d := by simp only [inR, Bool.and_eq_true, decide_eq_true_eq] at hr; omega
      have hc : c = n * (c / n) := by have := Int.emod_add_mul_ediv c n; omega
      have e : (q * c + d).tdiv n = q * (c / n) + d / n := by
        rw [Int.tdiv_eq_ediv_of_nonneg hnn]
        conv => lhs; rw [hc]
        rw [show q * (n * (c / n)) + d = d + n * (q * (c / n)) by rw [Int.mul_left_comm]; omega, Int.add_mul_ediv_left _ _ (by omega)]
        omega
      cases h
      refine ⟨.I k (k.wrap (q * (c / n) + d / n)), by simp only [iop, e]; simp; omega, fun x hx => linV_rel hq h0 h1 hx⟩
    · exact ⟨_, h, fun x hx => hx⟩
  · split at h
    · rename_i hd
      simp only [divs, Bool.and_eq_true, decide_eq_true_eq] at hd
      obtain ⟨d1, d2, d3⟩ := hd
      have hnn : 0 ≤ q * c + d := by simp only [inR, Bool.and_eq_true, decide_eq_true_eq] at hr; omega
      have hc : c = n * (c / n) := by have := Int.emod_add_mul_ediv c n; omega
      have e : (q * c + d).tmod n = d % n := by
        rw [Int.tmod_eq_emod_of_nonneg hnn]
        conv => lhs; rw [hc]
        rw [show q * (n * (c / n)) + d = d + n * (q * (c / n)) by rw [Int.mul_left_comm]; omega, Int.add_mul_emod_self_left]
      cases h
      exact ⟨.I k (d % n), by simp only [iop, e]; simp; omega, fun x hx => hx⟩
    · exact ⟨_, h, fun x hx => hx⟩
  · split at h
    · rename_i r hb; cases h; exact ⟨_, rfl, fun x hx => by rw [linB_some h0 h1 hb]; exact hx⟩
    · exact ⟨_, h, fun x hx => hx⟩
  · split at h
    · rename_i r hb
      cases h
      refine ⟨_, rfl, fun x hx => ?_⟩
      have e : (!r) = decide (q * c + d ≥ n) := by rw [linB_some h0 h1 hb, ← decide_not]; congr 1; simp
      rw [e]; exact hx
    · exact ⟨_, h, fun x hx => hx⟩
  · split at h
    · rename_i r hb
      cases h
      refine ⟨_, rfl, fun x hx => ?_⟩
      have e : r = decide (q * c + d ≤ n) := by rw [linB_some h0 h1 hb]; congr 1; simp [Int.lt_add_one_iff]
      rw [e]; exact hx
    · exact ⟨_, h, fun x hx => hx⟩
  · split at h
    · rename_i r hb
      cases h
      refine ⟨_, rfl, fun x hx => ?_⟩
      have e : (!r) = decide (q * c + d > n) := by rw [linB_some h0 h1 hb, ← decide_not]; congr 1; simp [Int.lt_add_one_iff]
      rw [e]; exact hx
    · exact ⟨_, h, fun x hx => hx⟩
  · exact ⟨_, h, fun x hx => hx⟩
theorem linR_rel [Pins] {E : Wh} {op : BinOp} {k : IntKind} {i : Nat} {q b c d n : Int} {v : V} (hq : q = Pins.num i) (h0 : 0 ≤ q) (h1 : q < b) (hr : inR k (q * c + d) = true) (h : linR op k n i q b c d = some (true, v)) :
    ∃ v0, iop op k n (q * c + d) = some (true, v0) ∧ ∀ x, VRel E v0 x → VRel E v x := by
  unfold linR at h
  split at h
  · cases h; exact ⟨_, rfl, fun x hx => linV_rel hq h0 h1 (by rwa [show n + (q * c + d) = q * c + (n + d) by omega] at hx)⟩
  · cases h; exact ⟨_, rfl, fun x hx => linV_rel hq h0 h1 (by rwa [show n - (q * c + d) = q * (-c) + (n - d) by rw [Int.mul_neg]; omega] at hx)⟩
  · obtain ⟨v0, g1, g2⟩ := linI_rel hq h0 h1 hr h; exact ⟨v0, g1, g2⟩
  · obtain ⟨v0, g1, g2⟩ := linI_rel hq h0 h1 hr h; exact ⟨v0, g1, g2⟩
  · obtain ⟨v0, g1, g2⟩ := linI_rel hq h0 h1 hr h; exact ⟨v0, g1, g2⟩
  · obtain ⟨v0, g1, g2⟩ := linI_rel hq h0 h1 hr h; exact ⟨v0, g1, g2⟩
  · exact ⟨_, h, fun x hx => hx⟩
theorem lin_lt {q q' c d d' : Int} (h : q < q') (h2 : 0 ≤ d) (h3 : d < c) (h4 : 0 ≤ d') : q * c + d < q' * c + d' := by
  have : 0 ≤ (q' - q - 1) * c := Int.mul_nonneg (by omega) (by omega)
  have e : (q' - q - 1) * c = q' * c - q * c - c := by rw [Int.sub_mul, Int.sub_mul]; omega
  omega
theorem linA_lt [Pins] {i i' : Nat} {q q' c c' d d' : Int} (hq : q = Pins.num i) (hq' : q' = Pins.num i') (h : linA i i' c c' d d' = true) :
    (Nat.blt i i' = true ∧ Nat.blt i' i = false ∧ q * c + d < q' * c' + d') ∨ (Nat.blt i i' = false ∧ Nat.blt i' i = true ∧ q' * c' + d' < q * c + d) := by
  simp only [linA, Bool.and_eq_true, Bool.not_eq_true', decide_eq_true_eq] at h
  obtain ⟨h1, rfl, h2, h3, h4, h5⟩ := h
  have hne : i ≠ i' := fun e => by subst e; simp at h1
  have bt : ∀ {x y : Nat}, x < y → Nat.blt x y = true := fun hh => Nat.ble_eq_true_of_le hh
  have bf : ∀ {x y : Nat}, ¬ x < y → Nat.blt x y = false := fun hh => by
    cases hb : Nat.blt _ _ with
    | false => rfl
    | true => exact absurd (Nat.le_of_ble_eq_true hb) hh
  rcases Nat.lt_or_gt_of_ne hne with hl | hl
  · exact .inl ⟨bt hl, bf (by omega), lin_lt (by rw [hq, hq']; exact Pins.ord i i' hl) h2 h3 h4⟩
  · exact .inr ⟨bf (by omega), bt hl, lin_lt (by rw [hq, hq']; exact Pins.ord i' i hl) h4 h5 h2⟩
theorem linA_ne [Pins] {i i' : Nat} {q q' c c' d d' : Int} (hq : q = Pins.num i) (hq' : q' = Pins.num i') (h : linA i i' c c' d d' = true) : q * c + d ≠ q' * c' + d' := by
  rcases linA_lt hq hq' h with ⟨_, _, h⟩ | ⟨_, _, h⟩ <;> omega
theorem linS [Pins] {i i' : Nat} {q q' c c' : Int} (hq : q = Pins.num i) (hq' : q' = Pins.num i') (h : (Nat.beq i i' && decide (c = c')) = true) : q' = q ∧ c' = c := by
  simp only [Bool.and_eq_true, decide_eq_true_eq] at h
  have := Nat.eq_of_beq_eq_true h.1
  subst this
  exact ⟨by rw [hq, hq'], h.2.symm⟩
theorem linL_rel [Pins] {E : Wh} {op : BinOp} {k : IntKind} {i i' : Nat} {q c d q' c' d' : Int} {v : V} (hq : q = Pins.num i) (hq' : q' = Pins.num i') (h : linL op k i q c d i' q' c' d' = some (true, v)) :
    ∃ v0, iop op k (q * c + d) (q' * c' + d') = some (true, v0) ∧ ∀ x, VRel E v0 x → VRel E v x := by
  unfold linL at h
  split at h
  · rename_i hs
    obtain ⟨rfl, rfl⟩ := linS hq hq' hs
    split at h <;> (try cases h)
    · exact ⟨_, rfl, fun x hx => by rwa [show q' * c' + d - (q' * c' + d') = d - d' by omega] at hx⟩
    · refine ⟨_, rfl, fun x hx => ?_⟩
      have e : (d == d') = (q' * c' + d == q' * c' + d') := by rw [Bool.eq_iff_iff, beq_iff_eq, beq_iff_eq]; omega
      rw [e]; exact hx
    · refine ⟨_, rfl, fun x hx => ?_⟩
      have e : (d != d') = (q' * c' + d != q' * c' + d') := by rw [Bool.eq_iff_iff, bne_iff_ne, bne_iff_ne]; omega
      rw [e]; exact hx
    · refine ⟨_, rfl, fun x hx => ?_⟩
      have e : decide (d < d') = decide (q' * c' + d < q' * c' + d') := by rw [decide_eq_decide]; omega
      rw [e]; exact hx
    · refine ⟨_, rfl, fun x hx => ?_⟩
      have e : decide (d ≤ d') = decide (q' * c' + d ≤ q' * c' + d') := by rw [decide_eq_decide]; omega
      rw [e]; exact hx
    · refine ⟨_, rfl, fun x hx => ?_⟩
      have e : decide (d > d') = decide (q' * c' + d > q' * c' + d') := by rw [decide_eq_decide]; omega
      rw [e]; exact hx
    · refine ⟨_, rfl, fun x hx => ?_⟩
      have e : decide (d ≥ d') = decide (q' * c' + d ≥ q' * c' + d') := by rw [decide_eq_decide]; omega
      rw [e]; exact hx
    · exact ⟨_, h, fun x hx => hx⟩
  · split at h
    · rename_i ha
      have hne := linA_ne hq hq' ha
      split at h <;> (try cases h)
      · refine ⟨_, rfl, fun x hx => ?_⟩
        have e : false = (q * c + d == q' * c' + d') := by simp [hne]
        rw [e]; exact hx
      · refine ⟨_, rfl, fun x hx => ?_⟩
        have e : true = (q * c + d != q' * c' + d') := by simp [hne]
        rw [e]; exact hx
      · refine ⟨_, rfl, fun x hx => ?_⟩
        have e : Nat.blt i i' = decide (q * c + d < q' * c' + d') := by
          rcases linA_lt hq hq' ha with ⟨e1, _, hh⟩ | ⟨e1, _, hh⟩
          · rw [e1]; symm; rw [decide_eq_true_eq]; exact hh
          · rw [e1]; symm; rw [decide_eq_false_iff_not]; omega
        rw [e]; exact hx
      · refine ⟨_, rfl, fun x hx => ?_⟩
        have e : Nat.blt i i' = decide (q * c + d ≤ q' * c' + d') := by
          rcases linA_lt hq hq' ha with ⟨e1, _, hh⟩ | ⟨e1, _, hh⟩
          · rw [e1]; symm; rw [decide_eq_true_eq]; omega
          · rw [e1]; symm; rw [decide_eq_false_iff_not]; omega
        rw [e]; exact hx
      · refine ⟨_, rfl, fun x hx => ?_⟩
        have e : Nat.blt i' i = decide (q * c + d > q' * c' + d') := by
          rcases linA_lt hq hq' ha with ⟨_, e1, hh⟩ | ⟨_, e1, hh⟩
          · rw [e1]; symm; rw [decide_eq_false_iff_not]; omega
          · rw [e1]; symm; rw [decide_eq_true_eq]; omega
        rw [e]; exact hx
      · refine ⟨_, rfl, fun x hx => ?_⟩
        have e : Nat.blt i' i = decide (q * c + d ≥ q' * c' + d') := by
          rcases linA_lt hq hq' ha with ⟨_, e1, hh⟩ | ⟨_, e1, hh⟩
          · rw [e1]; symm; rw [decide_eq_false_iff_not]; omega
          · rw [e1]; symm; rw [decide_eq_true_eq]; omega
        rw [e]; exact hx
      · exact ⟨_, h, fun x hx => hx⟩
    · exact ⟨_, h, fun x hx => hx⟩
theorem eqN_rel [Pins] {E : Wh} {x y : V} {r : Bool} {cx cy : Value} (h : eqN x y = some r) (hx : VRel E x cx) (hy : VRel E y cy) : ∃ k a b, cx = .int k a ∧ cy = .int k b ∧ r = (a == b) := by
  unfold eqN at h
  split at h
  · split at h
    · rename_i hk
      subst hk
      obtain ⟨⟨rfl, _⟩, hq, _⟩ := (by simpa only [VRel] using hx.lin)
      obtain ⟨⟨rfl, _⟩, hq', _⟩ := (by simpa only [VRel] using hy.lin)
      refine ⟨_, _, _, rfl, rfl, ?_⟩
      split at h
      · rename_i hs
        obtain ⟨rfl, rfl⟩ := linS hq hq' hs
        cases h
        rw [Bool.eq_iff_iff, beq_iff_eq, beq_iff_eq]; omega
      · split at h
        · rename_i ha
          cases h
          simp [linA_ne hq hq' ha]
        · cases h; rfl
    · cases h
  · split at h
    · rename_i hk
      subst hk
      cases h
      simp only [VRel] at hx hy
      exact ⟨_, _, _, hx.1, hy.1, rfl⟩
    · cases h
  · split at h
    · rename_i hk
      subst hk
      cases h
      simp only [VRel] at hx hy
      exact ⟨_, _, _, hx.1, hy.1, rfl⟩
    · cases h
  · split at h
    · rename_i hk
      subst hk
      cases h
      simp only [VRel] at hx hy
      exact ⟨_, _, _, hx.1, hy.1, rfl⟩
    · cases h
  · cases h
theorem eqA_rel [Pins] {d : Nat} {eq : V → V → Option Bool} {e : TypeId} {q : Nat} (heq : ∀ (x y : V) (r : Bool) (cx cy : Value), eq x y = some r → VRel E x cx → VRel E y cy → (Op.equalIn d e cx cy).run P w = .ok r w)
    {xs ys : List V} {cx cy : Array Value} (hx : VsRel E xs cx.toList) (hy : VsRel E ys cy.toList) (hx1 : ∀ u ∈ cx.toList, u.oneCell' = true) (hy1 : ∀ u ∈ cy.toList, u.oneCell' = true) :
    ∀ {is : List Nat} {r : Bool}, eqA P eq e q xs ys is = some r → (Op.eqItems d e q cx cy is).run P w = .ok r w
  | [], r, h => by simp [eqA] at h; subst h; simp [Op.eqItems]
  | i :: is, r, h => by
    simp only [eqA] at h
    split at h
    · rename_i x y hpx hpy
      split at h
      · rename_i r1 s1 hr1 hs1
        cases h
        obtain ⟨c1, g1, g2⟩ := part_rel (w := w) hx hx1 hpx
        obtain ⟨c2, g3, g4⟩ := part_rel (w := w) hy hy1 hpy
        have g5 := heq _ _ _ _ _ hr1 g2 g4
        have ih := eqA_rel heq hx hy hx1 hy1 hs1
        simp only [Op.eqItems, Sem.run_bind, g1, g3, g5, Result.andThen_ok, Sem.run_ite]
        cases r1 <;> simp [ih]
      · cases h
    · cases h
theorem eqT_rel [Pins] : ∀ (d q : Nat) {t : TypeId} {x y : V} {r : Bool} {cx cy : Value}, eqT P d t x y = some r → VRel E x cx → VRel E y cy → (Op.equalIn (d + q) t cx cy).run P w = .ok r w
  | 0, q, t, x, y, r, cx, cy, h, hx, hy => by simp [eqT] at h
  | d + 1, q, t, x, y, r, cx, cy, h, hx, hy => by
    unfold eqT at h
    rw [show d + 1 + q = (d + q) + 1 by omega]
    split at h
    · rename_i a b hu
      cases h
      simp only [VRel] at hx hy
      subst hx; subst hy
      exact run_equalIn_bool' w _ t a b hu
    · rename_i k0 k a k' b hu
      split at h
      · cases h
        rename_i hk
        simp only [VRel] at hx hy
        obtain ⟨rfl, _⟩ := hx
        obtain ⟨rfl, _⟩ := hy
        subst hk
        exact run_equalIn_int w _ t k _ a b hu
      · cases h
    · rename_i k0 k i q b c d y hu
      obtain ⟨k', a, b', rfl, rfl, rfl⟩ := eqN_rel h hx hy
      exact run_equalIn_int w _ t k' _ a b' hu
    · rename_i k0 k n k' i q b c d hu
      obtain ⟨k', a, b', rfl, rfl, rfl⟩ := eqN_rel h hx hy
      exact run_equalIn_int w _ t k' _ a b' hu
    · rename_i a b hu
      cases h
      simp only [VRel] at hx hy
      obtain ⟨s, rfl, rfl, _⟩ := hx
      obtain ⟨s', rfl, rfl, _⟩ := hy
      rw [bytesI_beq]
      exact run_equalIn_string w _ t s s' hu
    · rename_i fs xs ys hu
      split at h
      · cases h
      · rename_i hp
        simp only [VRel] at hx hy
        obtain ⟨cs, rfl, hx1, hx2⟩ := hx
        obtain ⟨cs', rfl, hy1, hy2⟩ := hy
        rw [run_equalIn_struct w (d + q) t cs cs' (by rw [fieldsOf_eq hu]; exact hu) (by simpa using hp), fieldsOf_eq hu]
        exact eqF_rel (fun t x y r cx cy h hx hy => eqT_rel d q h hx hy) hx1 hy1 hx2 hy2 h
    · rename_i n e xs ys hu
      split at h
      · rename_i sz hsz
        simp only [VRel] at hx hy
        obtain ⟨cs, rfl, hx1, hx2⟩ := hx
        obtain ⟨cs', rfl, hy1, hy2⟩ := hy
        obtain ⟨i, hi, rfl⟩ := sizeT_some hsz
        rw [run_equalIn_array w (d + q) cs cs' hu hi]
        have hc : P.cellsOf e = i.size := by simp [Program.cellsOf, hi]
        rw [hc]
        exact eqA_rel (fun x y r cx cy h hx hy => eqT_rel d q h hx hy) hx1 hy1 hx2 hy2 h
      · cases h
    · cases h
theorem nilop_some [Pins] {op : BinOp} {z c : Bool} {v : V} (h : nilop op z = some (c, v)) : c = true ∧ ((op = .eql ∧ v = .B z) ∨ (op = .neq ∧ v = .B (!z))) := by
  cases op <;> simp [nilop] at h
  · obtain ⟨rfl, rfl⟩ := h; simp
  · obtain ⟨rfl, rfl⟩ := h; simp
theorem pointee_eq [Pins] {t e : TypeId} (h : P.underlying t = some (.pointer e)) : P.pointee t = e := by simp [Program.pointee, h]
theorem eqGuard_one [Pins] {op : BinOp} {t : TypeId} {x y : Operand} {c d : Value} (h : (∀ z, c ≠ .agg z) ∧ c ≠ .nilIface) : eqGuard op t x y c d = pure () := by
  cases c <;> first | exact absurd rfl (h.1 _) | exact absurd rfl h.2 | (cases op <;> rfl)
theorem equalIn_nils [Pins] (d : Nat) {t e : TypeId} (h : P.underlying t = some (.slice e)) : (Op.equalIn (d + 1) t (.slice none 0 0) (.slice none 0 0)).run P w = .ok true w := by
  simp [Op.equalIn, run_underlying h]
theorem equalIn_ifc [Pins] (d : Nat) {t u : TypeId} {ms : Array (String × TypeId)} {c : Value} (h : P.underlying t = some (.interface ms)) : (Op.equalIn (d + 1) t (.iface u c) .nilIface).run P w = .ok false w := by
  simp [Op.equalIn, run_underlying h]
theorem bop0_rel [Pins] {op : BinOp} {t : TypeId} {x y v : V} {cx cy : Value} {ox oy : Operand} (hx : VRel E x cx) (hy : VRel E y cy) (h : bop0 P op t x y = some (true, v)) :
    ∃ cv, (do eqGuard op t ox oy cx cy; binOp op t cx cy : Sem Value).run P w = .ok cv w ∧ VRel E v cv := by
  unfold bop0 at h
  split at h
  · rename_i k a k' b
    simp only [VRel] at hx hy
    obtain ⟨rfl, hx⟩ := hx
    obtain ⟨rfl, hy⟩ := hy
    rw [eqGuard_one ⟨fun z => by simp, by simp⟩]
    simp only [Sem.run_bind, Sem.run_pure, Result.andThen_ok]
    split at h
    · exact shop_rel hx h
    · exact shop_rel hx h
    · rename_i h1 h2
      split at h
      · rename_i hk
        subst hk
        exact iop_rel hx h h1 h2
      · cases h
  · simp only [VRel] at hx hy
    obtain ⟨s, rfl, rfl, _⟩ := hx
    obtain ⟨s', rfl, rfl, _⟩ := hy
    rw [eqGuard_one ⟨fun z => by simp, by simp⟩]
    simp only [Sem.run_bind, Sem.run_pure, Result.andThen_ok]
    exact strop_rel h
  · simp only [VRel] at hx hy
    subst hx; subst hy
    rw [eqGuard_one ⟨fun z => by simp, by simp⟩]
    simp only [Sem.run_bind, Sem.run_pure, Result.andThen_ok]
    split at h
    · rename_i hu
      cases h
      exact ⟨_, run_eql_bool w t _ _ hu, by simp [VRel]⟩
    · rename_i hu
      cases h
      exact ⟨_, run_neq_bool w t _ _ hu, by simp [VRel]⟩
    · cases h
  · rename_i xs ys
    split at h
    · cases h
    · rename_i hg
      obtain ⟨cs, hcs, _⟩ := (by simpa only [VRel] using hx : ∃ cs : Array Value, cx = .agg cs ∧ VsRel E xs cs.toList ∧ ∀ u ∈ cs.toList, u.oneCell' = true)
      obtain ⟨cs', hcs', _⟩ := (by simpa only [VRel] using hy : ∃ cs : Array Value, cy = .agg cs ∧ VsRel E ys cs.toList ∧ ∀ u ∈ cs.toList, u.oneCell' = true)
      split at h
      · rename_i r hr
        cases h
        have := eqT_rel (w := w) 12 9988 hr hx hy
        subst hcs; subst hcs'
        refine ⟨.bool r, ?_, by simp [VRel]⟩
        simp only [Sem.run_bind, run_eqGuard_agg w .eql t ox oy cs cs' (by simpa using hg), Result.andThen_ok, run_eql_struct]
        rw [this]; rfl
      · rename_i r hr
        cases h
        have := eqT_rel (w := w) 12 9988 hr hx hy
        subst hcs; subst hcs'
        refine ⟨.bool (!r), ?_, by simp [VRel]⟩
        simp only [Sem.run_bind, run_eqGuard_agg w .neq t ox oy cs cs' (by simpa using hg), Result.andThen_ok, run_neq_struct]
        rw [this]; rfl
      · cases h
  · simp only [VRel] at hx hy
    subst hx; subst hy
    rw [eqGuard_one ⟨fun z => by simp, by simp⟩]
    simp only [Sem.run_bind, Sem.run_pure, Result.andThen_ok]
    split at h
    · rename_i e hu
      have hu' : P.underlying t = some (.pointer (P.pointee t)) := by rw [pointee_eq hu]; exact hu
      obtain ⟨_, ⟨rfl, rfl⟩ | ⟨rfl, rfl⟩⟩ := nilop_some h
      · exact ⟨_, run_eql_pointer_nil w t none hu', by simp [VRel]⟩
      · exact ⟨_, run_neq_pointer_nil w t none hu', by simp [VRel]⟩
    · cases h
  · simp only [VRel] at hx hy
    obtain ⟨e0, _, _, rfl⟩ := hx
    subst hy
    rw [eqGuard_one ⟨fun z => by simp, by simp⟩]
    simp only [Sem.run_bind, Sem.run_pure, Result.andThen_ok]
    split at h
    · rename_i e hu
      have hu' : P.underlying t = some (.pointer (P.pointee t)) := by rw [pointee_eq hu]; exact hu
      obtain ⟨_, ⟨rfl, rfl⟩ | ⟨rfl, rfl⟩⟩ := nilop_some h
      · exact ⟨_, run_eql_pointer_nil w t (some _) hu', by simp [VRel]⟩
      · exact ⟨_, run_neq_pointer_nil w t (some _) hu', by simp [VRel]⟩
    · cases h
  · simp only [VRel] at hx hy
    subst hx; subst hy
    rw [eqGuard_one ⟨fun z => by simp, by simp⟩]
    simp only [Sem.run_bind, Sem.run_pure, Result.andThen_ok]
    split at h
    · rename_i e hu
      obtain ⟨_, ⟨rfl, rfl⟩ | ⟨rfl, rfl⟩⟩ := nilop_some h
      · refine ⟨.bool true, ?_, by simp [VRel]⟩
        simp only [binOp]
        simp [Op.equal, Op.maxDepth, equalIn_nils 9999 hu]
      · refine ⟨.bool false, ?_, by simp [VRel]⟩
        simp only [binOp]
        simp [Op.equal, Op.maxDepth, equalIn_nils 9999 hu]
    · cases h
  · simp only [VRel] at hx hy
    obtain ⟨c', rfl, _⟩ := hx
    subst hy
    rw [eqGuard_one ⟨fun z => by simp, by simp⟩]
    simp only [Sem.run_bind, Sem.run_pure, Result.andThen_ok]
    split at h
    · rename_i e hu
      obtain ⟨_, ⟨rfl, rfl⟩ | ⟨rfl, rfl⟩⟩ := nilop_some h
      · refine ⟨.bool false, ?_, by simp [VRel]⟩
        simp only [binOp]
        simp [Op.equal, Op.maxDepth, equalIn_ifc 9999 hu]
      · refine ⟨.bool true, ?_, by simp [VRel]⟩
        simp only [binOp]
        simp [Op.equal, Op.maxDepth, equalIn_ifc 9999 hu]
    · cases h
  · cases h
theorem iop_bop [Pins] {op : BinOp} {t : TypeId} {k : IntKind} {a b : Int} {v : V} (h : iop op k a b = some (true, v)) : bop0 P op t (.I k a) (.I k b) = some (true, v) := by
  unfold bop0
  cases op <;> first | (simp only [if_true]; exact h) | (simp [iop] at h)
theorem bop_rel [Pins] {op : BinOp} {t : TypeId} {x y v : V} {cx cy : Value} {ox oy : Operand} (hx : VRel E x cx) (hy : VRel E y cy) (h : bop P op t x y = some (true, v)) :
    ∃ cv, (do eqGuard op t ox oy cx cy; binOp op t cx cy : Sem Value).run P w = .ok cv w ∧ VRel E v cv := by
  unfold bop at h
  split at h
  · split at h
    · split at h
      · rename_i hk
        subst hk
        obtain ⟨px, hq, _⟩ := hx.lin
        obtain ⟨py, hq', _⟩ := hy.lin
        obtain ⟨v0, g1, g2⟩ := linL_rel (E := E) hq hq' h
        obtain ⟨cv, g3, g4⟩ := bop0_rel (ox := ox) (oy := oy) (w := w) px py (iop_bop (P := P) (t := t) g1)
        exact ⟨cv, g3, g2 _ g4⟩
      · cases h
    · split at h
      · rename_i hk
        subst hk
        obtain ⟨px, hq, q0, q1, qr⟩ := hx.lin
        obtain ⟨v0, g1, g2⟩ := linI_rel (E := E) hq q0 q1 qr h
        obtain ⟨cv, g3, g4⟩ := bop0_rel (ox := ox) (oy := oy) (w := w) px hy (iop_bop (P := P) (t := t) g1)
        exact ⟨cv, g3, g2 _ g4⟩
      · cases h
    · cases h
  · split at h
    · split at h
      · rename_i hk
        subst hk
        obtain ⟨py, hq, q0, q1, qr⟩ := hy.lin
        obtain ⟨v0, g1, g2⟩ := linR_rel (E := E) hq q0 q1 qr h
        obtain ⟨cv, g3, g4⟩ := bop0_rel (ox := ox) (oy := oy) (w := w) hx py (iop_bop (P := P) (t := t) g1)
        exact ⟨cv, g3, g2 _ g4⟩
      · exact bop0_rel hx hy.lin.1 h
    · exact bop0_rel hx hy h
  · exact bop0_rel hx hy h
theorem goes_binOp [Pins] (hS : Sim E m w) (hρ : ERel E ρ a.tmps.toList) {op : BinOp} {t u : TypeId} {x y : Operand} (ho : o.op = .binOp op t x y u) {v : V} (h : bop P op t (opd ρ x) (opd ρ y) = some (true, v)) : Goes P o a E m w v ρ m := by
  obtain ⟨cv, h1, h2⟩ := bop_rel (w := w) (ox := x) (oy := y) (opd_rel (a := a) hρ x) (opd_rel (a := a) hρ y) h
  refine goes_pure hS hρ ?_ h2
  simp only [Sem.run_bind] at h1
  simp only [execOp, ho, Sem.run_bind, h1, Result.andThen_ok, Sem.run_pure]
theorem goes_unOp [Pins] (hS : Sim E m w) (hρ : ERel E ρ a.tmps.toList) {op : UnOp} {t : TypeId} {x : Operand} (ho : o.op = .unOp op t x) {v : V} (h : uop op (opd ρ x) = some v) : Goes P o a E m w v ρ m := by
  have hx := opd_rel (a := a) hρ x
  generalize hq : opd ρ x = q at h hx
  unfold uop at h
  split at h
  · rename_i k n
    cases h
    simp only [VRel] at hx
    exact goes_pure hS hρ (cv := .int k (k.wrap (0 - n))) (by simp [execOp, ho, hx.1, Op.unary, Op.intArith]) (by simp [VRel, inR_wrap])
  · rename_i k n
    cases h
    simp only [VRel] at hx
    exact goes_pure hS hρ (cv := .int k (ibits .xor k (if k.signed then -1 else k.max) n)) (by simp [execOp, ho, hx.1, Op.unary, Op.intBits, ibits]) (by simp [VRel, ibits, inR_wrap])
  · rename_i b
    cases h
    simp only [VRel] at hx
    exact goes_pure hS hρ (cv := .bool (!b)) (by simp [execOp, ho, hx, Op.unary]) (by simp [VRel])
  · cases h

/-! ### Fields, tuples, functions, interfaces -/
theorem goes_extract [Pins] (hS : Sim E m w) (hρ : ERel E ρ a.tmps.toList) {x : Operand} {ix : Nat} (ho : o.op = .extract x ix) {vs : List V} {v : V} (hx : opd ρ x = .tup vs) (h : vs[ix]? = some v) : Goes P o a E m w v ρ m := by
  have hr := opd_rel (a := a) hρ x
  rw [hx] at hr
  simp only [VRel] at hr
  obtain ⟨cs, hc, hv⟩ := hr
  obtain ⟨c, h1, h2⟩ := hv.look ix v h
  have h1' : cs[ix]? = some c := by simpa using h1
  exact goes_pure hS hρ (by simp [execOp, ho, hc, Instr.extract, h1']) h2
theorem goes_makeFunc [Pins] (hS : Sim E m w) (hρ : ERel E ρ a.tmps.toList) {f : Fn} {x y : Array Operand} (ho : o.op = .makeFunc f x y) : Goes P o a E m w (.fn f (x.toList.map (opd ρ)) (y.toList.map (opd ρ))) ρ m := by
  refine goes_pure hS hρ (cv := .func f (x.map a.eval) (y.map a.eval)) (by simp [execOp, ho, Instr.makeFunc]) ?_
  simp only [VRel]
  exact ⟨_, _, rfl, opds_rel hρ x, opds_rel hρ y⟩
theorem goes_makeInterface [Pins] (hS : Sim E m w) (hρ : ERel E ρ a.tmps.toList) {t : TypeId} {x : Operand} (ho : o.op = .makeInterface t x) {d : TypeDesc} (hd : P.underlying t = some d) (hn : ∀ ms, d ≠ .interface ms) : Goes P o a E m w (.ifc t (opd ρ x)) ρ m := by
  refine goes_pure hS hρ (cv := .iface t (a.eval x)) ?_ ?_
  · simp only [execOp, ho, Instr.makeInterface, Sem.run_bind, run_underlying hd, Result.andThen_ok]
    cases d <;> first | rfl | exact absurd rfl (hn _)
  · simp only [VRel]; exact ⟨_, rfl, opd_rel hρ x⟩
theorem fieldT_some [Pins] {t : TypeId} {f n : Nat} {ft : TypeId} (h : fieldT P t f = some (n, ft)) : ∃ fs x, P.underlying t = some (.struct fs) ∧ fs[f]? = some x ∧ x.offset = n ∧ x.type = ft := by
  unfold fieldT at h
  split at h
  · rename_i fs hu
    split at h
    · rename_i x hx
      cases h
      exact ⟨fs, x, hu, by simpa using hx, rfl, rfl⟩
    · cases h
  · cases h
theorem goes_field [Pins] (hS : Sim E m w) (hρ : ERel E ρ a.tmps.toList) {t : TypeId} {x : Operand} {f n : Nat} {ft : TypeId} (ho : o.op = .field t x f) {vs : List V} {v : V} (hf : fieldT P t f = some (n, ft)) (hx : opd ρ x = .agg vs) (h : partV P ft vs n = some v) : Goes P o a E m w v ρ m := by
  have hr := opd_rel (a := a) hρ x
  rw [hx] at hr
  simp only [VRel] at hr
  obtain ⟨cs, hc, hv, h1⟩ := hr
  obtain ⟨fs, fx, g1, g2, rfl, rfl⟩ := fieldT_some hf
  obtain ⟨cv, q1, q2⟩ := part_rel (w := w) hv h1 h
  exact goes_pure hS hρ (by simp [execOp, ho, hc, Instr.field, run_underlying g1, g2, asAgg, q1]) q2
theorem goes_fieldAddr [Pins] (hS : Sim E m w) (hρ : ERel E ρ a.tmps.toList) {t : TypeId} {x : Operand} {f n : Nat} {ft : TypeId} (ho : o.op = .fieldAddr t x f) {k row fld sz : Nat} (hf : fieldT P t f = some (n, ft)) (hsz : sizeT P ft = some sz) (h0 : sz ≠ 0)
    (hx : opd ρ x = .ptr k row fld) : Goes P o a E m w (.ptr k row (fld + n)) ρ m := by
  have hr := opd_rel (a := a) hρ x
  rw [hx] at hr
  simp only [VRel] at hr
  obtain ⟨e, h1, h2, h3⟩ := hr
  obtain ⟨fs, fx, g1, g2, rfl, rfl⟩ := fieldT_some hf
  refine goes_pure hS hρ (cv := .pointer (some ⟨e.blk, e.off + (row * e.nc + (fld + fx.offset)), none⟩)) ?_ (by simp only [VRel]; exact ⟨e, h1, h2, rfl⟩)
  simp [execOp, ho, h3, Instr.fieldAt, run_underlying g1, g2, Instr.sureAddr, fieldPlace, run_sizeOf' hsz, h0, Addr.add_none, Nat.add_assoc]
end
end Go.Ab
