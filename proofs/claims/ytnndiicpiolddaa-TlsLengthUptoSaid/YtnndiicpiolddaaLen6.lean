import Derived.Test.YtnndiicpiolddaaLen5
set_option linter.unusedVariables false
set_option linter.unusedSimpArgs false
namespace Go.Proofs.Ytnndiicpiolddaa.tls
open Go Go.Ab
def relx (xs : List Int) (q s : Nat) (w : List Int) : List Int := (List.take q xs ++ w) ++ List.drop (q + s) xs
theorem g15x_big {pa t off : Int} {xs : List Int} {k1 k2 k3 : Prop} {k4 : List Int → Prop} (h : 1048576 < xs.length) : k1 → G15x pa t off xs k1 k2 k3 k4 := by
  intro a
  unfold G15x F15x
  simp (disch := omega) only [dt, cond_true]
  exact a
theorem g15x_19 {pa off : Int} {xs : List Int} {k1 k2 k3 : Prop} {k4 : List Int → Prop} (hn : xs.length ≤ 1048576) (hx : xs.length ≤ xs.length) (h1 : -9223372036854775808 ≤ pa) (h2 : pa ≤ 9223372036854775807) :
    (f16 xs.length xs pa = false → k2) → (f16 xs.length xs pa = true → ¬ fit off → k3) → (∀ q : Nat, pa - 4 = q → f16 xs.length xs pa = true → fit off → k4 (relx xs q 16 (w19 off))) → G15x pa 19 off xs k1 k2 k3 k4 := by
  intro a b c
  unfold G15x F15x
  simp (disch := omega) only [df, cond_false]
  refine g45x_19 (by omega) hx h1 h2 (fun hf => ?_) (fun hf => a hf)
  refine g46 (fun hi => ?_) (fun hi => ⟨b hf hi, b hf hi⟩)
  refine g47 hi ?_
  have hp : 4 ≤ pa ∨ 3 ≤ pa := by simp only [f16, f12, Bool.and_eq_true, decide_eq_true_eq] at hf; omega
  have hq : pa - 4 + 16 ≤ xs.length ∧ 0 ≤ pa - 4 := by simp only [f16, f12, Bool.and_eq_true, decide_eq_true_eq] at hf; omega
  obtain ⟨q, hq'⟩ := Int.eq_ofNat_of_zero_le hq.2
  have c := c q hq' hf hi
  rw [hq'] at hq ⊢
  have e : ((19 : Int) != 23) = true := rfl
  simp (disch := omega) only [e, wid, dt, df, cond_true, cond_false, Bool.and_self, Int.toNat_natCast, t_4, t_7, t_12, t_16, Nat.sub_zero, beq_self_eq_true, List.length_append, List.length_cons, List.length_nil, List.length_take, le4_length, Bool.not_true]
  try simp (disch := omega) only [e, dt, cond_true, Bool.and_self]
  exact c
theorem g15x_20 {pa off : Int} {xs : List Int} {k1 k2 k3 : Prop} {k4 : List Int → Prop} (hn : xs.length ≤ 1048576) (hx : xs.length ≤ xs.length) (h1 : -9223372036854775808 ≤ pa) (h2 : pa ≤ 9223372036854775807) :
    (f12 xs.length xs pa = false → k2) → (f12 xs.length xs pa = true → ¬ fit off → k3) → (∀ q : Nat, pa - 3 = q → f12 xs.length xs pa = true → fit off → k4 (relx xs q 12 w20)) → G15x pa 20 off xs k1 k2 k3 k4 := by
  intro a b c
  unfold G15x F15x
  simp (disch := omega) only [df, cond_false]
  refine g45x_20 (by omega) hx h1 h2 (fun hf => ?_) (fun hf => a hf)
  refine g46 (fun hi => ?_) (fun hi => ⟨b hf hi, b hf hi⟩)
  refine g47 hi ?_
  have hp : 4 ≤ pa ∨ 3 ≤ pa := by simp only [f16, f12, Bool.and_eq_true, decide_eq_true_eq] at hf; omega
  have hq : pa - 3 + 12 ≤ xs.length ∧ 0 ≤ pa - 3 := by simp only [f16, f12, Bool.and_eq_true, decide_eq_true_eq] at hf; omega
  obtain ⟨q, hq'⟩ := Int.eq_ofNat_of_zero_le hq.2
  have c := c q hq' hf hi
  rw [hq'] at hq ⊢
  have e : ((20 : Int) != 23) = true := rfl
  simp (disch := omega) only [e, wid, dt, df, cond_true, cond_false, Bool.and_self, Int.toNat_natCast, t_4, t_7, t_12, t_16, Nat.sub_zero, beq_self_eq_true, List.length_append, List.length_cons, List.length_nil, List.length_take, le4_length, Bool.not_true]
  try simp (disch := omega) only [e, dt, cond_true, Bool.and_self]
  exact c
theorem g15x_22 {pa off : Int} {xs : List Int} {k1 k2 k3 : Prop} {k4 : List Int → Prop} (hn : xs.length ≤ 1048576) (hx : xs.length ≤ xs.length) (h1 : -9223372036854775808 ≤ pa) (h2 : pa ≤ 9223372036854775807) :
    ((∀ j, j < 16 → fr j xs.length xs pa = false) → k2) → (∀ r, r < 16 → fr r xs.length xs pa = true → ¬ fit off → k3) → (∀ (q r : Nat), pa - 3 = q → r < 16 → fr r xs.length xs pa = true → (∀ j, j < r → fr j xs.length xs pa = false) → fit off → k4 (relx xs q 7 (w22 r off))) → G15x pa 22 off xs k1 k2 k3 k4 := by
  intro a b c
  unfold G15x F15x
  simp (disch := omega) only [df, cond_false]
  refine g45x_22 (by omega) hx h1 h2 (fun r hr hf hj => ?_) (fun hf => a hf)
  refine g46 (fun hi => ?_) (fun hi => ⟨b r hr hf hi, b r hr hf hi⟩)
  refine g47 hi ?_
  have hq : pa - 3 + 7 ≤ xs.length ∧ 0 ≤ pa - 3 := by simp only [fr, f7, Bool.and_eq_true, decide_eq_true_eq] at hf; omega
  obtain ⟨q, hq'⟩ := Int.eq_ofNat_of_zero_le hq.2
  have c := c q r hq' hr hf hj hi
  rw [hq'] at hq ⊢
  have e : ((22 : Int) != 23) = true := rfl
  by_cases h8 : r < 8
  · simp (disch := omega) only [e, wid, dt, df, cond_true, cond_false, Bool.and_self, Int.toNat_natCast, t_4, t_7, t_12, t_16, Nat.sub_zero, beq_self_eq_true, List.length_append, List.length_cons, List.length_nil, List.length_take, le4_length, Bool.not_true]
    try simp (disch := omega) only [dt, cond_true, Bool.and_self]
    rw [ri_eq r hr]
    simp only [w22, if_pos h8] at c
    exact c
  · simp (disch := omega) only [e, wid, dt, df, cond_true, cond_false, Bool.and_self, Int.toNat_natCast, t_4, t_7, t_12, t_16, Nat.sub_zero, beq_self_eq_true, List.length_append, List.length_cons, List.length_nil, List.length_take, le4_length, Bool.not_true]
    try simp (disch := omega) only [dt, cond_true, Bool.and_self]
    rw [ri_eq r hr]
    simp only [w22, if_neg h8] at c
    exact c
theorem g15x_23 {pa off : Int} {xs : List Int} {k1 k2 k3 : Prop} {k4 : List Int → Prop} (hn : xs.length ≤ 1048576) (hx : xs.length ≤ xs.length) (h1 : -9223372036854775808 ≤ pa) (h2 : pa ≤ 9223372036854775807) :
    (¬ (0 ≤ pa ∧ pa + 4 ≤ xs.length) → k2) → ((0 ≤ pa ∧ pa + 4 ≤ xs.length) → ¬ fit off → k3) → (∀ q : Nat, pa = q → pa + 4 ≤ xs.length → fit off → k4 (relx xs q 4 (le4 off))) → G15x pa 23 off xs k1 k2 k3 k4 := by
  intro a b c
  unfold G15x F15x
  simp (disch := omega) only [df, cond_false]
  refine g45x_23 (by omega) hx h1 h2 (fun hf => ?_) (fun hf h0 => a hf) (fun hf => a (by omega))
  refine g46 (fun hi => ?_) (fun hi => ⟨b hf hi, b hf hi⟩)
  refine g47 hi ?_
  obtain ⟨q, hq'⟩ := Int.eq_ofNat_of_zero_le hf.1
  have c := c q hq' hf.2 hi
  rw [hq'] at hf ⊢
  have e : ((23 : Int) != 23) = false := rfl
  simp (disch := omega) only [e, wid, dt, df, cond_true, cond_false, Bool.and_self, Int.toNat_natCast, t_4, t_7, t_12, t_16, Nat.sub_zero, beq_self_eq_true, List.length_append, List.length_cons, List.length_nil, List.length_take, le4_length, Bool.not_true]
  try simp (disch := omega) only [dt, cond_true, Bool.and_self]
  exact c
theorem g15x_no {pa t off : Int} {xs : List Int} {k1 k2 k3 : Prop} {k4 : List Int → Prop} (hn : xs.length ≤ 1048576) (e1 : t ≠ 19) (e2 : t ≠ 20) (e3 : t ≠ 22) (e4 : t ≠ 23) : k2 → G15x pa t off xs k1 k2 k3 k4 := by
  intro h
  unfold G15x F15x
  simp (disch := omega) only [df, cond_false]
  exact g45x_no e1 e2 e3 e4 h
end Go.Proofs.Ytnndiicpiolddaa.tls
