import Derived.Test.YtnndiicpiolddaaTls4
set_option linter.unusedVariables false
set_option linter.unusedSimpArgs false
namespace Go.Proofs.Ytnndiicpiolddaa.tls
open Go Go.Ab
def le4 (off : Int) : List Int := [(IntKind.wrap .u8 (Int.fdiv (IntKind.wrap .u64 off) (2 ^ 0))), (IntKind.wrap .u8 (Int.fdiv (IntKind.wrap .u64 off) (2 ^ 8))), (IntKind.wrap .u8 (Int.fdiv (IntKind.wrap .u64 off) (2 ^ 16))), (IntKind.wrap .u8 (Int.fdiv (IntKind.wrap .u64 off) (2 ^ 24)))]
def rel (n : Nat) (xs : List Int) (q s : Nat) (w : List Int) : List Int := (List.take q xs ++ w) ++ List.take (n - (q + s)) (List.drop (q + s) xs)
def fit (off : Int) : Prop := -2147483648 ≤ off ∧ off < 2147483648
def w19 (off : Int) : List Int := ([100, 72, 139, 4, 37, 0, 0, 0, 0, 72, 141, 128] : List Int) ++ le4 off
def w20 : List Int := [100, 72, 139, 4, 37, 0, 0, 0, 0, 144, 144, 144]
def w22 (r : Nat) (off : Int) : List Int := ([if r < 8 then 72 else 73, 199, 192 + (r % 8 : Nat)] : List Int) ++ le4 off
theorem le4_length (off : Int) : (le4 off).length = 4 := by simp [le4]
theorem g46 {off : Int} {k1 : Bool → Prop} {k2 : Prop} : (fit off → k1 true) → (¬ fit off → k1 false ∧ k2) → G46 off k1 k2 := by
  intro a b
  unfold G46 F46
  by_cases c : off ≥ -2147483648
  · by_cases d : off < 2147483648
    · simp only [dt c, dt d, cond_true]; exact a ⟨c, d⟩
    · simp only [dt c, df d, cond_true]; exact (b fun h => d h.2).1
  · simp only [df c, cond_false]; exact (b fun h => c h.1).2
theorem g47 {off : Int} {k1 : Prop} {k2 : List Int → Prop} (h : fit off) : k2 (le4 off) → G47 off k1 k2 := by
  intro a
  unfold G47 F47
  obtain ⟨h1, h2⟩ := h
  simp (disch := omega) only [df, cond_false]
  exact a
theorem g15_big {n : Nat} {pa t off : Int} {xs : List Int} {k1 k2 k3 : Prop} {k4 : List Int → Prop} (h : 1048576 < n) : k1 → G15 n pa t off xs k1 k2 k3 k4 := by
  intro a
  unfold G15 F15
  simp (disch := omega) only [dt, cond_true]
  exact a
theorem g15_19 {n : Nat} {pa off : Int} {xs : List Int} {k1 k2 k3 : Prop} {k4 : List Int → Prop} (hn : n ≤ 1048576) (hx : n ≤ xs.length) (h1 : -9223372036854775808 ≤ pa) (h2 : pa ≤ 9223372036854775807) :
    (f16 n xs pa = false → k2) → (f16 n xs pa = true → ¬ fit off → k3) → (∀ q : Nat, pa - 4 = q → f16 n xs pa = true → fit off → k4 (rel n xs q 16 (w19 off))) → G15 n pa 19 off xs k1 k2 k3 k4 := by
  intro a b c
  unfold G15 F15
  simp (disch := omega) only [df, cond_false]
  refine g45_19 (by omega) hx h1 h2 (fun hf => ?_) (fun hf => a hf)
  refine g46 (fun hi => ?_) (fun hi => ⟨b hf hi, b hf hi⟩)
  refine g47 hi ?_
  have hp : 4 ≤ pa ∨ 3 ≤ pa := by simp only [f16, f12, Bool.and_eq_true, decide_eq_true_eq] at hf; omega
  have hq : pa - 4 + 16 ≤ n ∧ 0 ≤ pa - 4 := by simp only [f16, f12, Bool.and_eq_true, decide_eq_true_eq] at hf; omega
  obtain ⟨q, hq'⟩ := Int.eq_ofNat_of_zero_le hq.2
  have c := c q hq' hf hi
  rw [hq'] at hq ⊢
  have e : ((19 : Int) != 23) = true := rfl
  simp (disch := omega) only [e, wid, dt, df, cond_true, cond_false, Bool.and_self, Int.toNat_natCast, t_4, t_7, t_12, t_16, Nat.sub_zero, beq_self_eq_true, List.length_append, List.length_cons, List.length_nil, List.length_take, le4_length, Bool.not_true]
  try simp (disch := omega) only [e, dt, cond_true, Bool.and_self]
  exact c
theorem g15_20 {n : Nat} {pa off : Int} {xs : List Int} {k1 k2 k3 : Prop} {k4 : List Int → Prop} (hn : n ≤ 1048576) (hx : n ≤ xs.length) (h1 : -9223372036854775808 ≤ pa) (h2 : pa ≤ 9223372036854775807) :
    (f12 n xs pa = false → k2) → (f12 n xs pa = true → ¬ fit off → k3) → (∀ q : Nat, pa - 3 = q → f12 n xs pa = true → fit off → k4 (rel n xs q 12 w20)) → G15 n pa 20 off xs k1 k2 k3 k4 := by
  intro a b c
  unfold G15 F15
  simp (disch := omega) only [df, cond_false]
  refine g45_20 (by omega) hx h1 h2 (fun hf => ?_) (fun hf => a hf)
  refine g46 (fun hi => ?_) (fun hi => ⟨b hf hi, b hf hi⟩)
  refine g47 hi ?_
  have hp : 4 ≤ pa ∨ 3 ≤ pa := by simp only [f16, f12, Bool.and_eq_true, decide_eq_true_eq] at hf; omega
  have hq : pa - 3 + 12 ≤ n ∧ 0 ≤ pa - 3 := by simp only [f16, f12, Bool.and_eq_true, decide_eq_true_eq] at hf; omega
  obtain ⟨q, hq'⟩ := Int.eq_ofNat_of_zero_le hq.2
  have c := c q hq' hf hi
  rw [hq'] at hq ⊢
  have e : ((20 : Int) != 23) = true := rfl
  simp (disch := omega) only [e, wid, dt, df, cond_true, cond_false, Bool.and_self, Int.toNat_natCast, t_4, t_7, t_12, t_16, Nat.sub_zero, beq_self_eq_true, List.length_append, List.length_cons, List.length_nil, List.length_take, le4_length, Bool.not_true]
  try simp (disch := omega) only [e, dt, cond_true, Bool.and_self]
  exact c
theorem ri_eq : ∀ r : Nat, r < 16 → IntKind.wrap .u8 (192 + IntKind.wrap .u8 (ibits .and .i64 r 7)) = 192 + (r % 8 : Nat) := by
  intro r hr
  have : r = 0 ∨ r = 1 ∨ r = 2 ∨ r = 3 ∨ r = 4 ∨ r = 5 ∨ r = 6 ∨ r = 7 ∨ r = 8 ∨ r = 9 ∨ r = 10 ∨ r = 11 ∨ r = 12 ∨ r = 13 ∨ r = 14 ∨ r = 15 := by omega
  rcases this with rfl | rfl | rfl | rfl | rfl | rfl | rfl | rfl | rfl | rfl | rfl | rfl | rfl | rfl | rfl | rfl <;> (change _ = _; kernel_rfl)
theorem g15_22 {n : Nat} {pa off : Int} {xs : List Int} {k1 k2 k3 : Prop} {k4 : List Int → Prop} (hn : n ≤ 1048576) (hx : n ≤ xs.length) (h1 : -9223372036854775808 ≤ pa) (h2 : pa ≤ 9223372036854775807) :
    ((∀ j, j < 16 → fr j n xs pa = false) → k2) → (∀ r, r < 16 → fr r n xs pa = true → ¬ fit off → k3) → (∀ (q r : Nat), pa - 3 = q → r < 16 → fr r n xs pa = true → (∀ j, j < r → fr j n xs pa = false) → fit off → k4 (rel n xs q 7 (w22 r off))) → G15 n pa 22 off xs k1 k2 k3 k4 := by
  intro a b c
  unfold G15 F15
  simp (disch := omega) only [df, cond_false]
  refine g45_22 (by omega) hx h1 h2 (fun r hr hf hj => ?_) (fun hf => a hf)
  refine g46 (fun hi => ?_) (fun hi => ⟨b r hr hf hi, b r hr hf hi⟩)
  refine g47 hi ?_
  have hq : pa - 3 + 7 ≤ n ∧ 0 ≤ pa - 3 := by simp only [fr, f7, Bool.and_eq_true, decide_eq_true_eq] at hf; omega
  obtain ⟨q, hq'⟩ := Int.eq_ofNat_of_zero_le hq.2
  have c := c q r hq' hr hf hj hi
  rw [hq'] at hq ⊢
  have e : ((22 : Int) != 23) = true := rfl
  by_cases h8 : r < 8
  · simp (disch := omega) only [e, wid, dt, df, cond_true, cond_false, Bool.and_self, Int.toNat_natCast, t_4, t_7, t_12, t_16, Nat.sub_zero, beq_self_eq_true, List.length_append, List.length_cons, List.length_nil, List.length_take, le4_length, Bool.not_true]
    try simp (disch := omega) only [dt, cond_true, Bool.and_self]
    rw [ri_eq r hr]
    simp only [w22, if_pos h8] at c
    exact c
  · simp (disch := omega) only [e, wid, dt, df, cond_true, cond_false, Bool.and_self, Int.toNat_natCast, t_4, t_7, t_12, t_16, Nat.sub_zero, beq_self_eq_true, List.length_append, List.length_cons, List.length_nil, List.length_take, le4_length, Bool.not_true]
    try simp (disch := omega) only [dt, cond_true, Bool.and_self]
    rw [ri_eq r hr]
    simp only [w22, if_neg h8] at c
    exact c
theorem g15_23 {n : Nat} {pa off : Int} {xs : List Int} {k1 k2 k3 : Prop} {k4 : List Int → Prop} (hn : n ≤ 1048576) (hx : n ≤ xs.length) (h1 : -9223372036854775808 ≤ pa) (h2 : pa ≤ 9223372036854775807) :
    (¬ (0 ≤ pa ∧ pa + 4 ≤ n) → k2) → ((0 ≤ pa ∧ pa + 4 ≤ n) → ¬ fit off → k3) → (∀ q : Nat, pa = q → pa + 4 ≤ n → fit off → k4 (rel n xs q 4 (le4 off))) → G15 n pa 23 off xs k1 k2 k3 k4 := by
  intro a b c
  unfold G15 F15
  simp (disch := omega) only [df, cond_false]
  refine g45_23 (by omega) hx h1 h2 (fun hf => ?_) (fun hf h0 => a hf) (fun hf => a (by omega))
  refine g46 (fun hi => ?_) (fun hi => ⟨b hf hi, b hf hi⟩)
  refine g47 hi ?_
  obtain ⟨q, hq'⟩ := Int.eq_ofNat_of_zero_le hf.1
  have c := c q hq' hf.2 hi
  rw [hq'] at hf ⊢
  have e : ((23 : Int) != 23) = false := rfl
  simp (disch := omega) only [e, wid, dt, df, cond_true, cond_false, Bool.and_self, Int.toNat_natCast, t_4, t_7, t_12, t_16, Nat.sub_zero, beq_self_eq_true, List.length_append, List.length_cons, List.length_nil, List.length_take, le4_length, Bool.not_true]
  try simp (disch := omega) only [dt, cond_true, Bool.and_self]
  exact c
theorem g15_no {n : Nat} {pa t off : Int} {xs : List Int} {k1 k2 k3 : Prop} {k4 : List Int → Prop} (hn : n ≤ 1048576) (e1 : t ≠ 19) (e2 : t ≠ 20) (e3 : t ≠ 22) (e4 : t ≠ 23) : k2 → G15 n pa t off xs k1 k2 k3 k4 := by
  intro h
  unfold G15 F15
  simp (disch := omega) only [df, cond_false]
  exact g45_no e1 e2 e3 e4 h
end Go.Proofs.Ytnndiicpiolddaa.tls
