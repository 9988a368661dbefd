import Derived.Test.YtnndiicpiolddaaLen4
set_option linter.unusedVariables false
set_option linter.unusedSimpArgs false
namespace Go.Proofs.Ytnndiicpiolddaa.tls
open Go Go.Ab
theorem rlx_d {q m : Nat} {pa t reg : Int} {xs fs : List Int} {k1 : Prop} {k2 : Int → Prop} {k3 : Prop} (hn : xs.length ≤ 2000000) (hx : xs.length ≤ xs.length) (hq : q + 16 ≤ xs.length) (h0 : 0 ≤ pa) (r0 : 0 ≤ reg) (r1 : reg < 16) :
    (m16 xs q = true → k2 reg) → (m16 xs q = false → RL45_10h G70_2 m pa t q (reg + 1) xs fs k1 k2 k3) → RL45_10h G70_2 (m + 1) pa t q reg xs fs k1 k2 k3 := by
  intro a b
  show HL45_10h G70_2 (fun i => RL45_10h G70_2 m pa t q i xs fs k1 k2 k3) pa t q reg xs fs k1 k2 k3
  unfold HL45_10h
  simp (disch := omega) only [wid, dt, df, cond_true, cond_false, Bool.and_self, Int.toNat_natCast, t_7, t_12, t_16, Nat.add_sub_cancel_left, Nat.sub_zero]
  rw [g70_2b _ _ _ _ _ _ _ _ _ (by omega), el_d]
  cases hm : m16 xs q with
  | true => exact a hm
  | false => exact b hm
theorem glx_d {q : Nat} {pa t : Int} {xs fs : List Int} {k1 : Prop} {k2 : Int → Prop} {k3 : Prop} (hn : xs.length ≤ 2000000) (hx : xs.length ≤ xs.length) (hq : q + 16 ≤ xs.length) (h0 : 0 ≤ pa) :
    (m16 xs q = true → k2 0) → (m16 xs q = false → k3) → GL45_10h XL45_10h pa t q 0 xs fs k1 k2 k3 := by
  intro a b
  refine ⟨rfl, 17, ?_⟩
  cases hm : m16 xs q with
  | true => exact rlx_d hn hx hq h0 (by omega) (by omega) (fun _ => a hm) (fun h => by rw [hm] at h; cases h)
  | false =>
    have key : ∀ (d : Nat) (r : Int), 0 ≤ r → r + d = 16 → RL45_10h G70_2 (d + 1) pa t q r xs fs k1 k2 k3 := by
      intro d
      induction d with
      | zero =>
        intro r hr he
        obtain rfl : r = 16 := by omega
        exact b hm
      | succ d ih =>
        intro r hr he
        exact rlx_d hn hx hq h0 hr (by omega) (fun h => by rw [hm] at h; cases h) (fun _ => ih (r + 1) (by omega) (by omega))
    exact key 16 0 (by omega) (by omega)
theorem gbx_d {pa t fro : Int} {xs fs : List Int} {k1 : Prop} {k2 : Int → Prop} {k3 : Prop} (hn : xs.length ≤ 2000000) (h : ¬ (0 ≤ pa ∧ 0 ≤ fro ∧ fro + 16 ≤ xs.length)) :
    k1 → GL45_10h XL45_10h pa t fro 0 xs fs k1 k2 k3 := by
  intro a
  refine ⟨rfl, 1, ?_⟩
  show HL45_10h G70_2 (fun i => RL45_10h G70_2 0 pa t fro i xs fs k1 k2 k3) pa t fro 0 xs fs k1 k2 k3
  unfold HL45_10h
  by_cases c0 : pa < 0
  · simp (disch := omega) only [wid, dt, df, cond_true, cond_false]; exact a
  · by_cases c1 : fro < 0
    · simp (disch := omega) only [wid, dt, df, cond_true, cond_false]; exact a
    · simp (disch := omega) only [wid, dt, df, cond_true, cond_false]; exact a
theorem rlx_c {q m : Nat} {pa t reg : Int} {xs fs : List Int} {k1 : Prop} {k2 : Int → Prop} {k3 : Prop} (hn : xs.length ≤ 2000000) (hx : xs.length ≤ xs.length) (hq : q + 12 ≤ xs.length) (h0 : 0 ≤ pa) (r0 : 0 ≤ reg) (r1 : reg < 16) :
    (m12 xs q = true → k2 reg) → (m12 xs q = false → RL45_10g G70_2 m pa t q (reg + 1) xs fs k1 k2 k3) → RL45_10g G70_2 (m + 1) pa t q reg xs fs k1 k2 k3 := by
  intro a b
  show HL45_10g G70_2 (fun i => RL45_10g G70_2 m pa t q i xs fs k1 k2 k3) pa t q reg xs fs k1 k2 k3
  unfold HL45_10g
  simp (disch := omega) only [wid, dt, df, cond_true, cond_false, Bool.and_self, Int.toNat_natCast, t_7, t_12, t_16, Nat.add_sub_cancel_left, Nat.sub_zero]
  rw [g70_2a _ _ _ _ _ _ _ _ _ (by omega), el_c]
  cases hm : m12 xs q with
  | true => exact a hm
  | false => exact b hm
theorem glx_c {q : Nat} {pa t : Int} {xs fs : List Int} {k1 : Prop} {k2 : Int → Prop} {k3 : Prop} (hn : xs.length ≤ 2000000) (hx : xs.length ≤ xs.length) (hq : q + 12 ≤ xs.length) (h0 : 0 ≤ pa) :
    (m12 xs q = true → k2 0) → (m12 xs q = false → k3) → GL45_10g XL45_10g pa t q 0 xs fs k1 k2 k3 := by
  intro a b
  refine ⟨rfl, 17, ?_⟩
  cases hm : m12 xs q with
  | true => exact rlx_c hn hx hq h0 (by omega) (by omega) (fun _ => a hm) (fun h => by rw [hm] at h; cases h)
  | false =>
    have key : ∀ (d : Nat) (r : Int), 0 ≤ r → r + d = 16 → RL45_10g G70_2 (d + 1) pa t q r xs fs k1 k2 k3 := by
      intro d
      induction d with
      | zero =>
        intro r hr he
        obtain rfl : r = 16 := by omega
        exact b hm
      | succ d ih =>
        intro r hr he
        exact rlx_c hn hx hq h0 hr (by omega) (fun h => by rw [hm] at h; cases h) (fun _ => ih (r + 1) (by omega) (by omega))
    exact key 16 0 (by omega) (by omega)
theorem gbx_c {pa t fro : Int} {xs fs : List Int} {k1 : Prop} {k2 : Int → Prop} {k3 : Prop} (hn : xs.length ≤ 2000000) (h : ¬ (0 ≤ pa ∧ 0 ≤ fro ∧ fro + 12 ≤ xs.length)) :
    k1 → GL45_10g XL45_10g pa t fro 0 xs fs k1 k2 k3 := by
  intro a
  refine ⟨rfl, 1, ?_⟩
  show HL45_10g G70_2 (fun i => RL45_10g G70_2 0 pa t fro i xs fs k1 k2 k3) pa t fro 0 xs fs k1 k2 k3
  unfold HL45_10g
  by_cases c0 : pa < 0
  · simp (disch := omega) only [wid, dt, df, cond_true, cond_false]; exact a
  · by_cases c1 : fro < 0
    · simp (disch := omega) only [wid, dt, df, cond_true, cond_false]; exact a
    · simp (disch := omega) only [wid, dt, df, cond_true, cond_false]; exact a
theorem rlx_b {q m r : Nat} {pa t : Int} {xs fs : List Int} {k1 : Prop} {k2 : Int → Prop} {k3 : Prop} (hn : xs.length ≤ 2000000) (hx : xs.length ≤ xs.length) (hq : q + 7 ≤ xs.length) (h0 : 0 ≤ pa) (r1 : r < 16) :
    (m7 (ra r) (rb r) xs q = true → k2 r) → (m7 (ra r) (rb r) xs q = false → RL45_10f G70_1 m pa t q (r + 1 : Nat) xs fs k1 k2 k3) → RL45_10f G70_1 (m + 1) pa t q r xs fs k1 k2 k3 := by
  intro a b
  show HL45_10f G70_1 (fun i => RL45_10f G70_1 m pa t q i xs fs k1 k2 k3) pa t q r xs fs k1 k2 k3
  unfold HL45_10f
  have er := rbi_eq r r1
  by_cases h8 : r < 8
  · have ea : ra r = 72 := by simp [ra, h8]
    simp (disch := omega) only [wid, dt, df, cond_true, cond_false, Bool.and_self, Int.toNat_natCast, t_7, Nat.add_sub_cancel_left, Nat.sub_zero, beq_self_eq_true]
    rw [g70_1 _ _ _ _ _ _ (by omega)]
    rw [rbi_def, er, el_b, ← ea]
    cases hm : m7 (ra r) (rb r) xs q with
    | true => exact a hm
    | false => exact b hm
  · have ea : ra r = 76 := by simp [ra, h8]
    simp (disch := omega) only [wid, dt, df, cond_true, cond_false, Bool.and_self, Int.toNat_natCast, t_7, Nat.add_sub_cancel_left, Nat.sub_zero, beq_self_eq_true]
    rw [g70_1 _ _ _ _ _ _ (by omega)]
    rw [rbi_def, er, el_b, ← ea]
    cases hm : m7 (ra r) (rb r) xs q with
    | true => exact a hm
    | false => exact b hm
theorem glx_b {q : Nat} {pa t : Int} {xs fs : List Int} {k1 : Prop} {k2 : Int → Prop} {k3 : Prop} (hn : xs.length ≤ 2000000) (hx : xs.length ≤ xs.length) (hq : q + 7 ≤ xs.length) (h0 : 0 ≤ pa) :
    (∀ r : Nat, r < 16 → m7 (ra r) (rb r) xs q = true → (∀ j, j < r → m7 (ra j) (rb j) xs q = false) → k2 r) → ((∀ j, j < 16 → m7 (ra j) (rb j) xs q = false) → k3) → GL45_10f XL45_10f pa t q 0 xs fs k1 k2 k3 := by
  intro a b
  refine ⟨rfl, 17, ?_⟩
  have key : ∀ (d r : Nat), r + d = 16 → (∀ j, j < r → m7 (ra j) (rb j) xs q = false) → RL45_10f G70_1 (d + 1) pa t q r xs fs k1 k2 k3 := by
    intro d
    induction d with
    | zero =>
      intro r he hj
      obtain rfl : r = 16 := by omega
      exact b hj
    | succ d ih =>
      intro r he hj
      exact rlx_b hn hx hq h0 (by omega) (fun h => a r (by omega) h hj) (fun h => ih (r + 1) (by omega) (stepj hj h))
  exact key 16 0 (by omega) (fun j hj => by omega)
theorem gbx_b {pa t fro : Int} {xs fs : List Int} {k1 : Prop} {k2 : Int → Prop} {k3 : Prop} (hn : xs.length ≤ 2000000) (h : ¬ (0 ≤ pa ∧ 0 ≤ fro ∧ fro + 7 ≤ xs.length)) :
    k1 → GL45_10f XL45_10f pa t fro 0 xs fs k1 k2 k3 := by
  intro a
  refine ⟨rfl, 1, ?_⟩
  show HL45_10f G70_1 (fun i => RL45_10f G70_1 0 pa t fro i xs fs k1 k2 k3) pa t fro 0 xs fs k1 k2 k3
  unfold HL45_10f
  by_cases c0 : pa < 0
  · simp (disch := omega) only [wid, dt, df, cond_true, cond_false]; exact a
  · by_cases c1 : fro < 0
    · simp (disch := omega) only [wid, dt, df, cond_true, cond_false]; exact a
    · simp (disch := omega) only [wid, dt, df, cond_true, cond_false]; exact a
theorem g45x_19 {pa : Int} {xs : List Int} {k1 : Int → Bool → Prop} {k2 k3 : Int → Prop} {k4 k5 k6 k7 : Int → Int → Prop} (hn : xs.length ≤ 2000000) (hx : xs.length ≤ xs.length) (h1 : -9223372036854775808 ≤ pa) (h2 : pa ≤ 9223372036854775807) :
    (f16 xs.length xs pa = true → k7 (pa - 4) 0) → (f16 xs.length xs pa = false → k3 0) → G45x pa 19 xs k1 k2 k3 k4 k5 k6 k7 := by
  intro a b
  show GL45_10h XL45_10h pa 19 (IntKind.wrap .i64 (pa - 4)) 0 xs [100, 72, 139, 4, 37, 0, 0, 0, 0] (k3 0) (fun r => k7 (IntKind.wrap .i64 (pa - 4)) r) (k3 0)
  rcases wsub 4 (by omega) (by omega) h1 h2 with ⟨hw, hb⟩ | ⟨hw, hb, hc⟩
  · rw [hw]
    by_cases h : 0 ≤ pa ∧ 0 ≤ pa - 4 ∧ pa - 4 + 16 ≤ xs.length
    · obtain ⟨q, hq⟩ := Int.eq_ofNat_of_zero_le h.2.1
      have e : f16 xs.length xs pa = m16 xs q := by simp only [f16]; rw [hq, Int.toNat_natCast, dt (by omega), Bool.true_and]
      rw [hq]
      rw [e] at a b
      exact glx_d hn hx (by omega) h.1 (fun hm => by rw [← hq]; exact a hm) b
    · exact gbx_d hn (by omega) (b (by simp only [f16]; rw [df (by omega), Bool.false_and]))
  · exact gbx_d hn (by omega) (b (by simp only [f16]; rw [df (by omega), Bool.false_and]))
theorem g45x_20 {pa : Int} {xs : List Int} {k1 : Int → Bool → Prop} {k2 k3 : Int → Prop} {k4 k5 k6 k7 : Int → Int → Prop} (hn : xs.length ≤ 2000000) (hx : xs.length ≤ xs.length) (h1 : -9223372036854775808 ≤ pa) (h2 : pa ≤ 9223372036854775807) :
    (f12 xs.length xs pa = true → k6 (pa - 3) 0) → (f12 xs.length xs pa = false → k3 0) → G45x pa 20 xs k1 k2 k3 k4 k5 k6 k7 := by
  intro a b
  show GL45_10g XL45_10g pa 20 (IntKind.wrap .i64 (pa - 3)) 0 xs [100, 72, 139, 4, 37, 0, 0, 0, 0] (k3 0) (fun r => k6 (IntKind.wrap .i64 (pa - 3)) r) (k3 0)
  rcases wsub 3 (by omega) (by omega) h1 h2 with ⟨hw, hb⟩ | ⟨hw, hb, hc⟩
  · rw [hw]
    by_cases h : 0 ≤ pa ∧ 0 ≤ pa - 3 ∧ pa - 3 + 12 ≤ xs.length
    · obtain ⟨q, hq⟩ := Int.eq_ofNat_of_zero_le h.2.1
      have e : f12 xs.length xs pa = m12 xs q := by simp only [f12]; rw [hq, Int.toNat_natCast, dt (by omega), Bool.true_and]
      rw [hq]
      rw [e] at a b
      exact glx_c hn hx (by omega) h.1 (fun hm => by rw [← hq]; exact a hm) b
    · exact gbx_c hn (by omega) (b (by simp only [f12]; rw [df (by omega), Bool.false_and]))
  · exact gbx_c hn (by omega) (b (by simp only [f12]; rw [df (by omega), Bool.false_and]))
theorem g45x_22 {pa : Int} {xs : List Int} {k1 : Int → Bool → Prop} {k2 k3 : Int → Prop} {k4 k5 k6 k7 : Int → Int → Prop} (hn : xs.length ≤ 2000000) (hx : xs.length ≤ xs.length) (h1 : -9223372036854775808 ≤ pa) (h2 : pa ≤ 9223372036854775807) :
    (∀ r : Nat, r < 16 → fr r xs.length xs pa = true → (∀ j, j < r → fr j xs.length xs pa = false) → k5 (pa - 3) r) → ((∀ j, j < 16 → fr j xs.length xs pa = false) → k3 0) → G45x pa 22 xs k1 k2 k3 k4 k5 k6 k7 := by
  intro a b
  show GL45_10f XL45_10f pa 22 (IntKind.wrap .i64 (pa - 3)) 0 xs [100, 72, 139, 4, 37, 0, 0, 0, 0] (k3 0) (fun r => k5 (IntKind.wrap .i64 (pa - 3)) r) (k3 0)
  rcases wsub 3 (by omega) (by omega) h1 h2 with ⟨hw, hb⟩ | ⟨hw, hb, hc⟩
  · rw [hw]
    by_cases h : 0 ≤ pa ∧ 0 ≤ pa - 3 ∧ pa - 3 + 7 ≤ xs.length
    · obtain ⟨q, hq⟩ := Int.eq_ofNat_of_zero_le h.2.1
      have e : ∀ r, fr r xs.length xs pa = m7 (ra r) (rb r) xs q := fun r => by
        simp only [fr, f7]; rw [hq, Int.toNat_natCast, dt (by omega), Bool.true_and]
      rw [hq]
      simp only [e] at a b
      refine glx_b hn hx (by omega) h.1 (fun r hr hm hj => by rw [← hq]; exact a r hr hm hj) b
    · exact gbx_b hn (by omega) (b fun j _ => by simp only [fr, f7]; rw [df (by omega), Bool.false_and])
  · exact gbx_b hn (by omega) (b fun j _ => by simp only [fr, f7]; rw [df (by omega), Bool.false_and])
theorem g45x_23 {pa : Int} {xs : List Int} {k1 : Int → Bool → Prop} {k2 k3 : Int → Prop} {k4 k5 k6 k7 : Int → Int → Prop} (hn : xs.length ≤ 2000000) (hx : xs.length ≤ xs.length) (h1 : -9223372036854775808 ≤ pa) (h2 : pa ≤ 9223372036854775807) :
    (0 ≤ pa ∧ pa + 4 ≤ xs.length → k1 0 true) → (¬ (0 ≤ pa ∧ pa + 4 ≤ xs.length) → 0 ≤ pa → k1 0 false) → (pa < 0 → k2 0) → G45x pa 23 xs k1 k2 k3 k4 k5 k6 k7 := by
  intro a b c
  show (bif (decide (pa ≥ 0)) then (k1 0 (decide (pa ≤ (IntKind.wrap .i64 (((xs.length - 0 : Nat) : Int) - 4))))) else k2 0)
  by_cases c0 : pa ≥ 0
  · by_cases c1 : pa + 4 ≤ xs.length
    · simp (disch := omega) only [wid, dt, df, cond_true, cond_false]; exact a ⟨c0, c1⟩
    · simp (disch := omega) only [wid, dt, df, cond_true, cond_false]; exact b (by omega) c0
  · simp (disch := omega) only [wid, dt, df, cond_true, cond_false]; exact c (by omega)
theorem g45x_no {pa t : Int} {xs : List Int} {k1 : Int → Bool → Prop} {k2 k3 : Int → Prop} {k4 k5 k6 k7 : Int → Int → Prop} (e1 : t ≠ 19) (e2 : t ≠ 20) (e3 : t ≠ 22) (e4 : t ≠ 23) : k3 0 → G45x pa t xs k1 k2 k3 k4 k5 k6 k7 := by
  intro h
  unfold G45x F45x
  have q0 : (t == (23 : Int)) = false := by simpa using e4
  have q1 : ((19 : Int) != t) = true := by simpa using Ne.symm e1
  have q2 : ((20 : Int) != t) = true := by simpa using Ne.symm e2
  have q3 : ((22 : Int) != t) = true := by simpa using Ne.symm e3
  have q4 : ((23 : Int) != t) = true := by simpa using Ne.symm e4
  rw [q0, q1, q2, q3, q4]
  exact h
end Go.Proofs.Ytnndiicpiolddaa.tls
