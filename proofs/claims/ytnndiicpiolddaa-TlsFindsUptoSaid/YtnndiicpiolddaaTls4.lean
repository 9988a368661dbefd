import Derived.Test.YtnndiicpiolddaaTls3
set_option linter.unusedVariables false
set_option linter.unusedSimpArgs false
namespace Go.Proofs.Ytnndiicpiolddaa.tls
open Go Go.Ab
theorem takes : ∀ (n q : Nat) (xs : List Int), q + n ≤ xs.length → List.take n (List.drop q xs) = (List.range n).map fun i => xs.getD (q + i) 0 := by
  intro n q xs h
  apply List.ext_getElem
  · simp; omega
  · intro i h1 h2
    simp only [List.length_map, List.length_range] at h2
    simp only [List.getElem_take, List.getElem_drop, List.getElem_map, List.getElem_range]
    rw [List.getD_eq_getElem?_getD, List.getElem?_eq_getElem (by omega)]
    rfl
theorem g70_1 (q : Nat) (xs : List Int) (t0 : Int) (s0 : List Int) (d0 : Int) (K : List Int → Prop) (h : q + 7 ≤ xs.length) : G70_1 q 7 xs 3 t0 s0 d0 K = K [xs.getD (q + 0) 0, xs.getD (q + 1) 0, xs.getD (q + 2) 0, 0, 0, 0, 0] := by
  have e : List.take 7 (List.drop q xs) = [xs.getD (q + 0) 0, xs.getD (q + 1) 0, xs.getD (q + 2) 0, xs.getD (q + 3) 0, xs.getD (q + 4) 0, xs.getD (q + 5) 0, xs.getD (q + 6) 0] := takes 7 q xs h
  unfold G70_1 F70_1
  rw [e]
  change _ = _
  kernel_rfl
theorem g70_2a (q : Nat) (xs : List Int) (t0 t1 : Int) (s0 s1 : List Int) (d0 d1 : Int) (K : List Int → Prop) (h : q + 12 ≤ xs.length) : G70_2 q 12 xs 3 8 t0 t1 s0 s1 d0 d1 K = K [xs.getD (q + 0) 0, xs.getD (q + 1) 0, xs.getD (q + 2) 0, 0, 0, 0, 0, xs.getD (q + 7) 0, 0, 0, 0, 0] := by
  have e : List.take 12 (List.drop q xs) = [xs.getD (q + 0) 0, xs.getD (q + 1) 0, xs.getD (q + 2) 0, xs.getD (q + 3) 0, xs.getD (q + 4) 0, xs.getD (q + 5) 0, xs.getD (q + 6) 0, xs.getD (q + 7) 0, xs.getD (q + 8) 0, xs.getD (q + 9) 0, xs.getD (q + 10) 0, xs.getD (q + 11) 0] := takes 12 q xs h
  unfold G70_2 F70_2
  rw [e]
  change _ = _
  kernel_rfl
theorem g70_2b (q : Nat) (xs : List Int) (t0 t1 : Int) (s0 s1 : List Int) (d0 d1 : Int) (K : List Int → Prop) (h : q + 16 ≤ xs.length) : G70_2 q 16 xs 4 12 t0 t1 s0 s1 d0 d1 K = K [xs.getD (q + 0) 0, xs.getD (q + 1) 0, xs.getD (q + 2) 0, xs.getD (q + 3) 0, 0, 0, 0, 0, xs.getD (q + 8) 0, xs.getD (q + 9) 0, xs.getD (q + 10) 0, xs.getD (q + 11) 0, 0, 0, 0, 0] := by
  have e : List.take 16 (List.drop q xs) = [xs.getD (q + 0) 0, xs.getD (q + 1) 0, xs.getD (q + 2) 0, xs.getD (q + 3) 0, xs.getD (q + 4) 0, xs.getD (q + 5) 0, xs.getD (q + 6) 0, xs.getD (q + 7) 0, xs.getD (q + 8) 0, xs.getD (q + 9) 0, xs.getD (q + 10) 0, xs.getD (q + 11) 0, xs.getD (q + 12) 0, xs.getD (q + 13) 0, xs.getD (q + 14) 0, xs.getD (q + 15) 0] := takes 16 q xs h
  unfold G70_2 F70_2
  rw [e]
  change _ = _
  kernel_rfl
theorem el_d (xs : List Int) (q : Nat) : ([xs.getD (q + 0) 0, xs.getD (q + 1) 0, xs.getD (q + 2) 0, xs.getD (q + 3) 0, 0, 0, 0, 0, xs.getD (q + 8) 0, xs.getD (q + 9) 0, xs.getD (q + 10) 0, xs.getD (q + 11) 0, 0, 0, 0, 0] == ([102, 72, 141, 61, 0, 0, 0, 0, 102, 102, 72, 232, 0, 0, 0, 0] : List Int)) = m16 xs q := by
  simp only [m16, List.cons_beq_cons, beq_self_eq_true, Bool.true_and, Bool.and_true, List.nil_beq_eq, List.isEmpty_nil, Nat.add_zero]
theorem rl_d {n0 q m : Nat} {pa t reg : Int} {xs fs : List Int} {k1 : Prop} {k2 : Int → Prop} {k3 : Prop} (hn : n0 ≤ 2000000) (hx : n0 ≤ xs.length) (hq : q + 16 ≤ n0) (h0 : 0 ≤ pa) (r0 : 0 ≤ reg) (r1 : reg < 16) :
    (m16 xs q = true → k2 reg) → (m16 xs q = false → RL45_10d G70_2 m n0 pa t q (reg + 1) xs fs k1 k2 k3) → RL45_10d G70_2 (m + 1) n0 pa t q reg xs fs k1 k2 k3 := by
  intro a b
  show HL45_10d G70_2 (fun i => RL45_10d G70_2 m n0 pa t q i xs fs k1 k2 k3) n0 pa t q reg xs fs k1 k2 k3
  unfold HL45_10d
  simp (disch := omega) only [wid, dt, df, cond_true, cond_false, Bool.and_self, Int.toNat_natCast, t_7, t_12, t_16, Nat.add_sub_cancel_left, Nat.sub_zero]
  rw [g70_2b _ _ _ _ _ _ _ _ _ (by omega), el_d]
  cases hm : m16 xs q with
  | true => exact a hm
  | false => exact b hm
theorem gl_d {n0 q : Nat} {pa t : Int} {xs fs : List Int} {k1 : Prop} {k2 : Int → Prop} {k3 : Prop} (hn : n0 ≤ 2000000) (hx : n0 ≤ xs.length) (hq : q + 16 ≤ n0) (h0 : 0 ≤ pa) :
    (m16 xs q = true → k2 0) → (m16 xs q = false → k3) → GL45_10d XL45_10d n0 pa t q 0 xs fs k1 k2 k3 := by
  intro a b
  refine ⟨rfl, 17, ?_⟩
  cases hm : m16 xs q with
  | true => exact rl_d hn hx hq h0 (by omega) (by omega) (fun _ => a hm) (fun h => by rw [hm] at h; cases h)
  | false =>
    have key : ∀ (d : Nat) (r : Int), 0 ≤ r → r + d = 16 → RL45_10d G70_2 (d + 1) n0 pa t q r xs fs k1 k2 k3 := by
      intro d
      induction d with
      | zero =>
        intro r hr he
        obtain rfl : r = 16 := by omega
        exact b hm
      | succ d ih =>
        intro r hr he
        exact rl_d hn hx hq h0 hr (by omega) (fun h => by rw [hm] at h; cases h) (fun _ => ih (r + 1) (by omega) (by omega))
    exact key 16 0 (by omega) (by omega)
theorem gb_d {n0 : Nat} {pa t fro : Int} {xs fs : List Int} {k1 : Prop} {k2 : Int → Prop} {k3 : Prop} (hn : n0 ≤ 2000000) (h : ¬ (0 ≤ pa ∧ 0 ≤ fro ∧ fro + 16 ≤ n0)) :
    k1 → GL45_10d XL45_10d n0 pa t fro 0 xs fs k1 k2 k3 := by
  intro a
  refine ⟨rfl, 1, ?_⟩
  show HL45_10d G70_2 (fun i => RL45_10d G70_2 0 n0 pa t fro i xs fs k1 k2 k3) n0 pa t fro 0 xs fs k1 k2 k3
  unfold HL45_10d
  by_cases c0 : pa < 0
  · simp (disch := omega) only [wid, dt, df, cond_true, cond_false]; exact a
  · by_cases c1 : fro < 0
    · simp (disch := omega) only [wid, dt, df, cond_true, cond_false]; exact a
    · simp (disch := omega) only [wid, dt, df, cond_true, cond_false]; exact a
theorem el_c (xs : List Int) (q : Nat) : ([xs.getD (q + 0) 0, xs.getD (q + 1) 0, xs.getD (q + 2) 0, 0, 0, 0, 0, xs.getD (q + 7) 0, 0, 0, 0, 0] == ([72, 141, 61, 0, 0, 0, 0, 232, 0, 0, 0, 0] : List Int)) = m12 xs q := by
  simp only [m12, List.cons_beq_cons, beq_self_eq_true, Bool.true_and, Bool.and_true, List.nil_beq_eq, List.isEmpty_nil, Nat.add_zero]
theorem rl_c {n0 q m : Nat} {pa t reg : Int} {xs fs : List Int} {k1 : Prop} {k2 : Int → Prop} {k3 : Prop} (hn : n0 ≤ 2000000) (hx : n0 ≤ xs.length) (hq : q + 12 ≤ n0) (h0 : 0 ≤ pa) (r0 : 0 ≤ reg) (r1 : reg < 16) :
    (m12 xs q = true → k2 reg) → (m12 xs q = false → RL45_10c G70_2 m n0 pa t q (reg + 1) xs fs k1 k2 k3) → RL45_10c G70_2 (m + 1) n0 pa t q reg xs fs k1 k2 k3 := by
  intro a b
  show HL45_10c G70_2 (fun i => RL45_10c G70_2 m n0 pa t q i xs fs k1 k2 k3) n0 pa t q reg xs fs k1 k2 k3
  unfold HL45_10c
  simp (disch := omega) only [wid, dt, df, cond_true, cond_false, Bool.and_self, Int.toNat_natCast, t_7, t_12, t_16, Nat.add_sub_cancel_left, Nat.sub_zero]
  rw [g70_2a _ _ _ _ _ _ _ _ _ (by omega), el_c]
  cases hm : m12 xs q with
  | true => exact a hm
  | false => exact b hm
theorem gl_c {n0 q : Nat} {pa t : Int} {xs fs : List Int} {k1 : Prop} {k2 : Int → Prop} {k3 : Prop} (hn : n0 ≤ 2000000) (hx : n0 ≤ xs.length) (hq : q + 12 ≤ n0) (h0 : 0 ≤ pa) :
    (m12 xs q = true → k2 0) → (m12 xs q = false → k3) → GL45_10c XL45_10c n0 pa t q 0 xs fs k1 k2 k3 := by
  intro a b
  refine ⟨rfl, 17, ?_⟩
  cases hm : m12 xs q with
  | true => exact rl_c hn hx hq h0 (by omega) (by omega) (fun _ => a hm) (fun h => by rw [hm] at h; cases h)
  | false =>
    have key : ∀ (d : Nat) (r : Int), 0 ≤ r → r + d = 16 → RL45_10c G70_2 (d + 1) n0 pa t q r xs fs k1 k2 k3 := by
      intro d
      induction d with
      | zero =>
        intro r hr he
        obtain rfl : r = 16 := by omega
        exact b hm
      | succ d ih =>
        intro r hr he
        exact rl_c hn hx hq h0 hr (by omega) (fun h => by rw [hm] at h; cases h) (fun _ => ih (r + 1) (by omega) (by omega))
    exact key 16 0 (by omega) (by omega)
theorem gb_c {n0 : Nat} {pa t fro : Int} {xs fs : List Int} {k1 : Prop} {k2 : Int → Prop} {k3 : Prop} (hn : n0 ≤ 2000000) (h : ¬ (0 ≤ pa ∧ 0 ≤ fro ∧ fro + 12 ≤ n0)) :
    k1 → GL45_10c XL45_10c n0 pa t fro 0 xs fs k1 k2 k3 := by
  intro a
  refine ⟨rfl, 1, ?_⟩
  show HL45_10c G70_2 (fun i => RL45_10c G70_2 0 n0 pa t fro i xs fs k1 k2 k3) n0 pa t fro 0 xs fs k1 k2 k3
  unfold HL45_10c
  by_cases c0 : pa < 0
  · simp (disch := omega) only [wid, dt, df, cond_true, cond_false]; exact a
  · by_cases c1 : fro < 0
    · simp (disch := omega) only [wid, dt, df, cond_true, cond_false]; exact a
    · simp (disch := omega) only [wid, dt, df, cond_true, cond_false]; exact a
theorem el_b (xs : List Int) (q : Nat) (a b : Int) : ([xs.getD (q + 0) 0, xs.getD (q + 1) 0, xs.getD (q + 2) 0, 0, 0, 0, 0] == ([a, 139, b, 0, 0, 0, 0] : List Int)) = m7 a b xs q := by
  simp only [m7, List.cons_beq_cons, beq_self_eq_true, Bool.true_and, Bool.and_true, List.nil_beq_eq, List.isEmpty_nil, Nat.add_zero]
def rbi (r : Int) : Int := IntKind.wrap .u8 (5 + IntKind.wrap .u8 (8 * IntKind.wrap .u8 (ibits .and .i64 r 7)))
theorem rbi_def (r : Int) : IntKind.wrap .u8 (5 + IntKind.wrap .u8 (8 * IntKind.wrap .u8 (ibits .and .i64 r 7))) = rbi r := rfl
theorem rbi_eq : ∀ r : Nat, r < 16 → rbi r = rb r := by
  intro r hr
  have : r = 0 ∨ r = 1 ∨ r = 2 ∨ r = 3 ∨ r = 4 ∨ r = 5 ∨ r = 6 ∨ r = 7 ∨ r = 8 ∨ r = 9 ∨ r = 10 ∨ r = 11 ∨ r = 12 ∨ r = 13 ∨ r = 14 ∨ r = 15 := by omega
  rcases this with rfl | rfl | rfl | rfl | rfl | rfl | rfl | rfl | rfl | rfl | rfl | rfl | rfl | rfl | rfl | rfl <;> (change _ = _; kernel_rfl)
theorem rl_b {n0 q m r : Nat} {pa t : Int} {xs fs : List Int} {k1 : Prop} {k2 : Int → Prop} {k3 : Prop} (hn : n0 ≤ 2000000) (hx : n0 ≤ xs.length) (hq : q + 7 ≤ n0) (h0 : 0 ≤ pa) (r1 : r < 16) :
    (m7 (ra r) (rb r) xs q = true → k2 r) → (m7 (ra r) (rb r) xs q = false → RL45_10b G70_1 m n0 pa t q (r + 1 : Nat) xs fs k1 k2 k3) → RL45_10b G70_1 (m + 1) n0 pa t q r xs fs k1 k2 k3 := by
  intro a b
  show HL45_10b G70_1 (fun i => RL45_10b G70_1 m n0 pa t q i xs fs k1 k2 k3) n0 pa t q r xs fs k1 k2 k3
  unfold HL45_10b
  have er := rbi_eq r r1
  by_cases h8 : r < 8
  · have ea : ra r = 72 := by simp [ra, h8]
    simp (disch := omega) only [wid, dt, df, cond_true, cond_false, Bool.and_self, Int.toNat_natCast, t_7, Nat.add_sub_cancel_left, Nat.sub_zero, beq_self_eq_true]
    rw [g70_1 _ _ _ _ _ _ (by omega)]
    rw [rbi_def, er, el_b, ← ea]
    cases hm : m7 (ra r) (rb r) xs q with
    | true => exact a hm
    | false => exact b hm
  · have ea : ra r = 76 := by simp [ra, h8]
    simp (disch := omega) only [wid, dt, df, cond_true, cond_false, Bool.and_self, Int.toNat_natCast, t_7, Nat.add_sub_cancel_left, Nat.sub_zero, beq_self_eq_true]
    rw [g70_1 _ _ _ _ _ _ (by omega)]
    rw [rbi_def, er, el_b, ← ea]
    cases hm : m7 (ra r) (rb r) xs q with
    | true => exact a hm
    | false => exact b hm
theorem gl_b {n0 q : Nat} {pa t : Int} {xs fs : List Int} {k1 : Prop} {k2 : Int → Prop} {k3 : Prop} (hn : n0 ≤ 2000000) (hx : n0 ≤ xs.length) (hq : q + 7 ≤ n0) (h0 : 0 ≤ pa) :
    (∀ r : Nat, r < 16 → m7 (ra r) (rb r) xs q = true → (∀ j, j < r → m7 (ra j) (rb j) xs q = false) → k2 r) → ((∀ j, j < 16 → m7 (ra j) (rb j) xs q = false) → k3) → GL45_10b XL45_10b n0 pa t q 0 xs fs k1 k2 k3 := by
  intro a b
  refine ⟨rfl, 17, ?_⟩
  have key : ∀ (d r : Nat), r + d = 16 → (∀ j, j < r → m7 (ra j) (rb j) xs q = false) → RL45_10b G70_1 (d + 1) n0 pa t q r xs fs k1 k2 k3 := by
    intro d
    induction d with
    | zero =>
      intro r he hj
      obtain rfl : r = 16 := by omega
      exact b hj
    | succ d ih =>
      intro r he hj
      exact rl_b hn hx hq h0 (by omega) (fun h => a r (by omega) h hj) (fun h => ih (r + 1) (by omega) (stepj hj h))
  exact key 16 0 (by omega) (fun j hj => by omega)
theorem gb_b {n0 : Nat} {pa t fro : Int} {xs fs : List Int} {k1 : Prop} {k2 : Int → Prop} {k3 : Prop} (hn : n0 ≤ 2000000) (h : ¬ (0 ≤ pa ∧ 0 ≤ fro ∧ fro + 7 ≤ n0)) :
    k1 → GL45_10b XL45_10b n0 pa t fro 0 xs fs k1 k2 k3 := by
  intro a
  refine ⟨rfl, 1, ?_⟩
  show HL45_10b G70_1 (fun i => RL45_10b G70_1 0 n0 pa t fro i xs fs k1 k2 k3) n0 pa t fro 0 xs fs k1 k2 k3
  unfold HL45_10b
  by_cases c0 : pa < 0
  · simp (disch := omega) only [wid, dt, df, cond_true, cond_false]; exact a
  · by_cases c1 : fro < 0
    · simp (disch := omega) only [wid, dt, df, cond_true, cond_false]; exact a
    · simp (disch := omega) only [wid, dt, df, cond_true, cond_false]; exact a
theorem g45_19 {n : Nat} {pa : Int} {xs : List Int} {k1 : Int → Bool → Prop} {k2 k3 : Int → Prop} {k4 k5 k6 k7 : Int → Int → Prop} (hn : n ≤ 2000000) (hx : n ≤ xs.length) (h1 : -9223372036854775808 ≤ pa) (h2 : pa ≤ 9223372036854775807) :
    (f16 n xs pa = true → k7 (pa - 4) 0) → (f16 n xs pa = false → k3 0) → G45 n pa 19 xs k1 k2 k3 k4 k5 k6 k7 := by
  intro a b
  show GL45_10d XL45_10d n pa 19 (IntKind.wrap .i64 (pa - 4)) 0 xs [100, 72, 139, 4, 37, 0, 0, 0, 0] (k3 0) (fun r => k7 (IntKind.wrap .i64 (pa - 4)) r) (k3 0)
  rcases wsub 4 (by omega) (by omega) h1 h2 with ⟨hw, hb⟩ | ⟨hw, hb, hc⟩
  · rw [hw]
    by_cases h : 0 ≤ pa ∧ 0 ≤ pa - 4 ∧ pa - 4 + 16 ≤ n
    · obtain ⟨q, hq⟩ := Int.eq_ofNat_of_zero_le h.2.1
      have e : f16 n xs pa = m16 xs q := by simp only [f16]; rw [hq, Int.toNat_natCast, dt (by omega), Bool.true_and]
      rw [hq]
      rw [e] at a b
      exact gl_d hn hx (by omega) h.1 (fun hm => by rw [← hq]; exact a hm) b
    · exact gb_d hn (by omega) (b (by simp only [f16]; rw [df (by omega), Bool.false_and]))
  · exact gb_d hn (by omega) (b (by simp only [f16]; rw [df (by omega), Bool.false_and]))
theorem g45_20 {n : Nat} {pa : Int} {xs : List Int} {k1 : Int → Bool → Prop} {k2 k3 : Int → Prop} {k4 k5 k6 k7 : Int → Int → Prop} (hn : n ≤ 2000000) (hx : n ≤ xs.length) (h1 : -9223372036854775808 ≤ pa) (h2 : pa ≤ 9223372036854775807) :
    (f12 n xs pa = true → k6 (pa - 3) 0) → (f12 n xs pa = false → k3 0) → G45 n pa 20 xs k1 k2 k3 k4 k5 k6 k7 := by
  intro a b
  show GL45_10c XL45_10c n pa 20 (IntKind.wrap .i64 (pa - 3)) 0 xs [100, 72, 139, 4, 37, 0, 0, 0, 0] (k3 0) (fun r => k6 (IntKind.wrap .i64 (pa - 3)) r) (k3 0)
  rcases wsub 3 (by omega) (by omega) h1 h2 with ⟨hw, hb⟩ | ⟨hw, hb, hc⟩
  · rw [hw]
    by_cases h : 0 ≤ pa ∧ 0 ≤ pa - 3 ∧ pa - 3 + 12 ≤ n
    · obtain ⟨q, hq⟩ := Int.eq_ofNat_of_zero_le h.2.1
      have e : f12 n xs pa = m12 xs q := by simp only [f12]; rw [hq, Int.toNat_natCast, dt (by omega), Bool.true_and]
      rw [hq]
      rw [e] at a b
      exact gl_c hn hx (by omega) h.1 (fun hm => by rw [← hq]; exact a hm) b
    · exact gb_c hn (by omega) (b (by simp only [f12]; rw [df (by omega), Bool.false_and]))
  · exact gb_c hn (by omega) (b (by simp only [f12]; rw [df (by omega), Bool.false_and]))
theorem g45_22 {n : Nat} {pa : Int} {xs : List Int} {k1 : Int → Bool → Prop} {k2 k3 : Int → Prop} {k4 k5 k6 k7 : Int → Int → Prop} (hn : n ≤ 2000000) (hx : n ≤ xs.length) (h1 : -9223372036854775808 ≤ pa) (h2 : pa ≤ 9223372036854775807) :
    (∀ r : Nat, r < 16 → fr r n xs pa = true → (∀ j, j < r → fr j n xs pa = false) → k5 (pa - 3) r) → ((∀ j, j < 16 → fr j n xs pa = false) → k3 0) → G45 n pa 22 xs k1 k2 k3 k4 k5 k6 k7 := by
  intro a b
  show GL45_10b XL45_10b n pa 22 (IntKind.wrap .i64 (pa - 3)) 0 xs [100, 72, 139, 4, 37, 0, 0, 0, 0] (k3 0) (fun r => k5 (IntKind.wrap .i64 (pa - 3)) r) (k3 0)
  rcases wsub 3 (by omega) (by omega) h1 h2 with ⟨hw, hb⟩ | ⟨hw, hb, hc⟩
  · rw [hw]
    by_cases h : 0 ≤ pa ∧ 0 ≤ pa - 3 ∧ pa - 3 + 7 ≤ n
    · obtain ⟨q, hq⟩ := Int.eq_ofNat_of_zero_le h.2.1
      have e : ∀ r, fr r n xs pa = m7 (ra r) (rb r) xs q := fun r => by
        simp only [fr, f7]; rw [hq, Int.toNat_natCast, dt (by omega), Bool.true_and]
      rw [hq]
      simp only [e] at a b
      refine gl_b hn hx (by omega) h.1 (fun r hr hm hj => by rw [← hq]; exact a r hr hm hj) b
    · exact gb_b hn (by omega) (b fun j _ => by simp only [fr, f7]; rw [df (by omega), Bool.false_and])
  · exact gb_b hn (by omega) (b fun j _ => by simp only [fr, f7]; rw [df (by omega), Bool.false_and])
theorem g45_23 {n : Nat} {pa : Int} {xs : List Int} {k1 : Int → Bool → Prop} {k2 k3 : Int → Prop} {k4 k5 k6 k7 : Int → Int → Prop} (hn : n ≤ 2000000) (hx : n ≤ xs.length) (h1 : -9223372036854775808 ≤ pa) (h2 : pa ≤ 9223372036854775807) :
    (0 ≤ pa ∧ pa + 4 ≤ n → k1 0 true) → (¬ (0 ≤ pa ∧ pa + 4 ≤ n) → 0 ≤ pa → k1 0 false) → (pa < 0 → k2 0) → G45 n pa 23 xs k1 k2 k3 k4 k5 k6 k7 := by
  intro a b c
  show (bif (decide (pa ≥ 0)) then (k1 0 (decide (pa ≤ (IntKind.wrap .i64 ((n : Int) - 4))))) else k2 0)
  by_cases c0 : pa ≥ 0
  · by_cases c1 : pa + 4 ≤ n
    · simp (disch := omega) only [wid, dt, df, cond_true, cond_false]; exact a ⟨c0, c1⟩
    · simp (disch := omega) only [wid, dt, df, cond_true, cond_false]; exact b (by omega) c0
  · simp (disch := omega) only [wid, dt, df, cond_true, cond_false]; exact c (by omega)
theorem g45_no {n : Nat} {pa t : Int} {xs : List Int} {k1 : Int → Bool → Prop} {k2 k3 : Int → Prop} {k4 k5 k6 k7 : Int → Int → Prop} (e1 : t ≠ 19) (e2 : t ≠ 20) (e3 : t ≠ 22) (e4 : t ≠ 23) : k3 0 → G45 n pa t xs k1 k2 k3 k4 k5 k6 k7 := by
  intro h
  unfold G45 F45
  have q0 : (t == (23 : Int)) = false := by simpa using e4
  have q1 : ((19 : Int) != t) = true := by simpa using Ne.symm e1
  have q2 : ((20 : Int) != t) = true := by simpa using Ne.symm e2
  have q3 : ((22 : Int) != t) = true := by simpa using Ne.symm e3
  have q4 : ((23 : Int) != t) = true := by simpa using Ne.symm e4
  rw [q0, q1, q2, q3, q4]
  exact h
end Go.Proofs.Ytnndiicpiolddaa.tls
