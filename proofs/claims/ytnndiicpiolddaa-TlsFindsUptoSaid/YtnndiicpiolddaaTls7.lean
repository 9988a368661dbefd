import Derived.Test.YtnndiicpiolddaaTls6
set_option linter.unusedVariables false
set_option linter.unusedSimpArgs false
namespace Go.Proofs.Ytnndiicpiolddaa.tls
open Go Go.Ab
theorem g14 {k : Prop} (h : k) : G14 k := h
theorem g13 {a : Int} {k : Prop} (h : k) : G13 a k := h
theorem g16 {xs : List Int} {k1 : Nat → List Int → Prop} (hx : xs.length ≤ 2000000) : k1 xs.length (xs ++ [201, 202]) → G16 xs k1 := by
  intro a
  unfold G16 F16
  simp (disch := omega) only [dt, cond_true, Bool.and_self, List.length_append, List.length_cons, List.length_nil, Int.toNat_natCast, Nat.sub_zero]
  exact a
theorem getD_app {xs ys : List Int} {i : Nat} (h : i < xs.length) : (xs ++ ys).getD i 0 = xs.getD i 0 := by
  rw [List.getD_eq_getElem?_getD, List.getElem?_append_left h, List.getD_eq_getElem?_getD]
theorem g20 {xs : List Int} {k1 : Bool → Prop} {k2 : Prop} (hx : xs.length ≤ 2000000) : k1 true → G20 xs.length (xs ++ [201, 202]) xs k1 k2 := by
  intro a
  unfold G20 F20
  have e1 : (xs ++ [201, 202]).getD xs.length 0 = 201 := by rw [List.getD_eq_getElem?_getD, List.getElem?_append_right (Nat.le_refl _)]; simp
  have e2 : (xs ++ [201, 202]).getD (xs.length + 1) 0 = 202 := by rw [List.getD_eq_getElem?_getD, List.getElem?_append_right (by omega)]; simp
  simp (disch := omega) only [wid, dt, cond_true, Bool.and_self, List.length_append, List.length_cons, List.length_nil, Int.toNat_natCast, Nat.sub_zero, t_1, t_2, e1, e2, beq_self_eq_true, List.take_left']
  exact a
theorem gl59 {n : Nat} {bs xs : List Int} {k : Prop} (h : k) : GL5_9 XL5_9 n bs xs k := ⟨rfl, 1, h⟩
theorem gl59b {n : Nat} {bs xs : List Int} {k : Prop} (h : k) : ∀ {ys : List Int}, ys.length ≤ 2000000 → GL5_9b XL5_9b n 0 bs xs ys k := by
  intro ys hy
  refine ⟨rfl, ys.length + 1, ?_⟩
  have key : ∀ (d i : Nat) (ys : List Int), i + d = ys.length → ys.length ≤ 2000000 → RL5_9b (d + 1) n (i : Nat) bs xs ys k := by
    intro d
    induction d with
    | zero =>
      intro i ys hi hy
      show HL5_9b (fun i ys => RL5_9b 0 n i bs xs ys k) n i bs xs ys k
      unfold HL5_9b
      simp (disch := omega) only [df, cond_false]
      exact h
    | succ d ih =>
      intro i ys hi hy
      show HL5_9b (fun i ys => RL5_9b (d + 1) n i bs xs ys k) n i bs xs ys k
      unfold HL5_9b
      simp (disch := omega) only [dt, wid, cond_true, Bool.and_self]
      exact ih (i + 1) (ys.set _ _) (by simp; omega) (by simp; omega)
  exact key ys.length 0 ys (by omega) hy
theorem fin_a {xs : List Int} {k1 k2 : Prop} (hx : xs.length ≤ 2000000) (h : k2) :
    G20 xs.length (xs ++ [201, 202]) xs (fun b => bif !b then k1 else GL5_9 XL5_9 xs.length xs (xs ++ [201, 202]) (G20 xs.length (xs ++ [201, 202]) xs (fun b => bif b then G14 k2 else k1) k1)) k1 :=
  g20 hx (gl59 (g20 hx (g14 h)))
theorem fin_b {xs ys : List Int} {k1 k2 : Prop} (hx : xs.length ≤ 2000000) (hy : ys.length ≤ 2000000) (h : k2) :
    G20 xs.length (xs ++ [201, 202]) xs (fun b => bif !b then k1 else GL5_9b XL5_9b xs.length 0 xs (xs ++ [201, 202]) ys (G20 xs.length (xs ++ [201, 202]) xs (fun b => bif b then G14 k2 else k1) k1)) k1 :=
  g20 hx (gl59b (g20 hx (g14 h)) hy)
theorem f16_ext {xs ys : List Int} {pa : Int} : f16 xs.length (xs ++ ys) pa = f16 xs.length xs pa := by
  simp only [f16, f12, fr, f7]
  by_cases h : 4 ≤ pa ∧ pa + 12 ≤ (xs.length : Int)
  · have e : ∀ k, k < 12 → (xs ++ ys).getD ((pa - 4).toNat + k) 0 = xs.getD ((pa - 4).toNat + k) 0 := fun k hk => getD_app (by omega)
    have e0 := e 0 (by omega)
    rw [Nat.add_zero] at e0
    simp (disch := omega) only [m16, e, e0]
  · rw [df h, Bool.false_and, Bool.false_and]
theorem f12_ext {xs ys : List Int} {pa : Int} : f12 xs.length (xs ++ ys) pa = f12 xs.length xs pa := by
  simp only [f16, f12, fr, f7]
  by_cases h : 3 ≤ pa ∧ pa + 9 ≤ (xs.length : Int)
  · have e : ∀ k, k < 8 → (xs ++ ys).getD ((pa - 3).toNat + k) 0 = xs.getD ((pa - 3).toNat + k) 0 := fun k hk => getD_app (by omega)
    have e0 := e 0 (by omega)
    rw [Nat.add_zero] at e0
    simp (disch := omega) only [m12, e, e0]
  · rw [df h, Bool.false_and, Bool.false_and]
theorem fr_ext {xs ys : List Int} {pa : Int} {r : Nat} : fr r xs.length (xs ++ ys) pa = fr r xs.length xs pa := by
  simp only [f16, f12, fr, f7]
  by_cases h : 3 ≤ pa ∧ pa + 4 ≤ (xs.length : Int)
  · have e : ∀ k, k < 4 → (xs ++ ys).getD ((pa - 3).toNat + k) 0 = xs.getD ((pa - 3).toNat + k) 0 := fun k hk => getD_app (by omega)
    have e0 := e 0 (by omega)
    rw [Nat.add_zero] at e0
    simp (disch := omega) only [m7, e, e0]
  · rw [df h, Bool.false_and, Bool.false_and]
theorem rel_ext {xs ys w : List Int} {q s : Nat} (h : q + s ≤ xs.length) : rel xs.length (xs ++ ys) q s w = rel xs.length xs q s w := by
  unfold rel
  rw [List.take_append_of_le_length (by omega), List.drop_append_of_le_length (by omega), List.take_append_of_le_length (by simp)]
theorem rel_length {xs w : List Int} {q s : Nat} (h : q + s ≤ xs.length) (hw : w.length ≤ 20) : (rel xs.length xs q s w).length ≤ xs.length + 20 := by
  unfold rel
  simp
  omega
theorem g17_19 {n : Nat} {pa : Int} {xs : List Int} {k1 k2 : Prop} {k3 k4 k5 k6 : Int → Prop} (hn : n ≤ 2000000) (hx : n ≤ xs.length) (h1 : -9223372036854775808 ≤ pa) (h2 : pa ≤ 9223372036854775807) :
    (f16 n xs pa = true → k6 (pa - 4)) → (f16 n xs pa = false → k1) → G17 n pa 19 xs k1 k2 k3 k4 k5 k6 := by
  intro a b
  unfold G17 F17
  refine g45_19 hn hx h1 h2 (fun h => ?_) b
  simp only [beq_self_eq_true, Bool.and_self, cond_true]
  exact a h
theorem g17_20 {n : Nat} {pa : Int} {xs : List Int} {k1 k2 : Prop} {k3 k4 k5 k6 : Int → Prop} (hn : n ≤ 2000000) (hx : n ≤ xs.length) (h1 : -9223372036854775808 ≤ pa) (h2 : pa ≤ 9223372036854775807) :
    (f12 n xs pa = true → k5 (pa - 3)) → (f12 n xs pa = false → k1) → G17 n pa 20 xs k1 k2 k3 k4 k5 k6 := by
  intro a b
  unfold G17 F17
  refine g45_20 hn hx h1 h2 (fun h => ?_) b
  simp only [beq_self_eq_true, Bool.and_self, cond_true]
  exact a h
theorem g17_22 {n : Nat} {pa : Int} {xs : List Int} {k1 k2 : Prop} {k3 k4 k5 k6 : Int → Prop} (hn : n ≤ 2000000) (hx : n ≤ xs.length) (h1 : -9223372036854775808 ≤ pa) (h2 : pa ≤ 9223372036854775807) :
    (∀ r : Nat, r < 16 → fr r n xs pa = true → (∀ j, j < r → fr j n xs pa = false) → k4 (pa - 3)) → ((∀ j, j < 16 → fr j n xs pa = false) → k1) → G17 n pa 22 xs k1 k2 k3 k4 k5 k6 := by
  intro a b
  unfold G17 F17
  refine g45_22 hn hx h1 h2 (fun r hr h hj => ?_) b
  simp only [beq_self_eq_true, Bool.and_self, cond_true]
  exact a r hr h hj
theorem g17_23 {n : Nat} {pa : Int} {xs : List Int} {k1 k2 : Prop} {k3 k4 k5 k6 : Int → Prop} (hn : n ≤ 2000000) (hx : n ≤ xs.length) (h1 : -9223372036854775808 ≤ pa) (h2 : pa ≤ 9223372036854775807) :
    (0 ≤ pa ∧ pa + 4 ≤ n → k2) → (¬ (0 ≤ pa ∧ pa + 4 ≤ n) → k1) → G17 n pa 23 xs k1 k2 k3 k4 k5 k6 := by
  intro a b
  unfold G17 F17
  refine g45_23 hn hx h1 h2 (fun h => ?_) (fun h _ => ?_) (fun h => b (by omega))
  · simp only [beq_self_eq_true, Bool.and_self, cond_true, cond_false, Bool.not_true]; exact a h
  · exact b h
theorem g17_no {n : Nat} {pa t : Int} {xs : List Int} {k1 k2 : Prop} {k3 k4 k5 k6 : Int → Prop} (e1 : t ≠ 19) (e2 : t ≠ 20) (e3 : t ≠ 22) (e4 : t ≠ 23) : k1 → G17 n pa t xs k1 k2 k3 k4 k5 k6 := by
  intro h
  unfold G17 F17
  exact g45_no e1 e2 e3 e4 h
theorem min16 {P : Nat → Bool} {r s : Nat} (h1 : P r = true) (h2 : ∀ j, j < r → P j = false) (h3 : P s = true) (h4 : ∀ j, j < s → P j = false) : r = s := by
  rcases Nat.lt_trichotomy r s with h | h | h
  · rw [h4 r h] at h1; cases h1
  · exact h
  · rw [h2 s h] at h3; cases h3
theorem bnn (a : Int) : (a != a) = false := by simp
theorem bee (xs : List Int) : (!(xs == xs)) = false := by simp
theorem g5_19 {pa off : Int} {xs : List Int} {k1 k2 : Prop} (hx : xs.length ≤ 1048576) (h1 : -9223372036854775808 ≤ pa) (h2 : pa ≤ 9223372036854775807) (h : k2) : G5 pa 19 off xs k1 k2 := by
  have hx2 : xs.length ≤ 2000000 := by omega
  have hy : xs.length ≤ (xs ++ [201, 202]).length := by simp
  unfold G5 F5
  refine g16 hx2 ?_
  have ext : f16 xs.length (xs ++ [201, 202]) pa = f16 xs.length xs pa := f16_ext
  cases hf : f16 xs.length xs pa with
  | false =>
    refine g17_19 hx2 hy h1 h2 (fun h => by rw [ext, hf] at h; cases h) (fun _ => ?_)
    refine g18_19 hx2 h1 h2 (fun h => by rw [hf] at h; cases h) (fun _ => ?_)
    refine g15_19 hx hy h1 h2 (fun _ => ?_) (fun h => by rw [ext, hf] at h; cases h) (fun _ _ h => by rw [ext, hf] at h; cases h)
    refine g19_19 hx h1 h2 (fun _ => ?_) (fun h => by rw [hf] at h; cases h) (fun _ _ h => by rw [hf] at h; cases h)
    exact g13 (g13 (fin_a hx2 h))
  | true =>
    refine g17_19 hx2 hy h1 h2 (fun _ => ?_) (fun h => by rw [ext, hf] at h; cases h)
    refine g18_19 hx2 h1 h2 (fun _ => ?_) (fun h => by rw [hf] at h; cases h)
    refine g15_19 hx hy h1 h2 (fun h => by rw [ext, hf] at h; cases h) (fun _ hi => ?_) (fun q hq _ hi => ?_)
    · refine g19_19 hx h1 h2 (fun h => by rw [hf] at h; cases h) (fun _ _ => ?_) (fun _ _ _ hi' => absurd hi' hi)
      simp only [bnn, cond_false]
      exact g13 (g13 (fin_a hx2 h))
    · refine g19_19 hx h1 h2 (fun h => by rw [hf] at h; cases h) (fun _ hi' => absurd hi hi') (fun q' hq' _ _ => ?_)
      have hb : q + 16 ≤ xs.length := by simp only [f16, f12, Bool.and_eq_true, decide_eq_true_eq] at hf; omega
      obtain rfl : q' = q := by omega
      rw [rel_ext hb]
      simp only [bnn, bee, cond_false]
      exact g13 (g13 (fin_b hx2 (Nat.le_trans (rel_length hb (by simp [w19, w20, le4])) (by omega)) h))
theorem g5_20 {pa off : Int} {xs : List Int} {k1 k2 : Prop} (hx : xs.length ≤ 1048576) (h1 : -9223372036854775808 ≤ pa) (h2 : pa ≤ 9223372036854775807) (h : k2) : G5 pa 20 off xs k1 k2 := by
  have hx2 : xs.length ≤ 2000000 := by omega
  have hy : xs.length ≤ (xs ++ [201, 202]).length := by simp
  unfold G5 F5
  refine g16 hx2 ?_
  have ext : f12 xs.length (xs ++ [201, 202]) pa = f12 xs.length xs pa := f12_ext
  cases hf : f12 xs.length xs pa with
  | false =>
    refine g17_20 hx2 hy h1 h2 (fun h => by rw [ext, hf] at h; cases h) (fun _ => ?_)
    refine g18_20 hx2 h1 h2 (fun h => by rw [hf] at h; cases h) (fun _ => ?_)
    refine g15_20 hx hy h1 h2 (fun _ => ?_) (fun h => by rw [ext, hf] at h; cases h) (fun _ _ h => by rw [ext, hf] at h; cases h)
    refine g19_20 hx h1 h2 (fun _ => ?_) (fun h => by rw [hf] at h; cases h) (fun _ _ h => by rw [hf] at h; cases h)
    exact g13 (g13 (fin_a hx2 h))
  | true =>
    refine g17_20 hx2 hy h1 h2 (fun _ => ?_) (fun h => by rw [ext, hf] at h; cases h)
    refine g18_20 hx2 h1 h2 (fun _ => ?_) (fun h => by rw [hf] at h; cases h)
    refine g15_20 hx hy h1 h2 (fun h => by rw [ext, hf] at h; cases h) (fun _ hi => ?_) (fun q hq _ hi => ?_)
    · refine g19_20 hx h1 h2 (fun h => by rw [hf] at h; cases h) (fun _ _ => ?_) (fun _ _ _ hi' => absurd hi' hi)
      simp only [bnn, cond_false]
      exact g13 (g13 (fin_a hx2 h))
    · refine g19_20 hx h1 h2 (fun h => by rw [hf] at h; cases h) (fun _ hi' => absurd hi hi') (fun q' hq' _ _ => ?_)
      have hb : q + 12 ≤ xs.length := by simp only [f16, f12, Bool.and_eq_true, decide_eq_true_eq] at hf; omega
      obtain rfl : q' = q := by omega
      rw [rel_ext hb]
      simp only [bnn, bee, cond_false]
      exact g13 (g13 (fin_b hx2 (Nat.le_trans (rel_length hb (by simp [w19, w20, le4])) (by omega)) h))
theorem g5_23 {pa off : Int} {xs : List Int} {k1 k2 : Prop} (hx : xs.length ≤ 1048576) (h1 : -9223372036854775808 ≤ pa) (h2 : pa ≤ 9223372036854775807) (h : k2) : G5 pa 23 off xs k1 k2 := by
  have hx2 : xs.length ≤ 2000000 := by omega
  have hy : xs.length ≤ (xs ++ [201, 202]).length := by simp
  unfold G5 F5
  refine g16 hx2 ?_
  by_cases hf : 0 ≤ pa ∧ pa + 4 ≤ (xs.length : Int)
  · refine g17_23 hx2 hy h1 h2 (fun _ => ?_) (fun h => absurd hf h)
    refine g18_23 hx2 h1 h2 (fun _ => ?_) (fun h => absurd hf h)
    refine g15_23 hx hy h1 h2 (fun h => absurd hf h) (fun _ hi => ?_) (fun q hq _ hi => ?_)
    · refine g19_23 hx h1 h2 (fun h => absurd hf h) (fun _ _ => ?_) (fun _ _ _ hi' => absurd hi' hi)
      simp only [bnn, cond_false]
      exact g13 (g13 (fin_a hx2 h))
    · refine g19_23 hx h1 h2 (fun h => absurd hf h) (fun _ hi' => absurd hi hi') (fun q' hq' _ _ => ?_)
      have hb : q + 4 ≤ xs.length := by omega
      obtain rfl : q' = q := by omega
      rw [rel_ext hb]
      simp only [bnn, bee, cond_false]
      exact g13 (g13 (fin_b hx2 (Nat.le_trans (rel_length hb (by simp [le4])) (by omega)) h))
  · refine g17_23 hx2 hy h1 h2 (fun h => absurd h hf) (fun _ => ?_)
    refine g18_23 hx2 h1 h2 (fun h => absurd h hf) (fun _ => ?_)
    refine g15_23 hx hy h1 h2 (fun _ => ?_) (fun h => absurd h hf) (fun q e1 e2 _ => absurd ⟨by omega, e2⟩ hf)
    refine g19_23 hx h1 h2 (fun _ => ?_) (fun h => absurd h hf) (fun q e1 e2 _ => absurd ⟨by omega, e2⟩ hf)
    exact g13 (g13 (fin_a hx2 h))
theorem g5_22 {pa off : Int} {xs : List Int} {k1 k2 : Prop} (hx : xs.length ≤ 1048576) (h1 : -9223372036854775808 ≤ pa) (h2 : pa ≤ 9223372036854775807) (h : k2) : G5 pa 22 off xs k1 k2 := by
  have hx2 : xs.length ≤ 2000000 := by omega
  have hy : xs.length ≤ (xs ++ [201, 202]).length := by simp
  unfold G5 F5
  refine g16 hx2 ?_
  have ext : ∀ r, fr r xs.length (xs ++ [201, 202]) pa = fr r xs.length xs pa := fun r => fr_ext
  by_cases hf : ∀ j, j < 16 → fr j xs.length xs pa = false
  · refine g17_22 hx2 hy h1 h2 (fun r hr h => by rw [ext, hf r hr] at h; cases h) (fun _ => ?_)
    refine g18_22 hx2 h1 h2 (fun r hr h => by rw [hf r hr] at h; cases h) (fun _ => ?_)
    refine g15_22 hx hy h1 h2 (fun _ => ?_) (fun r hr h => by rw [ext, hf r hr] at h; cases h) (fun _ r _ hr h => by rw [ext, hf r hr] at h; cases h)
    refine g19_22 hx h1 h2 (fun _ => ?_) (fun r hr h => by rw [hf r hr] at h; cases h) (fun _ r _ hr h => by rw [hf r hr] at h; cases h)
    exact g13 (g13 (fin_a hx2 h))
  · refine g17_22 hx2 hy h1 h2 (fun r hr hr1 hr2 => ?_) (fun h => absurd (fun j hj => by rw [← ext]; exact h j hj) hf)
    refine g18_22 hx2 h1 h2 (fun r' hr' hs1 hs2 => ?_) (fun h => absurd h hf)
    refine g15_22 hx hy h1 h2 (fun h => absurd (fun j hj => by rw [← ext]; exact h j hj) hf) (fun _ _ _ hi => ?_) (fun q s hq hs hs3 hs4 hi => ?_)
    · refine g19_22 hx h1 h2 (fun h => absurd h hf) (fun _ _ _ _ => ?_) (fun _ _ _ _ _ _ hi' => absurd hi' hi)
      simp only [bnn, cond_false]
      exact g13 (g13 (fin_a hx2 h))
    · refine g19_22 hx h1 h2 (fun h => absurd h hf) (fun _ _ _ hi' => absurd hi hi') (fun q' s' hq' hs' hs5 hs6 _ => ?_)
      obtain rfl : s' = s := min16 (P := fun r => fr r xs.length xs pa) hs5 hs6 (by rw [← ext]; exact hs3) (fun j hj => by rw [← ext]; exact hs4 j hj)
      have hb : q + 7 ≤ xs.length := by simp only [fr, f7, Bool.and_eq_true, decide_eq_true_eq] at hs5; omega
      obtain rfl : q' = q := by omega
      rw [rel_ext hb]
      simp only [bnn, bee, cond_false]
      exact g13 (g13 (fin_b hx2 (Nat.le_trans (rel_length hb (by simp [w22, le4])) (by omega)) h))
theorem g5_no {pa t off : Int} {xs : List Int} {k1 k2 : Prop} (hx : xs.length ≤ 1048576) (e1 : t ≠ 19) (e2 : t ≠ 20) (e3 : t ≠ 22) (e4 : t ≠ 23) (h : k2) : G5 pa t off xs k1 k2 := by
  have hx2 : xs.length ≤ 2000000 := by omega
  unfold G5 F5
  refine g16 hx2 (g17_no e1 e2 e3 e4 (g18_no e1 e2 e3 e4 (g15_no hx e1 e2 e3 e4 (g19_no hx e1 e2 e3 e4 ?_))))
  exact g13 (g13 (fin_a hx2 h))
theorem g5 {pa t off : Int} {xs : List Int} {k1 k2 : Prop} (hx : xs.length ≤ 1048576) (h1 : -9223372036854775808 ≤ pa) (h2 : pa ≤ 9223372036854775807) (h : k2) : G5 pa t off xs k1 k2 := by
  by_cases e1 : t = 19
  · subst e1; exact g5_19 hx h1 h2 h
  by_cases e2 : t = 20
  · subst e2; exact g5_20 hx h1 h2 h
  by_cases e3 : t = 22
  · subst e3; exact g5_22 hx h1 h2 h
  by_cases e4 : t = 23
  · subst e4; exact g5_23 hx h1 h2 h
  exact g5_no hx e1 e2 e3 e4 h
end Go.Proofs.Ytnndiicpiolddaa.tls
