import Derived.Test.YtnndiicpiolddaaBlk2
set_option linter.unusedVariables false
set_option linter.unusedSimpArgs false
namespace Go.Proofs.Ytnndiicpiolddaa.blk
open Go Go.Ab
theorem pow_le {k : Nat} (hk : k < 13) : 1 ≤ 2 ^ k ∧ 2 ^ k ≤ 4096 :=
  ⟨Nat.two_pow_pos k, Nat.le_trans (Nat.pow_le_pow_right (by omega) (show k ≤ 12 by omega)) (by decide)⟩
theorem g51 {s k : Nat} (hk : k < 13) (hs : s ≤ 1048576) {k1 k2 k3 : Prop} {k4 : Int → Prop} : k4 ((up s k : Nat) : Int) → G51 (s : Int) ((2 ^ k : Nat) : Int) k1 k2 k3 k4 := by
  intro h
  obtain ⟨p1, p2⟩ := pow_le hk
  have ha := andNot_pow (s + (2 ^ k - 1)) k (by omega) (by omega)
  unfold up at h
  rw [← ha] at h
  unfold G51 F51
  show cond _ _ (cond _ _ (cond (pc ((2 ^ k : Nat) : Int)) _ _))
  rw [pc_pow k hk]
  generalize 2 ^ k = A at *
  simp (disch := omega) only [wid, dt, df, cond_true, cond_false]
  have e1 : ((s + (A - 1) : Nat) : Int) = (s : Int) + (A : Int) - 1 := by omega
  have e2 : ((A - 1 : Nat) : Int) = (A : Int) - 1 := by omega
  rw [e1, e2] at h
  exact h
theorem g52 {al : Int} {k1 : Bool → Prop} {k2 : Prop} (h1 : 1 ≤ al) (h2 : al ≤ 1073741824) : k1 (pw al) → G52 al k1 k2 := by
  intro h
  unfold G52 F52
  simp (disch := omega) only [dt, cond_true]
  exact h
theorem g52_no {al : Int} {k1 : Bool → Prop} {k2 : Prop} (h : ¬ (1 ≤ al ∧ al ≤ 1073741824)) : k2 → G52 al k1 k2 := by
  intro hk
  unfold G52 F52
  by_cases h1 : al ≥ 1
  · simp (disch := omega) only [dt, df, cond_true, cond_false]; exact hk
  · simp (disch := omega) only [dt, df, cond_true, cond_false]; exact hk
theorem tmod_nat (a b : Nat) : Int.tmod (a : Int) (b : Int) = ((a % b : Nat) : Int) := by
  rw [Int.tmod_eq_emod_of_nonneg (by omega)]; rfl
theorem g53 {s k : Nat} (hk : k < 13) (hs : s ≤ 1048576) {k1 k2 k3 : Prop} {k4 : Int → Prop} : (up s k = s → k3) → (k4 ((up s k : Nat) : Int)) → G53 (s : Int) ((2 ^ k : Nat) : Int) k1 k2 k3 k4 := by
  intro h3 h4
  obtain ⟨p1, p2⟩ := pow_le hk
  unfold G53 F53
  refine g52 (by omega) (by omega) ?_
  rw [pw_pow k hk]
  rw [up_mod] at h3 h4
  generalize 2 ^ k = A at *
  have e0 : ((A : Int) == 0) = false := by simp; omega
  have hr := Nat.mod_lt s (show A > 0 by omega)
  have hr2 := Nat.mod_le s A
  simp (disch := omega) only [Bool.not_true, Bool.not_false, cond_true, cond_false, df, e0, tmod_nat]
  by_cases h0 : s % A = 0
  · rw [if_pos h0] at h3
    have e1 : (((s % A : Nat) : Int) == 0) = true := by simp; omega
    rw [e1]
    exact h3 rfl
  · rw [if_neg h0] at h4
    have e1 : (((s % A : Nat) : Int) == 0) = false := by simp; omega
    rw [e1]
    generalize s % A = r at *
    simp (disch := omega) only [cond_false, wid, df]
    have e2 : ((s - r + A : Nat) : Int) = (s : Int) - (r : Int) + (A : Int) := by omega
    rw [e2] at h4
    exact h4
theorem gl22 {fs : Int} {xs ys : List Int} {k1 : List Int → Prop} (hl : xs.length ≤ ys.length) (hm : ys.length ≤ 9000000) : k1 (xs ++ ys.drop xs.length) → GL22_6 XL22_6 fs 0 xs ys k1 := by
  intro h
  refine ⟨rfl, xs.length + 1, ?_⟩
  have key : ∀ (d i : Nat) (ys : List Int), i + d = xs.length → xs.length ≤ ys.length → ys.length ≤ 9000000 → k1 (ys.take i ++ xs.drop i ++ ys.drop xs.length) → RL22_6 (d + 1) fs (i : Nat) xs ys k1 := by
    intro d
    induction d with
    | zero =>
      intro i ys hi hy hm hk
      show HL22_6 (fun i ys => RL22_6 0 fs i xs ys k1) fs i xs ys k1
      unfold HL22_6
      simp (disch := omega) only [df, cond_false]
      have e1 : i = xs.length := by omega
      subst e1
      rw [List.drop_length, List.append_nil, List.take_append_drop] at hk
      exact hk
    | succ d ih =>
      intro i ys hi hy hm hk
      show HL22_6 (fun i ys => RL22_6 (d + 1) fs i xs ys k1) fs i xs ys k1
      unfold HL22_6
      simp (disch := omega) only [dt, wid, cond_true, Bool.and_self, Int.toNat_natCast]
      refine ih (i + 1) (ys.set i _) (by omega) (by simpa using hy) (by simpa using hm) ?_
      have e1 : (ys.set i (xs.getD i 0)).take (i + 1) = ys.take i ++ [xs.getD i 0] := by
        apply List.ext_getElem?
        intro j
        have hli : (List.take i ys).length = i := by simp; omega
        by_cases h1 : j < i
        · rw [List.getElem?_append_left (by omega)]
          simp [List.getElem?_take, show j < i + 1 from by omega, h1, List.getElem?_set, show i ≠ j from by omega]
        · rw [List.getElem?_append_right (by omega), hli]
          by_cases h2 : j = i
          · subst h2; simp [List.getElem?_take, show j < ys.length from by omega]
          · simp [List.getElem?_take, show ¬ j < i + 1 from by omega]
            omega
      have e2 : xs.drop i = xs.getD i 0 :: xs.drop (i + 1) := by
        rw [List.getD_eq_getElem?_getD, List.getElem?_eq_getElem (by omega)]
        exact List.drop_eq_getElem_cons (by omega)
      have e3 : (ys.set i (xs.getD i 0)).drop xs.length = ys.drop xs.length := List.drop_set_of_lt (by omega)
      rw [e1, e3]
      rw [e2] at hk
      simpa using hk
  exact key xs.length 0 ys (by omega) hl hm (by simpa using h)
/-- What a block is. -/
def blk (xs : List Int) (f : Nat) : List Int := xs ++ List.replicate (f - xs.length + 8) 0
theorem g21_err {n : Nat} {sz al : Int} {xs : List Int} {k1 : Prop} {k2 k3 : List Int → Prop} {k4 : Int → List Int → Prop} (h : ¬ (1 ≤ al ∧ al ≤ 4096 ∧ pw al = true ∧ (n : Int) ≤ sz ∧ sz ≤ 1048576)) : k1 → G21 n sz al xs k1 k2 k3 k4 := by
  intro hk
  unfold G21 F21
  by_cases h1 : al < 1
  · simp (disch := omega) only [dt, cond_true]; exact hk
  by_cases h2 : al > 4096
  · simp (disch := omega) only [dt, df, cond_true, cond_false]; exact hk
  cases hp : pw al with
  | false =>
    have e : (ibits .and .i64 al (IntKind.wrap .i64 (al - 1)) != 0) = true := by
      show (!(pw al)) = true
      rw [hp]; rfl
    simp (disch := omega) only [df, cond_false, e, cond_true]; exact hk
  | true =>
    have e : (ibits .and .i64 al (IntKind.wrap .i64 (al - 1)) != 0) = false := by
      show (!(pw al)) = false
      rw [hp]; rfl
    by_cases h3 : sz < (n : Int)
    · simp (disch := omega) only [df, cond_false, e, dt, cond_true]; exact hk
    · by_cases h4 : sz > 1048576
      · simp (disch := omega) only [df, cond_false, e, dt, cond_true]; exact hk
      · exact absurd ⟨by omega, by omega, hp, by omega, by omega⟩ h
theorem g21 {s k : Nat} (hk : k < 13) {xs : List Int} (hs : s ≤ 1048576) (hn : xs.length ≤ s) {k1 : Prop} {k2 k3 : List Int → Prop} {k4 : Int → List Int → Prop} :
    k4 ((up s k : Nat) : Int) (blk xs (up s k)) → G21 xs.length (s : Int) ((2 ^ k : Nat) : Int) (xs ++ [201, 202]) k1 k2 k3 k4 := by
  intro h
  obtain ⟨p1, p2⟩ := pow_le hk
  have u1 := up_ge s k
  have u2 := up_le s k
  unfold G21 F21
  have e : (ibits .and .i64 ((2 ^ k : Nat) : Int) (IntKind.wrap .i64 (((2 ^ k : Nat) : Int) - 1)) != 0) = false := by
    show (!(pw ((2 ^ k : Nat) : Int))) = false
    rw [pw_pow k hk]; rfl
  rw [e]
  have et : List.take xs.length (xs ++ [201, 202]) = xs := by simp
  have hg : ∀ {q1 q2 q3 : Prop} {q4 : Int → Prop}, q4 ((up s k : Nat) : Int) → G51 (s : Int) ((2 ^ k : Nat) : Int) q1 q2 q3 q4 := fun h => g51 hk hs h
  generalize up s k = f at *
  generalize 2 ^ k = A at *
  simp (disch := omega) only [df, cond_false]
  refine hg ?_
  have e3 : Int.toNat ((f : Int) - (xs.length : Int) + 8) = f - xs.length + 8 := by omega
  simp (disch := omega) only [wid, e3, et, dt, cond_true, Bool.and_self, Nat.sub_zero]
  exact h
theorem g22_err {sz al : Int} {xs : List Int} {k1 : Prop} {k2 k3 : List Int → Prop} {k4 : Int → List Int → Prop} (h : ¬ (1 ≤ al ∧ al ≤ 4096 ∧ pw al = true ∧ (xs.length : Int) ≤ sz ∧ sz ≤ 1048576)) : k1 → G22 sz al xs k1 k2 k3 k4 := by
  intro hk
  unfold G22 F22
  by_cases h0 : 1 ≤ al ∧ al ≤ 1073741824
  · refine g52 h0.1 h0.2 ?_
    cases hp : pw al with
    | false => exact hk
    | true =>
      by_cases h2 : al > 4096
      · simp (disch := omega) only [Bool.not_true, cond_false, dt, cond_true]; exact hk
      · by_cases h3 : sz < ((xs.length - 0 : Nat) : Int)
        · simp (disch := omega) only [Bool.not_true, df, cond_false, dt, cond_true]; exact hk
        · by_cases h4 : sz > 1048576
          · simp (disch := omega) only [Bool.not_true, df, cond_false, dt, cond_true]; exact hk
          · exact absurd ⟨h0.1, by omega, hp, by omega, by omega⟩ h
  · exact g52_no h0 hk
theorem blk_drop {xs : List Int} {f : Nat} (h : xs.length ≤ f) : xs ++ (List.replicate (f + 8) (0 : Int)).drop xs.length = blk xs f := by
  unfold blk
  rw [List.drop_replicate]
  congr 2
  omega
theorem g22 {s k : Nat} (hk : k < 13) {xs : List Int} (hs : s ≤ 1048576) (hn : xs.length ≤ s) {k1 : Prop} {k2 k3 : List Int → Prop} {k4 : Int → List Int → Prop} :
    (up s k = s → k3 (blk xs s)) → k4 ((up s k : Nat) : Int) (blk xs (up s k)) → G22 (s : Int) ((2 ^ k : Nat) : Int) xs k1 k2 k3 k4 := by
  intro h3 h4
  obtain ⟨p1, p2⟩ := pow_le hk
  have u1 := up_ge s k
  have u2 := up_le s k
  unfold G22 F22
  refine g52 (by omega) (by omega) ?_
  rw [pw_pow k hk]
  have hg : ∀ {q1 q2 q3 : Prop} {q4 : Int → Prop}, (up s k = s → q3) → q4 ((up s k : Nat) : Int) → G53 (s : Int) ((2 ^ k : Nat) : Int) q1 q2 q3 q4 := fun a b => g53 hk hs a b
  generalize up s k = f at *
  generalize 2 ^ k = A at *
  simp (disch := omega) only [Bool.not_true, df, cond_false]
  refine hg (fun hf => ?_) ?_
  · simp (disch := omega) only [wid, dt, cond_true, Bool.and_self, t_8]
    refine gl22 (by simp; omega) (by simp; omega) ?_
    rw [blk_drop hn]
    exact h3 hf
  · simp (disch := omega) only [wid, dt, cond_true, Bool.and_self, t_8]
    refine gl22 (by simp; omega) (by simp; omega) ?_
    rw [blk_drop (by omega)]
    exact h4
theorem g6 {sz al : Int} {xs : List Int} {k1 k2 : Prop} (hx : xs.length ≤ 1048576) (h : k1) : G6 sz al xs k1 k2 := by
  have hx2 : xs.length ≤ 2000000 := by omega
  unfold G6 F6
  refine g16 hx2 ?_
  by_cases hc : 1 ≤ al ∧ al ≤ 4096 ∧ pw al = true ∧ (xs.length : Int) ≤ sz ∧ sz ≤ 1048576
  · obtain ⟨c1, c2, c3, c4, c5⟩ := hc
    obtain ⟨k, hk, rfl⟩ := pw_cases c1 c2 c3
    obtain ⟨s, rfl⟩ := Int.eq_ofNat_of_zero_le (show 0 ≤ sz by omega)
    refine g21 hk (by omega) (by omega) ?_
    refine g22 hk (by omega) (by omega) (fun hf => ?_) ?_
    · rw [hf]
      simp only [beq_self_eq_true, cond_true]
      exact g13 (fin hx2 h)
    · simp only [beq_self_eq_true, cond_true]
      exact g13 (fin hx2 h)
  · exact g21_err hc (g22_err hc (g13 (fin hx2 h)))
end Go.Proofs.Ytnndiicpiolddaa.blk
