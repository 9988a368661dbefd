import Derived.Test.YtnndiicpiolddaaApp3
set_option linter.unusedVariables false
set_option linter.unusedSimpArgs false
namespace Go.Proofs.Ytnndiicpiolddaa.app
open Go Go.Ab
theorem condNot {α : Type} (b : Bool) (x y : α) : cond (!b) x y = cond b y x := by cases b <;> rfl
def rx (xs : List Int) (pa : Int) : Bool :=
  decide (3 ≤ pa ∧ pa + 4 ≤ xs.length) && (xs.getD (pa - 2).toNat 0 == 139 && (ibits .and .u8 (xs.getD (pa - 1).toNat 0) 199 == 5 && (xs.getD (pa - 3).toNat 0 == 72 || xs.getD (pa - 3).toNat 0 == 76)))
theorem g29 {pa : Int} {xs : List Int} {k1 : Prop} {k2 : List Int → Prop} (hx : xs.length ≤ 1048576) (p1 : -9223372036854775808 ≤ pa) (p2 : pa ≤ 9223372036854775807) (h1 : rx xs pa = false → k1) (h2 : rx xs pa = true → k2 (xs.set (pa - 2).toNat 141)) : G29 pa xs k1 k2 := by
  unfold G29 F29
  unfold rx at h1 h2
  by_cases c0 : pa < 3
  · rw [dt c0, cond_true]
    exact h1 (by rw [df (by omega), Bool.false_and])
  by_cases c1 : pa + 4 ≤ xs.length
  · rw [dt (⟨by omega, c1⟩ : 3 ≤ pa ∧ pa + 4 ≤ xs.length), Bool.true_and] at h1 h2
    simp (disch := omega) only [df, dt, wid, cond_true, cond_false, Bool.and_self, Nat.sub_zero, Nat.zero_add, bne, condNot]
    generalize (xs.getD (pa - 2).toNat 0 == 139) = b1 at *
    generalize (ibits .and .u8 (xs.getD (pa - 1).toNat 0) 199 == 5) = b2 at *
    generalize (xs.getD (pa - 3).toNat 0 == 72) = b3 at *
    generalize (xs.getD (pa - 3).toNat 0 == 76) = b4 at *
    cases b1 <;> cases b2 <;> cases b3 <;> cases b4 <;> first | exact h1 rfl | exact h2 rfl
  · simp (disch := omega) only [df, dt, wid, cond_true, cond_false]
    exact h1 (by rw [df (by omega), Bool.false_and])
theorem g30 {pa : Int} {xs : List Int} {k1 : Prop} {k2 : List Int → Prop} (hx : xs.length ≤ 1048576) (p1 : -9223372036854775808 ≤ pa) (p2 : pa ≤ 9223372036854775807) (h1 : rx xs pa = false → k1) (h2 : rx xs pa = true → k2 (xs.set (pa - 2).toNat 141)) : G30 pa xs k1 k2 := by
  unfold G30 F30
  unfold rx at h1 h2
  by_cases c0 : pa < 3
  · rw [dt c0, cond_true]
    exact h1 (by rw [df (by omega), Bool.false_and])
  by_cases c1 : pa + 4 ≤ xs.length
  · rw [dt (⟨by omega, c1⟩ : 3 ≤ pa ∧ pa + 4 ≤ xs.length), Bool.true_and] at h1 h2
    simp (disch := omega) only [df, dt, wid, cond_true, cond_false, Bool.and_self, Nat.sub_zero, Nat.zero_add, bne, condNot]
    generalize (xs.getD (pa - 2).toNat 0 == 139) = b1 at *
    generalize (ibits .and .u8 (xs.getD (pa - 1).toNat 0) 199 == 5) = b2 at *
    generalize (xs.getD (pa - 3).toNat 0 == 72) = b3 at *
    generalize (xs.getD (pa - 3).toNat 0 == 76) = b4 at *
    cases b1 <;> cases b2 <;> cases b3 <;> cases b4 <;> first | exact h1 rfl | exact h2 rfl
  · simp (disch := omega) only [df, dt, wid, cond_true, cond_false]
    exact h1 (by rw [df (by omega), Bool.false_and])
theorem gl9 {a b : List Int} {k : Prop} (h : k) : GL8_9 XL8_9 a b k := ⟨rfl, 1, h⟩
theorem gl9b {a b c : List Int} {k : Prop} (h : k) : GL8_9b XL8_9b a b c k := ⟨rfl, 1, h⟩
theorem gl13 {a b : List Int} {k : Prop} (h : k) : GL8_13 XL8_13 a b k := ⟨rfl, 1, h⟩
theorem gl9c {a b : List Int} {k : Prop} (h : k) : ∀ {ys : List Int}, ys.length ≤ 2000000 → GL8_9c XL8_9c 0 a b ys k := by
  intro ys hy
  refine ⟨rfl, ys.length + 1, ?_⟩
  have key : ∀ (d i : Nat) (ys : List Int), i + d = ys.length → ys.length ≤ 2000000 → RL8_9c (d + 1) (i : Nat) a b ys k := by
    intro d
    induction d with
    | zero =>
      intro i ys hi hy
      show HL8_9c (fun i ys => RL8_9c 0 i a b ys k) i a b ys k
      unfold HL8_9c
      simp (disch := omega) only [df, cond_false]
      exact h
    | succ d ih =>
      intro i ys hi hy
      show HL8_9c (fun i ys => RL8_9c (d + 1) i a b ys k) i a b ys k
      unfold HL8_9c
      simp (disch := omega) only [dt, wid, cond_true, Bool.and_self]
      exact ih (i + 1) (ys.set _ _) (by simp; omega) (by simp; omega)
  exact key ys.length 0 ys (by omega) hy
theorem gl9d {a b c : List Int} {k : Prop} (h : k) : ∀ {ys : List Int}, ys.length ≤ 2000000 → GL8_9d XL8_9d 0 a b ys c k := by
  intro ys hy
  refine ⟨rfl, ys.length + 1, ?_⟩
  have key : ∀ (d i : Nat) (ys : List Int), i + d = ys.length → ys.length ≤ 2000000 → RL8_9d (d + 1) (i : Nat) a b ys c k := by
    intro d
    induction d with
    | zero =>
      intro i ys hi hy
      show HL8_9d (fun i ys => RL8_9d 0 i a b ys c k) i a b ys c k
      unfold HL8_9d
      simp (disch := omega) only [df, cond_false]
      exact h
    | succ d ih =>
      intro i ys hi hy
      show HL8_9d (fun i ys => RL8_9d (d + 1) i a b ys c k) i a b ys c k
      unfold HL8_9d
      simp (disch := omega) only [dt, wid, cond_true, Bool.and_self]
      exact ih (i + 1) (ys.set _ _) (by simp; omega) (by simp; omega)
  exact key ys.length 0 ys (by omega) hy
theorem gl13b {a b : List Int} {k : Prop} (h : k) : ∀ {ys : List Int}, ys.length ≤ 2000000 → GL8_13b XL8_13b 0 a b ys k := by
  intro ys hy
  refine ⟨rfl, ys.length + 1, ?_⟩
  have key : ∀ (d i : Nat) (ys : List Int), i + d = ys.length → ys.length ≤ 2000000 → RL8_13b (d + 1) (i : Nat) a b ys k := by
    intro d
    induction d with
    | zero =>
      intro i ys hi hy
      show HL8_13b (fun i ys => RL8_13b 0 i a b ys k) i a b ys k
      unfold HL8_13b
      simp (disch := omega) only [df, cond_false]
      exact h
    | succ d ih =>
      intro i ys hi hy
      show HL8_13b (fun i ys => RL8_13b (d + 1) i a b ys k) i a b ys k
      unfold HL8_13b
      simp (disch := omega) only [dt, wid, cond_true, Bool.and_self]
      exact ih (i + 1) (ys.set _ _) (by simp; omega) (by simp; omega)
  exact key ys.length 0 ys (by omega) hy
theorem g28 {a b c d e : Int} {k : Prop} (h : k) : G28 a b c d e k := h
theorem bee (xs : List Int) : (xs == xs) = true := by simp
theorem relA_length {xs w : List Int} {q s : Nat} (h : q + s ≤ xs.length) (hw : w.length ≤ 20) : (relA xs q s w).length ≤ xs.length + 20 := by
  unfold relA
  simp
  omega
theorem g8 {pa t ps pad pp pg ptp : Int} {xs : List Int} {k1 k2 : Prop} (hx : xs.length ≤ 1048576) (p1 : -9223372036854775808 ≤ pa) (p2 : pa ≤ 9223372036854775807) (h : k2) : G8 pa t ps pad pp pg ptp xs k1 k2 := by
  have e : (decide (((0 : Nat) + (xs.length - (0 : Nat))) * (1 : Nat) ≤ (140737488355328 : Nat)) && decide ((0 : Nat) + (xs.length - (0 : Nat)) ≤ (140737488355328 : Nat))) = true := by
    simp (disch := omega) only [dt, Bool.and_self]
  unfold G8 F8
  rw [e, cond_true]
  have hset : (xs.set (pa - 2).toNat 141).length ≤ 2000000 := by simp; omega
  cases hr : rx xs pa with
  | false =>
    have r29 : ∀ {a : Prop} {b : List Int → Prop}, a → G29 pa xs a b := fun ha => g29 hx p1 p2 (fun _ => ha) (fun h => by rw [hr] at h; cases h)
    have r30 : ∀ {a : Prop} {b : List Int → Prop}, a → G30 pa xs a b := fun ha => g30 hx p1 p2 (fun _ => ha) (fun h => by rw [hr] at h; cases h)
    refine g26 hx p1 p2 (fun hok => ?_) (fun hok hb => ?_) (fun hok hb hp => ?_) (fun hok hb hp hf => ?_) (fun q hq hok hb hp hf => ?_)
    · refine g28 (g27 hx p1 p2 (fun _ => ?_) (fun h => absurd h hok) (fun h => absurd h hok) (fun h => absurd h hok) (fun _ _ h => absurd h hok))
      refine r29 (r30 (g24 ?_))
      simp only [bee, Bool.not_true, cond_true, cond_false]
      exact gl9 (gl13 (g25 h))
    · refine g28 (g27 hx p1 p2 (fun h => absurd hok h) (fun _ _ => ?_) (fun _ h => absurd h hb) (fun _ h => absurd h hb) (fun _ _ _ h => absurd h hb))
      refine r29 (r30 (g24 ?_))
      simp only [bee, Bool.not_true, cond_true, cond_false]
      exact gl9 (gl13 (g25 h))
    · refine g28 (g27 hx p1 p2 (fun h => absurd hok h) (fun _ h => absurd hb h) (fun _ _ _ => ?_) (fun _ _ h => absurd h hp) (fun _ e _ _ h => absurd ⟨by omega, by omega⟩ hp))
      refine r29 (r30 (g24 ?_))
      simp only [bee, Bool.not_true, cond_true, cond_false]
      exact gl9 (gl13 (g25 h))
    · refine g28 (g27 hx p1 p2 (fun h => absurd hok h) (fun _ h => absurd hb h) (fun _ _ h => absurd hp h) (fun _ _ _ _ => ?_) (fun _ _ _ _ _ h => by rw [hf] at h; cases h))
      refine r29 (r30 (g24 ?_))
      simp only [bee, Bool.not_true, cond_true, cond_false]
      exact gl9 (gl13 (g25 h))
    · refine g28 (g27 hx p1 p2 (fun h => absurd hok h) (fun _ h => absurd hb h) (fun _ _ h => absurd ⟨by omega, by omega⟩ h) (fun _ _ _ h => by rw [hf] at h; cases h) (fun q' hq' _ _ _ _ => ?_))
      obtain rfl : q' = q := by omega
      refine r29 (r30 ?_)
      simp only [bee, Bool.not_true, cond_true, cond_false]
      refine g24 ?_
      exact gl9c (gl13 (g25 h)) (Nat.le_trans (relA_length hp (by simp [le8]; omega)) (by omega))
  | true =>
    have r29 : ∀ {a : Prop} {b : List Int → Prop}, b (xs.set (pa - 2).toNat 141) → G29 pa xs a b := fun ha => g29 hx p1 p2 (fun h => by rw [hr] at h; cases h) (fun _ => ha)
    have r30 : ∀ {a : Prop} {b : List Int → Prop}, b (xs.set (pa - 2).toNat 141) → G30 pa xs a b := fun ha => g30 hx p1 p2 (fun h => by rw [hr] at h; cases h) (fun _ => ha)
    refine g26 hx p1 p2 (fun hok => ?_) (fun hok hb => ?_) (fun hok hb hp => ?_) (fun hok hb hp hf => ?_) (fun q hq hok hb hp hf => ?_)
    · refine g28 (g27 hx p1 p2 (fun _ => ?_) (fun h => absurd h hok) (fun h => absurd h hok) (fun h => absurd h hok) (fun _ _ h => absurd h hok))
      refine r29 (r30 (g24 ?_))
      simp only [bee, Bool.not_true, cond_true, cond_false]
      exact gl9b (gl13b (g25 h) hset)
    · refine g28 (g27 hx p1 p2 (fun h => absurd hok h) (fun _ _ => ?_) (fun _ h => absurd h hb) (fun _ h => absurd h hb) (fun _ _ _ h => absurd h hb))
      refine r29 (r30 (g24 ?_))
      simp only [bee, Bool.not_true, cond_true, cond_false]
      exact gl9b (gl13b (g25 h) hset)
    · refine g28 (g27 hx p1 p2 (fun h => absurd hok h) (fun _ h => absurd hb h) (fun _ _ _ => ?_) (fun _ _ h => absurd h hp) (fun _ e _ _ h => absurd ⟨by omega, by omega⟩ hp))
      refine r29 (r30 (g24 ?_))
      simp only [bee, Bool.not_true, cond_true, cond_false]
      exact gl9b (gl13b (g25 h) hset)
    · refine g28 (g27 hx p1 p2 (fun h => absurd hok h) (fun _ h => absurd hb h) (fun _ _ h => absurd hp h) (fun _ _ _ _ => ?_) (fun _ _ _ _ _ h => by rw [hf] at h; cases h))
      refine r29 (r30 (g24 ?_))
      simp only [bee, Bool.not_true, cond_true, cond_false]
      exact gl9b (gl13b (g25 h) hset)
    · refine g28 (g27 hx p1 p2 (fun h => absurd hok h) (fun _ h => absurd hb h) (fun _ _ h => absurd ⟨by omega, by omega⟩ h) (fun _ _ _ h => by rw [hf] at h; cases h) (fun q' hq' _ _ _ _ => ?_))
      obtain rfl : q' = q := by omega
      refine r29 (r30 ?_)
      simp only [bee, Bool.not_true, cond_true, cond_false]
      refine g24 ?_
      exact gl9d (gl13b (g25 h) hset) (Nat.le_trans (relA_length hp (by simp [le8]; omega)) (by omega))
end Go.Proofs.Ytnndiicpiolddaa.app
