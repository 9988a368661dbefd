import Derived.Test.YtnndiicpiolddaaBak3
import Derived.Test.YtnndiicpiolddaaBakBits
set_option linter.unusedVariables false
set_option linter.unusedSimpArgs false
namespace Go.Proofs.Ytnndiicpiolddaa.bak
open Go Go.Ab
/-- The byte of a number. -/
def byt (v : Int) (k : Nat) : Int := IntKind.wrap .u8 (Int.fdiv (IntKind.wrap .u64 v) (2 ^ k))
theorem wu (v : Int) : ∃ U : Nat, IntKind.wrap .u64 v = (U : Int) ∧ U < 2 ^ 64 ∧ (U : Int) = v % 18446744073709551616 := by
  refine ⟨(v % 18446744073709551616).toNat, ?_, by omega, by omega⟩
  simp [IntKind.wrap, IntKind.bits, IntKind.signed]; omega
theorem byt_eq {v : Int} {U : Nat} (h : IntKind.wrap .u64 v = (U : Int)) (k : Nat) : byt v k = ((U / 2 ^ k % 256 : Nat) : Int) := by
  unfold byt
  rw [h, Int.fdiv_eq_ediv_of_nonneg _ (Int.le_of_lt (Int.pow_pos (by decide)))]
  have e : (2 : Int) ^ k = ((2 ^ k : Nat) : Int) := by simp
  rw [e, ← Int.natCast_ediv]
  generalize U / 2 ^ k = y
  simp [IntKind.wrap, IntKind.bits, IntKind.signed]
theorem or_step {v : Int} {U k : Nat} (h : IntKind.wrap .u64 v = (U : Int)) (hk : k ≤ 56) {a : Int} (ha : a = ((U % 2 ^ k : Nat) : Int)) :
    ibits .or .u64 a (IntKind.wrap .u64 ((IntKind.wrap .u64 (byt v k)) * 2 ^ k)) = ((U % 2 ^ (k + 8) : Nat) : Int) := by
  subst ha
  rw [byt_eq h]
  have hp : 0 < 2 ^ k := Nat.two_pow_pos k
  rw [(Go.Ab.bits.or_byte hk (Nat.mod_lt U hp) (Nat.mod_lt _ (by decide))).1]
  have e2 : U % 2 ^ (k + 8) = U % 2 ^ k + U / 2 ^ k % 256 * 2 ^ k := by
    rw [Nat.pow_add, Nat.mod_mul, Nat.mul_comm (U / 2 ^ k % 256)]
  rw [e2]
theorem or4 {v : Int} {U : Nat} (h : IntKind.wrap .u64 v = (U : Int)) : (ibits .or .u64 (ibits .or .u64 (ibits .or .u64 (ibits .or .u64 (0 : Int) (IntKind.wrap .u64 ((IntKind.wrap .u64 (byt v 0)) * 2 ^ 0))) (IntKind.wrap .u64 ((IntKind.wrap .u64 (byt v 8)) * 2 ^ 8))) (IntKind.wrap .u64 ((IntKind.wrap .u64 (byt v 16)) * 2 ^ 16))) (IntKind.wrap .u64 ((IntKind.wrap .u64 (byt v 24)) * 2 ^ 24))) = ((U % 2 ^ 32 : Nat) : Int) := by
  exact or_step h (by decide) (or_step h (by decide) (or_step h (by decide) (or_step h (by decide) (by rw [Nat.pow_zero, Nat.mod_one]; rfl))))
theorem or8 {v : Int} {U : Nat} (h : IntKind.wrap .u64 v = (U : Int)) : (ibits .or .u64 (ibits .or .u64 (ibits .or .u64 (ibits .or .u64 (ibits .or .u64 (ibits .or .u64 (ibits .or .u64 (ibits .or .u64 (0 : Int) (IntKind.wrap .u64 ((IntKind.wrap .u64 (byt v 0)) * 2 ^ 0))) (IntKind.wrap .u64 ((IntKind.wrap .u64 (byt v 8)) * 2 ^ 8))) (IntKind.wrap .u64 ((IntKind.wrap .u64 (byt v 16)) * 2 ^ 16))) (IntKind.wrap .u64 ((IntKind.wrap .u64 (byt v 24)) * 2 ^ 24))) (IntKind.wrap .u64 ((IntKind.wrap .u64 (byt v 32)) * 2 ^ 32))) (IntKind.wrap .u64 ((IntKind.wrap .u64 (byt v 40)) * 2 ^ 40))) (IntKind.wrap .u64 ((IntKind.wrap .u64 (byt v 48)) * 2 ^ 48))) (IntKind.wrap .u64 ((IntKind.wrap .u64 (byt v 56)) * 2 ^ 56))) = ((U % 2 ^ 64 : Nat) : Int) := by
  exact or_step h (by decide) (or_step h (by decide) (or_step h (by decide) (or_step h (by decide) (or_step h (by decide) (or_step h (by decide) (or_step h (by decide) (or_step h (by decide) (by rw [Nat.pow_zero, Nat.mod_one]; rfl))))))))
theorem s4 {v : Int} {U : Nat} (h1 : (U : Int) = v % 18446744073709551616) (l : -2147483648 ≤ v) (u : v < 2147483648) :
    Int.fdiv (IntKind.wrap .i64 (IntKind.wrap .u64 (((U % 2 ^ 32 : Nat) : Int) * 2 ^ 32))) (2 ^ 32) = v := by
  rw [Int.fdiv_eq_ediv_of_nonneg _ (by decide)]
  simp only [IntKind.wrap, IntKind.bits, IntKind.signed, Int.reducePow, Nat.reducePow]
  simp
  omega
theorem u4 {v : Int} {U : Nat} (h1 : (U : Int) = v % 18446744073709551616) (l : 0 ≤ v) (u : v < 4294967296) :
    IntKind.wrap .i64 (((U % 2 ^ 32 : Nat) : Int)) = v := by
  simp only [IntKind.wrap, IntKind.bits, IntKind.signed, Int.reducePow, Nat.reducePow]
  simp
  omega
theorem s8 {v : Int} {U : Nat} (h1 : (U : Int) = v % 18446744073709551616) (l : -9223372036854775808 ≤ v) (u : v < 9223372036854775808) :
    Int.fdiv (IntKind.wrap .i64 (IntKind.wrap .u64 (((U % 2 ^ 64 : Nat) : Int) * 2 ^ 0))) (2 ^ 0) = v := by
  rw [Int.fdiv_eq_ediv_of_nonneg _ (by decide)]
  simp only [IntKind.wrap, IntKind.bits, IntKind.signed, Int.reducePow, Nat.reducePow]
  simp
  omega
theorem g42_4s {q : Nat} {v : Int} {ys : List Int} {k1 : Prop} {k2 : Int → Prop} (hy : ys.length ≤ 2000000) (hq : q + 4 ≤ ys.length) (l : -2147483648 ≤ v) (u : v < 2147483648) (b0 : ys.getD q 0 = byt v 0) (b1 : ys.getD (q + 1) 0 = byt v 8) (b2 : ys.getD (q + 2) 0 = byt v 16) (b3 : ys.getD (q + 3) 0 = byt v 24) (h : k2 v) : G42_4 (q : Nat) true ys k1 k2 := by
  unfold G42_4 F42_4
  obtain ⟨U, hU, _, hm⟩ := wu v
  simp (disch := omega) only [wid, dt, df, cond_true, cond_false, Bool.and_self, Nat.sub_zero, t_0, t_1, t_2, t_3, t_4, t_5, t_6, t_7, b0, b1, b2, b3]
  rw [or4 hU, s4 hm l u]
  exact h
theorem g42_4u {q : Nat} {v : Int} {ys : List Int} {k1 : Prop} {k2 : Int → Prop} (hy : ys.length ≤ 2000000) (hq : q + 4 ≤ ys.length) (l : 0 ≤ v) (u : v < 4294967296) (b0 : ys.getD q 0 = byt v 0) (b1 : ys.getD (q + 1) 0 = byt v 8) (b2 : ys.getD (q + 2) 0 = byt v 16) (b3 : ys.getD (q + 3) 0 = byt v 24) (h : k2 v) : G42_4 (q : Nat) false ys k1 k2 := by
  unfold G42_4 F42_4
  obtain ⟨U, hU, _, hm⟩ := wu v
  simp (disch := omega) only [wid, dt, df, cond_true, cond_false, Bool.and_self, Nat.sub_zero, t_0, t_1, t_2, t_3, t_4, t_5, t_6, t_7, b0, b1, b2, b3]
  rw [or4 hU, u4 hm l u]
  exact h
theorem g42_8s {q : Nat} {v : Int} {ys : List Int} {k1 : Prop} {k2 : Int → Prop} (hy : ys.length ≤ 2000000) (hq : q + 8 ≤ ys.length) (l : -9223372036854775808 ≤ v) (u : v < 9223372036854775808) (b0 : ys.getD q 0 = byt v 0) (b1 : ys.getD (q + 1) 0 = byt v 8) (b2 : ys.getD (q + 2) 0 = byt v 16) (b3 : ys.getD (q + 3) 0 = byt v 24) (b4 : ys.getD (q + 4) 0 = byt v 32) (b5 : ys.getD (q + 5) 0 = byt v 40) (b6 : ys.getD (q + 6) 0 = byt v 48) (b7 : ys.getD (q + 7) 0 = byt v 56) (h : k2 v) : G42_8 (q : Nat) true ys k1 k2 := by
  unfold G42_8 F42_8
  obtain ⟨U, hU, _, hm⟩ := wu v
  simp (disch := omega) only [wid, dt, df, cond_true, cond_false, Bool.and_self, Nat.sub_zero, t_0, t_1, t_2, t_3, t_4, t_5, t_6, t_7, b0, b1, b2, b3, b4, b5, b6, b7]
  rw [or8 hU, s8 hm l u]
  exact h
theorem gl10_12 {q : Nat} {xs ys : List Int} {k1 k2 : Prop} (hx : xs.length ≤ 1048576) (hl : ys.length = xs.length) (hq : q + 4 ≤ xs.length)
    (hb : ∀ j, j < q → ys.getD j 0 = xs.getD j 0) (ha : ∀ j, q + 4 ≤ j → ys.getD j 0 = xs.getD j 0) (h : k2) : GL10_12 XL10_12 (q : Nat) 0 xs ys k1 k2 := by
  refine ⟨rfl, xs.length + 1, ?_⟩
  have key : ∀ (d i : Nat), i + d = xs.length → RL10_12 (d + 1) (q : Nat) (i : Nat) xs ys k1 k2 := by
    intro d
    induction d with
    | zero =>
      intro i hi
      show HL10_12 (fun i => RL10_12 0 (q : Nat) i xs ys k1 k2) (q : Nat) i xs ys k1 k2
      unfold HL10_12
      simp (disch := omega) only [df, cond_false]
      exact h
    | succ d ih =>
      intro i hi
      show HL10_12 (fun i => RL10_12 (d + 1) (q : Nat) i xs ys k1 k2) (q : Nat) i xs ys k1 k2
      unfold HL10_12
      have e1 : ((i : Int) + 1) = ((i + 1 : Nat) : Int) := by omega
      have goal : RL10_12 (d + 1) (q : Nat) ((i : Int) + 1) xs ys k1 k2 := by rw [e1]; exact ih (i + 1) (by omega)
      by_cases c1 : i < q
      · have e := hb i c1
        simp (disch := omega) only [dt, wid, cond_true, cond_false, Bool.and_self, Int.toNat_natCast, e, bne_self_eq_false]
        exact goal
      by_cases c2 : q + 4 ≤ i
      · have e := ha i c2
        simp (disch := omega) only [dt, df, wid, cond_true, cond_false, Bool.and_self, Int.toNat_natCast, e, bne_self_eq_false]
        exact goal
      · simp (disch := omega) only [dt, df, wid, cond_true, cond_false]
        exact goal
  exact key xs.length 0 (by omega)
theorem gl10_12b {q : Nat} {xs ys : List Int} {k1 k2 : Prop} (hx : xs.length ≤ 1048576) (hl : ys.length = xs.length) (hq : q + 8 ≤ xs.length)
    (hb : ∀ j, j < q → ys.getD j 0 = xs.getD j 0) (ha : ∀ j, q + 8 ≤ j → ys.getD j 0 = xs.getD j 0) (h : k2) : GL10_12b XL10_12b (q : Nat) 0 xs ys k1 k2 := by
  refine ⟨rfl, xs.length + 1, ?_⟩
  have key : ∀ (d i : Nat), i + d = xs.length → RL10_12b (d + 1) (q : Nat) (i : Nat) xs ys k1 k2 := by
    intro d
    induction d with
    | zero =>
      intro i hi
      show HL10_12b (fun i => RL10_12b 0 (q : Nat) i xs ys k1 k2) (q : Nat) i xs ys k1 k2
      unfold HL10_12b
      simp (disch := omega) only [df, cond_false]
      exact h
    | succ d ih =>
      intro i hi
      show HL10_12b (fun i => RL10_12b (d + 1) (q : Nat) i xs ys k1 k2) (q : Nat) i xs ys k1 k2
      unfold HL10_12b
      have e1 : ((i : Int) + 1) = ((i + 1 : Nat) : Int) := by omega
      have goal : RL10_12b (d + 1) (q : Nat) ((i : Int) + 1) xs ys k1 k2 := by rw [e1]; exact ih (i + 1) (by omega)
      by_cases c1 : i < q
      · have e := hb i c1
        simp (disch := omega) only [dt, wid, cond_true, cond_false, Bool.and_self, Int.toNat_natCast, e, bne_self_eq_false]
        exact goal
      by_cases c2 : q + 8 ≤ i
      · have e := ha i c2
        simp (disch := omega) only [dt, df, wid, cond_true, cond_false, Bool.and_self, Int.toNat_natCast, e, bne_self_eq_false]
        exact goal
      · simp (disch := omega) only [dt, df, wid, cond_true, cond_false]
        exact goal
  exact key xs.length 0 (by omega)
theorem relA_len {xs w : List Int} {q s : Nat} (h : q + s ≤ xs.length) (hw : w.length = s) : (relA xs q s w).length = xs.length := by
  unfold relA; simp; omega
theorem relA_lo {xs w : List Int} {q s : Nat} (h : q + s ≤ xs.length) (hw : w.length = s) (j : Nat) (hj : j < q) : (relA xs q s w).getD j 0 = xs.getD j 0 := by
  unfold relA
  rw [List.getD_eq_getElem?_getD, List.getD_eq_getElem?_getD, List.getElem?_append_left (by simp; omega), List.getElem?_append_left (by simp; omega), List.getElem?_take_of_lt hj]
theorem relA_hi {xs w : List Int} {q s : Nat} (h : q + s ≤ xs.length) (hw : w.length = s) (j : Nat) (hj : q + s ≤ j) : (relA xs q s w).getD j 0 = xs.getD j 0 := by
  unfold relA
  rw [List.getD_eq_getElem?_getD, List.getD_eq_getElem?_getD, List.getElem?_append_right (by simp; omega), List.getElem?_drop]
  congr 2
  simp; omega
theorem relA_mid {xs w : List Int} {q s : Nat} (h : q + s ≤ xs.length) (hw : w.length = s) (i : Nat) (hi : i < s) : (relA xs q s w).getD (q + i) 0 = w.getD i 0 := by
  unfold relA
  rw [List.getD_eq_getElem?_getD, List.getD_eq_getElem?_getD, List.getElem?_append_left (by simp; omega), List.getElem?_append_right (by simp; omega)]
  congr 2
  simp; omega
theorem w4_0 (v : Int) : ((le8 v).take 4).getD 0 0 = byt v 0 := rfl
theorem w4_1 (v : Int) : ((le8 v).take 4).getD 1 0 = byt v 8 := rfl
theorem w4_2 (v : Int) : ((le8 v).take 4).getD 2 0 = byt v 16 := rfl
theorem w4_3 (v : Int) : ((le8 v).take 4).getD 3 0 = byt v 24 := rfl
theorem w8_0 (v : Int) : ((le8 v).take 8).getD 0 0 = byt v 0 := rfl
theorem w8_1 (v : Int) : ((le8 v).take 8).getD 1 0 = byt v 8 := rfl
theorem w8_2 (v : Int) : ((le8 v).take 8).getD 2 0 = byt v 16 := rfl
theorem w8_3 (v : Int) : ((le8 v).take 8).getD 3 0 = byt v 24 := rfl
theorem w8_4 (v : Int) : ((le8 v).take 8).getD 4 0 = byt v 32 := rfl
theorem w8_5 (v : Int) : ((le8 v).take 8).getD 5 0 = byt v 40 := rfl
theorem w8_6 (v : Int) : ((le8 v).take 8).getD 6 0 = byt v 48 := rfl
theorem w8_7 (v : Int) : ((le8 v).take 8).getD 7 0 = byt v 56 := rfl
theorem l4 (v : Int) : ((le8 v).take 4).length = 4 := by simp [le8]
theorem l8 (v : Int) : ((le8 v).take 8).length = 8 := by simp [le8]
theorem i0 {k1 k2 k3 : Prop} (h : k3) : G31l 1 k1 k2 k3 := by unfold G31l F31l; rw [e54_1]; exact h
theorem i2 {k1 k2 k3 : Prop} (h : k2) : G31l 2 k1 k2 k3 := by unfold G31l F31l; rw [e54_2]; exact h
theorem i4 {k1 k2 k3 : Prop} (h : k2) : G31l 4 k1 k2 k3 := by unfold G31l F31l; rw [e54_4]; exact h
theorem i9 {k1 k2 k3 : Prop} (h : k2) : G31l 9 k1 k2 k3 := by unfold G31l F31l; rw [e54_9]; exact h
theorem i10 {k1 k2 k3 : Prop} (h : k2) : G31l 10 k1 k2 k3 := by unfold G31l F31l; rw [e54_10]; exact h
theorem i11 {k1 k2 k3 : Prop} (h : k2) : G31l 11 k1 k2 k3 := by unfold G31l F31l; rw [e54_11]; exact h
theorem i21 {k1 k2 k3 : Prop} (h : k2) : G31l 21 k1 k2 k3 := by unfold G31l F31l; rw [e54_21]; exact h
theorem i22 {k1 k2 k3 : Prop} (h : k2) : G31l 22 k1 k2 k3 := by unfold G31l F31l; rw [e54_22]; exact h
theorem i23 {k1 k2 k3 : Prop} (h : k2) : G31l 23 k1 k2 k3 := by unfold G31l F31l; rw [e54_23]; exact h
theorem n31l {t : Int} (h : okT t) {k1 k2 k3 : Prop} (h4 : sz t = 4 → k2) (h8 : t = 1 → k3) : G31l t k1 k2 k3 := by
  unfold okT at h
  rcases h with rfl | rfl | rfl | rfl | rfl | rfl | rfl | rfl | rfl
  · exact i0 (h8 rfl)
  · exact i2 (h4 rfl)
  · exact i4 (h4 rfl)
  · exact i9 (h4 rfl)
  · exact i10 (h4 rfl)
  · exact i11 (h4 rfl)
  · exact i21 (h4 rfl)
  · exact i22 (h4 rfl)
  · exact i23 (h4 rfl)
theorem chk3 (ps pad pp pg ptp t pa : Int) : (((ps == ps) && ((pad == pad) && ((pp == pp) && ((pg == pg) && ((ptp == ptp) && true))))) && ((t == t) && ((pa == pa) && true))) = true := by simp
theorem valT_bd {t ps pad pp pg ptp : Int} (h : bd ps pad pp pg ptp) : -9223372036854775808 ≤ valT t ps pad pp pg ptp ∧ valT t ps pad pp pg ptp < 9223372036854775808 := by
  unfold valT; unfold bd at h
  split
  · omega
  split
  · omega
  split <;> omega
theorem fit10 {v : Int} (h : fitb 10 v = true) : 0 ≤ v ∧ v < 4294967296 := by simpa [fitb] using h
theorem fitS {t v : Int} (h1 : t ≠ 1) (h10 : t ≠ 10) (h : fitb t v = true) : -2147483648 ≤ v ∧ v < 2147483648 := by simpa [fitb, h1, h10] using h
theorem g10 {pa t ps pad pp pg ptp : Int} {xs : List Int} {k1 k2 : Prop} (hx : xs.length ≤ 1048576) (p1 : -9223372036854775808 ≤ pa) (p2 : pa ≤ 9223372036854775807) (h : k1) : G10 pa t ps pad pp pg ptp xs k1 k2 := by
  have e : (decide (((0 : Nat) + (xs.length - (0 : Nat))) * (1 : Nat) ≤ (140737488355328 : Nat)) && decide ((0 : Nat) + (xs.length - (0 : Nat)) ≤ (140737488355328 : Nat))) = true := by
    simp (disch := omega) only [dt, Bool.and_self]
  unfold G10 F10
  rw [chk3, cond_true, e, cond_true, cond_true]
  refine g26 hx p1 p2 (fun _ => g24 (g25 h)) (fun _ _ => g24 (g25 h)) (fun _ _ _ => g24 (g25 h)) (fun _ _ _ _ => g24 (g25 h)) (fun q hq hok hb hp hf => g24 ?_)
  subst hq
  have hvb := @valT_bd t ps pad pp pg ptp hb
  refine n31l hok (fun h4 => ?_) (fun h1 => ?_)
  · refine g23l (fun hn => absurd hok hn) (fun hn => absurd hb hn) (fun _ _ => g24 (g24 ?_))
    rw [h4] at hp ⊢
    generalize valT t ps pad pp pg ptp = v at *
    have hl := relA_len (w := (le8 v).take 4) hp (l4 v)
    have t1 : t ≠ 1 := by rintro rfl; cases h4
    have m := relA_mid (w := (le8 v).take 4) hp (l4 v)
    have c : (((((relA xs q 4 ((le8 v).take 4)).length - (0 : Nat)) : Nat) : Int) != (((xs.length - (0 : Nat)) : Nat) : Int)) = false := by rw [hl]; simp
    rw [c, cond_false]
    have fin : G24 0 (bif (v != v) then k2 else GL10_12 XL10_12 (q : Nat) 0 xs (relA xs q 4 ((le8 v).take 4)) k2 (G25 k1)) := by
      rw [bne_self_eq_false, cond_false]
      exact g24 (gl10_12 hx hl hp (relA_lo hp (l4 v)) (relA_hi hp (l4 v)) (g25 h))
    by_cases h10 : t = 10
    · subst h10
      have f := fit10 hf
      exact g42_4u (by omega) (by omega) f.1 f.2 (m 0 (by decide)) (m 1 (by decide)) (m 2 (by decide)) (m 3 (by decide)) fin
    · have f := fitS t1 h10 hf
      have eb : (t != (10 : Int)) = true := by simpa using h10
      rw [eb]
      exact g42_4s (by omega) (by omega) f.1 f.2 (m 0 (by decide)) (m 1 (by decide)) (m 2 (by decide)) (m 3 (by decide)) fin
  · refine g23l (fun hn => absurd hok hn) (fun hn => absurd hb hn) (fun _ _ => g24 (g24 ?_))
    subst h1
    have h8 : sz 1 = 8 := rfl
    rw [h8] at hp ⊢
    generalize valT 1 ps pad pp pg ptp = v at *
    have hl := relA_len (w := (le8 v).take 8) hp (l8 v)
    have m := relA_mid (w := (le8 v).take 8) hp (l8 v)
    have c : (((((relA xs q 8 ((le8 v).take 8)).length - (0 : Nat)) : Nat) : Int) != (((xs.length - (0 : Nat)) : Nat) : Int)) = false := by rw [hl]; simp
    rw [c, cond_false]
    have fin : G24 0 (bif (v != v) then k2 else GL10_12b XL10_12b (q : Nat) 0 xs (relA xs q 8 ((le8 v).take 8)) k2 (G25 k1)) := by
      rw [bne_self_eq_false, cond_false]
      exact g24 (gl10_12b hx hl hp (relA_lo hp (l8 v)) (relA_hi hp (l8 v)) (g25 h))
    exact g42_8s (by omega) (by omega) hvb.1 hvb.2 (m 0 (by decide)) (m 1 (by decide)) (m 2 (by decide)) (m 3 (by decide)) (m 4 (by decide)) (m 5 (by decide)) (m 6 (by decide)) (m 7 (by decide)) fin
end Go.Proofs.Ytnndiicpiolddaa.bak
