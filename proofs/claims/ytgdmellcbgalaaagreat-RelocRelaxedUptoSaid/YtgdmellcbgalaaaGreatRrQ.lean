import Derived.Test.YtgdmellcbgalaaaGreatRrL
set_option linter.unusedVariables false
set_option linter.unusedSimpArgs false
set_option maxHeartbeats 4000000
set_option maxRecDepth 100000
namespace Go.Proofs.YtgdmellcbgalaaaGreat.rrx
open Go Go.Ab
theorem num_of {p0 p1 p2 p3 : Int} (h0 : 0 ≤ p0 ∧ p0 ≤ 255) (h1 : 0 ≤ p1 ∧ p1 ≤ 255) (h2 : 0 ≤ p2 ∧ p2 ≤ 255) (h3 : 0 ≤ p3 ∧ p3 ≤ 255) :
    ∃ o : Int, -2147483648 ≤ o ∧ o < 2147483648 ∧ p0 = b8 o 0 ∧ p1 = b8 o 8 ∧ p2 = b8 o 16 ∧ p3 = b8 o 24 := by
  obtain ⟨a, rfl⟩ := Int.eq_ofNat_of_zero_le h0.1
  obtain ⟨b, rfl⟩ := Int.eq_ofNat_of_zero_le h1.1
  obtain ⟨c, rfl⟩ := Int.eq_ofNat_of_zero_le h2.1
  obtain ⟨d, rfl⟩ := Int.eq_ofNat_of_zero_le h3.1
  have key : ∀ U : Nat, U % 4294967296 = a + 256 * b + 65536 * c + 16777216 * d → ∀ o : Int, IntKind.wrap .u64 o = (U : Int) → (a : Int) = b8 o 0 ∧ (b : Int) = b8 o 8 ∧ (c : Int) = b8 o 16 ∧ (d : Int) = b8 o 24 := by
    intro U hU o ho
    unfold b8
    rw [ho, byte_nat, byte_nat, byte_nat, byte_nat]
    have e0 : (2 : Nat) ^ 0 = 1 := rfl
    have e1 : (2 : Nat) ^ 8 = 256 := rfl
    have e2 : (2 : Nat) ^ 16 = 65536 := rfl
    have e3 : (2 : Nat) ^ 24 = 16777216 := rfl
    rw [e0, e1, e2, e3]
    omega
  by_cases hu : a + 256 * b + 65536 * c + 16777216 * d < 2147483648
  · refine ⟨((a + 256 * b + 65536 * c + 16777216 * d : Nat) : Int), by omega, by omega, key (a + 256 * b + 65536 * c + 16777216 * d) (by omega) _ (wu64 (by omega))⟩
  · refine ⟨((a + 256 * b + 65536 * c + 16777216 * d : Nat) : Int) - 4294967296, by omega, by omega, key (a + 256 * b + 65536 * c + 16777216 * d + 18446744069414584320) (by omega) _ ?_⟩
    simp [IntKind.wrap, IntKind.bits, IntKind.signed]; omega
theorem modrm_all : (List.range 256).all (fun c => !(ibits .and .u8 (c : Int) 199 == 5) || [5, 13, 21, 29, 37, 45, 53, 61].contains c) = true := by kernel_rfl
theorem modrm_of {c : Int} (h : 0 ≤ c ∧ c ≤ 255) (hc : ibits .and .u8 c 199 = 5) : c = 5 ∨ c = 13 ∨ c = 21 ∨ c = 29 ∨ c = 37 ∨ c = 45 ∨ c = 53 ∨ c = 61 := by
  obtain ⟨a, rfl⟩ := Int.eq_ofNat_of_zero_le h.1
  have h1 := List.all_eq_true.1 modrm_all a (List.mem_range.2 (by omega))
  rw [hc] at h1
  simp at h1
  omega
theorem tab_of {a c : Int} (ha : a = 72 ∨ a = 76) (hc : c = 5 ∨ c = 13 ∨ c = 21 ∨ c = 29 ∨ c = 37 ∨ c = 45 ∨ c = 53 ∨ c = 61) : ∃ r, (a, c, r) ∈ tab := by
  rcases ha with rfl | rfl
  · rcases hc with rfl | rfl | rfl | rfl | rfl | rfl | rfl | rfl
    · exact ⟨0, by simp [tab]⟩
    · exact ⟨1, by simp [tab]⟩
    · exact ⟨2, by simp [tab]⟩
    · exact ⟨3, by simp [tab]⟩
    · exact ⟨4, by simp [tab]⟩
    · exact ⟨5, by simp [tab]⟩
    · exact ⟨6, by simp [tab]⟩
    · exact ⟨7, by simp [tab]⟩
  · rcases hc with rfl | rfl | rfl | rfl | rfl | rfl | rfl | rfl
    · exact ⟨8, by simp [tab]⟩
    · exact ⟨9, by simp [tab]⟩
    · exact ⟨10, by simp [tab]⟩
    · exact ⟨11, by simp [tab]⟩
    · exact ⟨12, by simp [tab]⟩
    · exact ⟨13, by simp [tab]⟩
    · exact ⟨14, by simp [tab]⟩
    · exact ⟨15, by simp [tab]⟩
theorem parts {xs : List Int} {k : Nat} (h : k + 7 ≤ xs.length) : ∃ (pre : List Int) (a b c p0 p1 p2 p3 : Int) (rest : List Int), xs = pre ++ (a :: b :: c :: p0 :: p1 :: p2 :: p3 :: rest) ∧ pre.length = k := by
  have hl : (List.drop k xs).length = xs.length - k := List.length_drop
  match hd : List.drop k xs with
  | a :: b :: c :: p0 :: p1 :: p2 :: p3 :: rest => exact ⟨List.take k xs, a, b, c, p0, p1, p2, p3, rest, by rw [← hd, List.take_append_drop], by simp; omega⟩
  | [] | [_] | [_, _] | [_, _, _] | [_, _, _, _] | [_, _, _, _, _] | [_, _, _, _, _, _] => rw [hd] at hl; simp at hl; omega
theorem both {pre rest : List Int} {a c r o N : Int} {I : Nat} {kt kf : Prop} (hx : (a, c, r) ∈ tab) (h1 : -2147483648 ≤ o) (h2 : o < 2147483648) (hN : N = pre.length) (hI : I = pre.length + 1) (hk : kt) {xs : List Int} (hxs : xs = pre ++ (enc (a, c, r) 139 o ++ rest)) :
    oneF xs N (fun r3 d3 => oneF (List.set xs I 141) N (fun _ _ => kf) (fun r5 d5 => bif (((r3 == r5) && true) && (((d3 == d5) && true) && true)) then kt else kf)) (fun _ _ => oneF (List.set xs I 141) N (fun _ _ => kf) (fun _ _ => kf)) := by
  refine ⟨_, hx, o, pre, rest, h1, h2, hN, .inl ⟨hxs, ⟨_, hx, o, pre, rest, h1, h2, hN, .inr ⟨?_, ?_⟩⟩⟩⟩
  · subst hxs; subst hI
    rw [List.set_append_right _ _ (by omega), Nat.add_sub_cancel_left]
    rfl
  · simp only [beq_self_eq_true, Bool.and_true, cond_true]; exact hk
theorem plain {xs : List Int} {n : Int} {kt kf : Prop} (hb : ∀ x ∈ xs, 0 ≤ x ∧ x ≤ 255) (hl : xs.length ≤ 1048576) (hn : -9223372036854775808 ≤ n ∧ n ≤ 9223372036854775807) (hk : kt) : lawX xs n kt kf := by
  have w0 : ∀ z : Int, -9223372036854775808 ≤ z → z ≤ 9223372036854775807 → IntKind.wrap .i64 z = z := by
    intro z h1 h2; simp [IntKind.wrap, IntKind.bits, IntKind.signed]; omega
  unfold lawX
  rw [decide_eq_true (by omega : (0 + (List.length xs - 0)) * 1 ≤ 140737488355328), decide_eq_true (by omega : 0 + (List.length xs - 0) ≤ 140737488355328), decide_eq_true (by omega : (List.length xs - 0) * 1 ≤ 140737488355328), decide_eq_true (by omega : List.length xs - 0 ≤ 140737488355328)]
  simp only [Bool.and_self, cond_true]
  by_cases c1 : n < 3
  · rw [decide_eq_true c1]; exact hk
  rw [decide_eq_false c1, w0 _ (by omega) (by omega)]
  simp only [cond_false]
  by_cases c2 : n > (((List.length xs - 0 : Nat) : Int) - 4)
  · rw [decide_eq_true c2]; exact hk
  rw [decide_eq_false c2]
  simp only [cond_false]
  obtain ⟨k, rfl⟩ : ∃ k : Nat, n = (k : Int) + 3 := ⟨(n - 3).toNat, by omega⟩
  have e1 : IntKind.wrap .i64 ((k : Int) + 3 - 2) = ((k + 1 : Nat) : Int) := by rw [w0 _ (by omega) (by omega)]; omega
  have e2 : IntKind.wrap .i64 ((k : Int) + 3 - 1) = ((k + 2 : Nat) : Int) := by rw [w0 _ (by omega) (by omega)]; omega
  have e3 : IntKind.wrap .i64 ((k : Int) + 3 - 3) = ((k : Nat) : Int) := by rw [w0 _ (by omega) (by omega)]; omega
  have e4 : IntKind.wrap .i64 ((k : Int) + 3 + 4) = ((k + 7 : Nat) : Int) := by rw [w0 _ (by omega) (by omega)]; omega
  rw [e1, e2, e3, e4]
  simp only [Int.toNat_natCast]
  obtain ⟨pre, a, b, c, p0, p1, p2, p3, rest, hxs, hp⟩ := parts (xs := xs) (k := k) (by omega)
  rw [decide_eq_true (by omega : (0 : Int) ≤ ((k + 1 : Nat) : Int)), decide_eq_true (by omega : ((k + 1 : Nat) : Int) < ((List.length xs - 0 : Nat) : Int)), decide_eq_true (by omega : (0 : Int) ≤ ((k + 2 : Nat) : Int)), decide_eq_true (by omega : ((k + 2 : Nat) : Int) < ((List.length xs - 0 : Nat) : Int)),
    decide_eq_true (by omega : (0 : Int) ≤ ((k : Nat) : Int)), decide_eq_true (by omega : ((k : Nat) : Int) < ((List.length xs - 0 : Nat) : Int)), decide_eq_false (by omega : ¬ ((k + 7 : Nat) : Int) > ((List.length xs - 0 : Nat) : Int))]
  have g0 : List.getD xs k 0 = a := by rw [hxs, ← hp]; simp
  have g1 : List.getD xs (k + 1) 0 = b := by rw [hxs, ← hp]; simp [List.getD_eq_getElem?_getD]
  have g2 : List.getD xs (k + 2) 0 = c := by rw [hxs, ← hp]; simp [List.getD_eq_getElem?_getD]
  rw [g0, g1, g2, List.length_set]
  simp only [Bool.and_self, cond_true, cond_false, bne_self_eq_false]
  have hm : ∀ x ∈ [a, b, c, p0, p1, p2, p3], 0 ≤ x ∧ x ≤ 255 := by
    intro x hx; refine hb x ?_; rw [hxs]; simp at hx ⊢; rcases hx with h | h | h | h | h | h | h <;> simp [h]
  simp only [List.mem_cons, List.not_mem_nil, or_false, forall_eq_or_imp, forall_eq] at hm
  obtain ⟨ma, mb, mc, m0, m1, m2, m3⟩ := hm
  obtain ⟨o, h1, h2, rfl, rfl, rfl, rfl⟩ := num_of m0 m1 m2 m3
  by_cases cb : b = 139
  · subst cb
    simp only [bne_self_eq_false, cond_false]
    by_cases cc : ibits .and .u8 c 199 = 5
    · rw [cc]
      simp only [bne_self_eq_false, cond_false]
      by_cases ca : a = 72
      · subst ca
        simp only [bne_self_eq_false, cond_false]
        obtain ⟨r, hx⟩ := tab_of (Or.inl rfl) (modrm_of mc cc)
        exact both hx h1 h2 (by rw [hp]) (by rw [hp]) hk hxs
      · rw [(by simpa using ca : (a != 72) = true)]
        simp only [cond_true]
        by_cases ca' : a = 76
        · subst ca'
          simp only [bne_self_eq_false, cond_false]
          obtain ⟨r, hx⟩ := tab_of (Or.inr rfl) (modrm_of mc cc)
          exact both hx h1 h2 (by rw [hp]) (by rw [hp]) hk hxs
        · rw [(by simpa using ca' : (a != 76) = true)]; exact hk
    · rw [(by simpa using cc : (ibits .and .u8 c 199 != 5) = true)]; exact hk
  · rw [(by simpa using cb : (b != 139) = true)]; exact hk
end Go.Proofs.YtgdmellcbgalaaaGreat.rrx
