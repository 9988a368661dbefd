import Derived.Test.YtnndiicpiolddaaLen3
set_option linter.unusedVariables false
set_option linter.unusedSimpArgs false
namespace Go.Proofs.Ytnndiicpiolddaa.tls
open Go Go.Ab
theorem wid {x : Int} (h1 : -9223372036854775808 ≤ x) (h2 : x ≤ 9223372036854775807) : IntKind.wrap .i64 x = x := by
  simp [IntKind.wrap, IntKind.bits, IntKind.signed]; omega
theorem wlow {x : Int} (h1 : -18446744073709551616 ≤ x) (h2 : x < -9223372036854775808) : IntKind.wrap .i64 x = x + 18446744073709551616 := by
  simp [IntKind.wrap, IntKind.bits, IntKind.signed]; omega
theorem dt {p : Prop} [inst : Decidable p] (h : p) : decide p = true := decide_eq_true h
theorem df {p : Prop} [inst : Decidable p] (h : ¬ p) : decide p = false := decide_eq_false h
theorem condNot {α : Type} (b : Bool) (x y : α) : cond (!b) x y = cond b y x := by cases b <;> rfl
theorem condAnd {α : Type} (a b : Bool) (x y : α) : cond (a && b) x y = cond a (cond b x y) y := by cases a <;> rfl
theorem t_0 (q : Nat) : Int.toNat ((q : Int) + 0) = q := by omega
theorem t_1 (q : Nat) : Int.toNat ((q : Int) + 1) = q + 1 := by omega
theorem t_2 (q : Nat) : Int.toNat ((q : Int) + 2) = q + 2 := by omega
theorem t_3 (q : Nat) : Int.toNat ((q : Int) + 3) = q + 3 := by omega
theorem t_4 (q : Nat) : Int.toNat ((q : Int) + 4) = q + 4 := by omega
theorem t_5 (q : Nat) : Int.toNat ((q : Int) + 5) = q + 5 := by omega
theorem t_6 (q : Nat) : Int.toNat ((q : Int) + 6) = q + 6 := by omega
theorem t_7 (q : Nat) : Int.toNat ((q : Int) + 7) = q + 7 := by omega
theorem t_8 (q : Nat) : Int.toNat ((q : Int) + 8) = q + 8 := by omega
theorem t_9 (q : Nat) : Int.toNat ((q : Int) + 9) = q + 9 := by omega
theorem t_10 (q : Nat) : Int.toNat ((q : Int) + 10) = q + 10 := by omega
theorem t_11 (q : Nat) : Int.toNat ((q : Int) + 11) = q + 11 := by omega
theorem t_12 (q : Nat) : Int.toNat ((q : Int) + 12) = q + 12 := by omega
theorem t_13 (q : Nat) : Int.toNat ((q : Int) + 13) = q + 13 := by omega
theorem t_14 (q : Nat) : Int.toNat ((q : Int) + 14) = q + 14 := by omega
theorem t_15 (q : Nat) : Int.toNat ((q : Int) + 15) = q + 15 := by omega
theorem t_16 (q : Nat) : Int.toNat ((q : Int) + 16) = q + 16 := by omega
def m16 (xs : List Int) (p : Nat) : Bool := xs.getD p 0 == 102 && (xs.getD (p + 1) 0 == 72 && (xs.getD (p + 2) 0 == 141 && (xs.getD (p + 3) 0 == 61 && (xs.getD (p + 8) 0 == 102 && (xs.getD (p + 9) 0 == 102 && (xs.getD (p + 10) 0 == 72 && (xs.getD (p + 11) 0 == 232)))))))
def m12 (xs : List Int) (p : Nat) : Bool := xs.getD p 0 == 72 && (xs.getD (p + 1) 0 == 141 && (xs.getD (p + 2) 0 == 61 && (xs.getD (p + 7) 0 == 232)))
def m7 (a b : Int) (xs : List Int) (p : Nat) : Bool := xs.getD p 0 == a && (xs.getD (p + 1) 0 == 139 && xs.getD (p + 2) 0 == b)
def f16 (n : Nat) (xs : List Int) (pa : Int) : Bool := decide (4 ≤ pa ∧ pa + 12 ≤ (n : Int)) && m16 xs (pa - 4).toNat
def f12 (n : Nat) (xs : List Int) (pa : Int) : Bool := decide (3 ≤ pa ∧ pa + 9 ≤ (n : Int)) && m12 xs (pa - 3).toNat
def f7 (a b : Int) (n : Nat) (xs : List Int) (pa : Int) : Bool := decide (3 ≤ pa ∧ pa + 4 ≤ (n : Int)) && m7 a b xs (pa - 3).toNat
def ra (r : Nat) : Int := if r < 8 then 72 else 76
def rb (r : Nat) : Int := 5 + 8 * (r % 8 : Nat)
def fr (r : Nat) (n : Nat) (xs : List Int) (pa : Int) : Bool := f7 (ra r) (rb r) n xs pa
theorem wsub (c : Int) (hc : 0 ≤ c) (hc' : c ≤ 100) {pa : Int} (h1 : -9223372036854775808 ≤ pa) (h2 : pa ≤ 9223372036854775807) :
    (IntKind.wrap .i64 (pa - c) = pa - c ∧ -9223372036854775808 + c ≤ pa) ∨ (9223372036854775000 ≤ IntKind.wrap .i64 (pa - c) ∧ IntKind.wrap .i64 (pa - c) ≤ 9223372036854775807 ∧ pa < 0) := by
  by_cases h : -9223372036854775808 ≤ pa - c
  · exact .inl ⟨wid h (by omega), by omega⟩
  · right; rw [wlow (by omega) (by omega)]; omega
theorem stepj {P : Nat → Prop} {r : Nat} (h : ∀ j, j < r → P j) (n : P r) : ∀ j, j < r + 1 → P j := fun j hj => by
  by_cases e : j = r
  · subst e; exact n
  · exact h j (by omega)
theorem takes : ∀ (n q : Nat) (xs : List Int), q + n ≤ xs.length → List.take n (List.drop q xs) = (List.range n).map fun i => xs.getD (q + i) 0 := by
  intro n q xs h
  apply List.ext_getElem
  · simp; omega
  · intro i h1 h2
    simp only [List.length_map, List.length_range] at h2
    simp only [List.getElem_take, List.getElem_drop, List.getElem_map, List.getElem_range]
    rw [List.getD_eq_getElem?_getD, List.getElem?_eq_getElem (by omega)]
    rfl
theorem g70_1 (q : Nat) (xs : List Int) (t0 : Int) (s0 : List Int) (d0 : Int) (K : List Int → Prop) (h : q + 7 ≤ xs.length) : G70_1 q 7 xs 3 t0 s0 d0 K = K [xs.getD (q + 0) 0, xs.getD (q + 1) 0, xs.getD (q + 2) 0, 0, 0, 0, 0] := by
  have e : List.take 7 (List.drop q xs) = [xs.getD (q + 0) 0, xs.getD (q + 1) 0, xs.getD (q + 2) 0, xs.getD (q + 3) 0, xs.getD (q + 4) 0, xs.getD (q + 5) 0, xs.getD (q + 6) 0] := takes 7 q xs h
  unfold G70_1 F70_1
  rw [e]
  change _ = _
  kernel_rfl
theorem g70_2a (q : Nat) (xs : List Int) (t0 t1 : Int) (s0 s1 : List Int) (d0 d1 : Int) (K : List Int → Prop) (h : q + 12 ≤ xs.length) : G70_2 q 12 xs 3 8 t0 t1 s0 s1 d0 d1 K = K [xs.getD (q + 0) 0, xs.getD (q + 1) 0, xs.getD (q + 2) 0, 0, 0, 0, 0, xs.getD (q + 7) 0, 0, 0, 0, 0] := by
  have e : List.take 12 (List.drop q xs) = [xs.getD (q + 0) 0, xs.getD (q + 1) 0, xs.getD (q + 2) 0, xs.getD (q + 3) 0, xs.getD (q + 4) 0, xs.getD (q + 5) 0, xs.getD (q + 6) 0, xs.getD (q + 7) 0, xs.getD (q + 8) 0, xs.getD (q + 9) 0, xs.getD (q + 10) 0, xs.getD (q + 11) 0] := takes 12 q xs h
  unfold G70_2 F70_2
  rw [e]
  change _ = _
  kernel_rfl
theorem g70_2b (q : Nat) (xs : List Int) (t0 t1 : Int) (s0 s1 : List Int) (d0 d1 : Int) (K : List Int → Prop) (h : q + 16 ≤ xs.length) : G70_2 q 16 xs 4 12 t0 t1 s0 s1 d0 d1 K = K [xs.getD (q + 0) 0, xs.getD (q + 1) 0, xs.getD (q + 2) 0, xs.getD (q + 3) 0, 0, 0, 0, 0, xs.getD (q + 8) 0, xs.getD (q + 9) 0, xs.getD (q + 10) 0, xs.getD (q + 11) 0, 0, 0, 0, 0] := by
  have e : List.take 16 (List.drop q xs) = [xs.getD (q + 0) 0, xs.getD (q + 1) 0, xs.getD (q + 2) 0, xs.getD (q + 3) 0, xs.getD (q + 4) 0, xs.getD (q + 5) 0, xs.getD (q + 6) 0, xs.getD (q + 7) 0, xs.getD (q + 8) 0, xs.getD (q + 9) 0, xs.getD (q + 10) 0, xs.getD (q + 11) 0, xs.getD (q + 12) 0, xs.getD (q + 13) 0, xs.getD (q + 14) 0, xs.getD (q + 15) 0] := takes 16 q xs h
  unfold G70_2 F70_2
  rw [e]
  change _ = _
  kernel_rfl
theorem el_d (xs : List Int) (q : Nat) : ([xs.getD (q + 0) 0, xs.getD (q + 1) 0, xs.getD (q + 2) 0, xs.getD (q + 3) 0, 0, 0, 0, 0, xs.getD (q + 8) 0, xs.getD (q + 9) 0, xs.getD (q + 10) 0, xs.getD (q + 11) 0, 0, 0, 0, 0] == ([102, 72, 141, 61, 0, 0, 0, 0, 102, 102, 72, 232, 0, 0, 0, 0] : List Int)) = m16 xs q := by
  simp only [m16, List.cons_beq_cons, beq_self_eq_true, Bool.true_and, Bool.and_true, List.nil_beq_eq, List.isEmpty_nil, Nat.add_zero]
theorem el_c (xs : List Int) (q : Nat) : ([xs.getD (q + 0) 0, xs.getD (q + 1) 0, xs.getD (q + 2) 0, 0, 0, 0, 0, xs.getD (q + 7) 0, 0, 0, 0, 0] == ([72, 141, 61, 0, 0, 0, 0, 232, 0, 0, 0, 0] : List Int)) = m12 xs q := by
  simp only [m12, List.cons_beq_cons, beq_self_eq_true, Bool.true_and, Bool.and_true, List.nil_beq_eq, List.isEmpty_nil, Nat.add_zero]
theorem el_b (xs : List Int) (q : Nat) (a b : Int) : ([xs.getD (q + 0) 0, xs.getD (q + 1) 0, xs.getD (q + 2) 0, 0, 0, 0, 0] == ([a, 139, b, 0, 0, 0, 0] : List Int)) = m7 a b xs q := by
  simp only [m7, List.cons_beq_cons, beq_self_eq_true, Bool.true_and, Bool.and_true, List.nil_beq_eq, List.isEmpty_nil, Nat.add_zero]
def rbi (r : Int) : Int := IntKind.wrap .u8 (5 + IntKind.wrap .u8 (8 * IntKind.wrap .u8 (ibits .and .i64 r 7)))
theorem rbi_def (r : Int) : IntKind.wrap .u8 (5 + IntKind.wrap .u8 (8 * IntKind.wrap .u8 (ibits .and .i64 r 7))) = rbi r := rfl
theorem rbi_eq : ∀ r : Nat, r < 16 → rbi r = rb r := by
  intro r hr
  have : r = 0 ∨ r = 1 ∨ r = 2 ∨ r = 3 ∨ r = 4 ∨ r = 5 ∨ r = 6 ∨ r = 7 ∨ r = 8 ∨ r = 9 ∨ r = 10 ∨ r = 11 ∨ r = 12 ∨ r = 13 ∨ r = 14 ∨ r = 15 := by omega
  rcases this with rfl | rfl | rfl | rfl | rfl | rfl | rfl | rfl | rfl | rfl | rfl | rfl | rfl | rfl | rfl | rfl <;> (change _ = _; kernel_rfl)
def le4 (off : Int) : List Int := [(IntKind.wrap .u8 (Int.fdiv (IntKind.wrap .u64 off) (2 ^ 0))), (IntKind.wrap .u8 (Int.fdiv (IntKind.wrap .u64 off) (2 ^ 8))), (IntKind.wrap .u8 (Int.fdiv (IntKind.wrap .u64 off) (2 ^ 16))), (IntKind.wrap .u8 (Int.fdiv (IntKind.wrap .u64 off) (2 ^ 24)))]
def fit (off : Int) : Prop := -2147483648 ≤ off ∧ off < 2147483648
def w19 (off : Int) : List Int := ([100, 72, 139, 4, 37, 0, 0, 0, 0, 72, 141, 128] : List Int) ++ le4 off
def w20 : List Int := [100, 72, 139, 4, 37, 0, 0, 0, 0, 144, 144, 144]
def w22 (r : Nat) (off : Int) : List Int := ([if r < 8 then 72 else 73, 199, 192 + (r % 8 : Nat)] : List Int) ++ le4 off
theorem le4_length (off : Int) : (le4 off).length = 4 := by simp [le4]
theorem g46 {off : Int} {k1 : Bool → Prop} {k2 : Prop} : (fit off → k1 true) → (¬ fit off → k1 false ∧ k2) → G46 off k1 k2 := by
  intro a b
  unfold G46 F46
  by_cases c : off ≥ -2147483648
  · by_cases d : off < 2147483648
    · simp only [dt c, dt d, cond_true]; exact a ⟨c, d⟩
    · simp only [dt c, df d, cond_true]; exact (b fun h => d h.2).1
  · simp only [df c, cond_false]; exact (b fun h => c h.1).2
theorem g47 {off : Int} {k1 : Prop} {k2 : List Int → Prop} (h : fit off) : k2 (le4 off) → G47 off k1 k2 := by
  intro a
  unfold G47 F47
  obtain ⟨h1, h2⟩ := h
  simp (disch := omega) only [df, cond_false]
  exact a
theorem ri_eq : ∀ r : Nat, r < 16 → IntKind.wrap .u8 (192 + IntKind.wrap .u8 (ibits .and .i64 r 7)) = 192 + (r % 8 : Nat) := by
  intro r hr
  have : r = 0 ∨ r = 1 ∨ r = 2 ∨ r = 3 ∨ r = 4 ∨ r = 5 ∨ r = 6 ∨ r = 7 ∨ r = 8 ∨ r = 9 ∨ r = 10 ∨ r = 11 ∨ r = 12 ∨ r = 13 ∨ r = 14 ∨ r = 15 := by omega
  rcases this with rfl | rfl | rfl | rfl | rfl | rfl | rfl | rfl | rfl | rfl | rfl | rfl | rfl | rfl | rfl | rfl <;> (change _ = _; kernel_rfl)
theorem g14 {k : Prop} (h : k) : G14 k := h
theorem g13 {a : Int} {k : Prop} (h : k) : G13 a k := h
end Go.Proofs.Ytnndiicpiolddaa.tls
