/- The plain law: the copy of the list is the list, and both searches find the same. -/
import Derived.Test.YtoikimbpbcjnkaaGreatIm4
set_option linter.unusedVariables false
set_option linter.unusedSimpArgs false
set_option maxHeartbeats 4000000
set_option maxRecDepth 100000
namespace Go.Proofs.YtoikimbpbcjnkaaGreat.img
open Go Go.Ab
theorem wrap_ok {x y : Int} (h : 0 ≤ y ∧ y ≤ 9223372036854775807) (e : x = y) : IntKind.wrap .i64 x = y := by
  subst e
  unfold IntKind.wrap
  simp [IntKind.signed, IntKind.bits]
  omega
def scan (p : Nat → Bool) : Nat → Nat → Option Nat
  | _, 0 => none
  | i, d + 1 => bif p i then some i else scan p (i + 1) d
def after (k1 : Int → Prop) (k2 : Prop) (ad : List Int) : Option Nat → Prop
  | some j => k1 (ad.getD j 0)
  | none => k2
theorem r4_2 {ob : Int} {nm : List Int} {ns : List (List Int)} {os ad zs ts : List Int} {k1 : Int → Prop} {k2 : Prop} (hb : ns.length ≤ 1048576) : ∀ (d i : Nat), i + d = ns.length → after k1 k2 ad (scan (fun j => (os.getD j 0 == ob) && (ns.getD j [] == nm)) i d) → ∃ n, RL4_2 n ob nm (((ns.length - 0 : Nat) : Nat) : Int) (i : Int) ns os ad zs ts k1 k2
  | 0, i, hd, h => ⟨1, by
    have e : decide ((i : Int) < ((ns.length : Nat) : Int)) = false := decide_eq_false (by omega)
    simp only [RL4_2, HL4_2, Nat.sub_zero, e, cond_false]
    exact h⟩
  | d + 1, i, hd, h => by
    have e1 : decide ((i : Int) < ((ns.length : Nat) : Int)) = true := decide_eq_true (by omega)
    have e0 : decide ((0 : Int) ≤ (i : Int)) = true := decide_eq_true (by omega)
    have ew : IntKind.wrap .i64 ((i : Int) + 1) = ((i + 1 : Nat) : Int) := wrap_ok (by omega) (by omega)
    simp only [scan] at h
    cases h1 : (os.getD i 0 == ob) with
    | false =>
      simp only [h1, Bool.false_and, cond_false] at h
      obtain ⟨n, hn⟩ := r4_2 hb d (i + 1) (by omega) h
      refine ⟨n + 1, ?_⟩
      simp only [RL4_2, HL4_2, Nat.sub_zero, Int.toNat_natCast, e1, e0, h1, cond_true, cond_false, Bool.and_self, ew]
      exact hn
    | true =>
      cases h2 : (ns.getD i [] == nm) with
      | false =>
        simp only [h1, h2, Bool.true_and, cond_false] at h
        obtain ⟨n, hn⟩ := r4_2 hb d (i + 1) (by omega) h
        refine ⟨n + 1, ?_⟩
        simp only [RL4_2, HL4_2, Nat.sub_zero, Int.toNat_natCast, e1, e0, h1, h2, cond_true, cond_false, Bool.and_self, ew]
        exact hn
      | true =>
        simp only [h1, h2, Bool.true_and, cond_true, after] at h
        refine ⟨1, ?_⟩
        simp only [RL4_2, HL4_2, Nat.sub_zero, Int.toNat_natCast, e1, e0, h1, h2, cond_true, Bool.and_self]
        exact h
theorem r4_8 {nm : List Int} {ns : List (List Int)} {os ad zs ts : List Int} {k1 : Int → Prop} {k2 : Prop} (hb : ns.length ≤ 1048576) : ∀ (d i : Nat), i + d = ns.length → after k1 k2 ad (scan (fun j => (ns.getD j [] == nm)) i d) → ∃ n, RL4_8 n nm (((ns.length - 0 : Nat) : Nat) : Int) (i : Int) ns os ad zs ts k1 k2
  | 0, i, hd, h => ⟨1, by
    have e : decide ((i : Int) < ((ns.length : Nat) : Int)) = false := decide_eq_false (by omega)
    simp only [RL4_8, HL4_8, Nat.sub_zero, e, cond_false]
    exact h⟩
  | d + 1, i, hd, h => by
    have e1 : decide ((i : Int) < ((ns.length : Nat) : Int)) = true := decide_eq_true (by omega)
    have e0 : decide ((0 : Int) ≤ (i : Int)) = true := decide_eq_true (by omega)
    have ew : IntKind.wrap .i64 ((i : Int) + 1) = ((i + 1 : Nat) : Int) := wrap_ok (by omega) (by omega)
    simp only [scan] at h
    cases h2 : (ns.getD i [] == nm) with
    | false =>
      simp only [h2, cond_false] at h
      obtain ⟨n, hn⟩ := r4_8 hb d (i + 1) (by omega) h
      refine ⟨n + 1, ?_⟩
      simp only [RL4_8, HL4_8, Nat.sub_zero, Int.toNat_natCast, e1, e0, h2, cond_true, cond_false, Bool.and_self, ew]
      exact hn
    | true =>
      simp only [h2, cond_true, after] at h
      refine ⟨1, ?_⟩
      simp only [RL4_8, HL4_8, Nat.sub_zero, Int.toNat_natCast, e1, e0, h2, cond_true, Bool.and_self]
      exact h
theorem r5_2 {ob : Int} {nm : List Int} {ns : List (List Int)} {os ad zs ts : List Int} {k1 : Int → Prop} {k2 : Prop} (hb : ns.length ≤ 1048576) : ∀ (d i : Nat), i + d = ns.length → after k1 k2 ad (scan (fun j => (os.getD j 0 == ob) && (ns.getD j [] == nm)) i d) → ∃ n, RL5_2 n ob nm (i : Int) ns os ad zs ts k1 k2
  | 0, i, hd, h => ⟨1, by
    have e : decide ((i : Int) < ((ns.length : Nat) : Int)) = false := decide_eq_false (by omega)
    simp only [RL5_2, HL5_2, Nat.sub_zero, e, cond_false]
    exact h⟩
  | d + 1, i, hd, h => by
    have e1 : decide ((i : Int) < ((ns.length : Nat) : Int)) = true := decide_eq_true (by omega)
    have e0 : decide ((0 : Int) ≤ (i : Int)) = true := decide_eq_true (by omega)
    have ew : IntKind.wrap .i64 ((i : Int) + 1) = ((i + 1 : Nat) : Int) := wrap_ok (by omega) (by omega)
    simp only [scan] at h
    cases h1 : (os.getD i 0 == ob) with
    | false =>
      simp only [h1, Bool.false_and, cond_false] at h
      obtain ⟨n, hn⟩ := r5_2 hb d (i + 1) (by omega) h
      refine ⟨n + 1, ?_⟩
      simp only [RL5_2, HL5_2, Nat.sub_zero, Int.toNat_natCast, e1, e0, h1, cond_true, cond_false, Bool.and_self, ew]
      exact hn
    | true =>
      cases h2 : (ns.getD i [] == nm) with
      | false =>
        simp only [h1, h2, Bool.true_and, cond_false] at h
        obtain ⟨n, hn⟩ := r5_2 hb d (i + 1) (by omega) h
        refine ⟨n + 1, ?_⟩
        simp only [RL5_2, HL5_2, Nat.sub_zero, Int.toNat_natCast, e1, e0, h1, h2, cond_true, cond_false, Bool.and_self, ew]
        exact hn
      | true =>
        simp only [h1, h2, Bool.true_and, cond_true, after] at h
        refine ⟨1, ?_⟩
        simp only [RL5_2, HL5_2, Nat.sub_zero, Int.toNat_natCast, e1, e0, h1, h2, cond_true, Bool.and_self]
        exact h
theorem r5_7 {nm : List Int} {ns : List (List Int)} {os ad zs ts : List Int} {k1 : Int → Prop} {k2 : Prop} (hb : ns.length ≤ 1048576) : ∀ (d i : Nat), i + d = ns.length → after k1 k2 ad (scan (fun j => (ns.getD j [] == nm)) i d) → ∃ n, RL5_7 n nm (i : Int) ns os ad zs ts k1 k2
  | 0, i, hd, h => ⟨1, by
    have e : decide ((i : Int) < ((ns.length : Nat) : Int)) = false := decide_eq_false (by omega)
    simp only [RL5_7, HL5_7, Nat.sub_zero, e, cond_false]
    exact h⟩
  | d + 1, i, hd, h => by
    have e1 : decide ((i : Int) < ((ns.length : Nat) : Int)) = true := decide_eq_true (by omega)
    have e0 : decide ((0 : Int) ≤ (i : Int)) = true := decide_eq_true (by omega)
    have ew : IntKind.wrap .i64 ((i : Int) + 1) = ((i + 1 : Nat) : Int) := wrap_ok (by omega) (by omega)
    simp only [scan] at h
    cases h2 : (ns.getD i [] == nm) with
    | false =>
      simp only [h2, cond_false] at h
      obtain ⟨n, hn⟩ := r5_7 hb d (i + 1) (by omega) h
      refine ⟨n + 1, ?_⟩
      simp only [RL5_7, HL5_7, Nat.sub_zero, Int.toNat_natCast, e1, e0, h2, cond_true, cond_false, Bool.and_self, ew]
      exact hn
    | true =>
      simp only [h2, cond_true, after] at h
      refine ⟨1, ?_⟩
      simp only [RL5_7, HL5_7, Nat.sub_zero, Int.toNat_natCast, e1, e0, h2, cond_true, Bool.and_self]
      exact h
theorem g4 {ob : Int} {nm : List Int} {ns : List (List Int)} {os ad zs ts : List Int} {k1 : Int → Prop} {k2 : Prop} (hb : ns.length ≤ 1048576)
    (h : after k1 (after k1 k2 ad (scan (fun j => (ns.getD j [] == nm)) 0 ns.length)) ad (scan (fun j => (os.getD j 0 == ob) && (ns.getD j [] == nm)) 0 ns.length)) : G4 ob nm ns os ad zs ts k1 k2 := by
  unfold G4 F4 GL4_2 GL4_8
  refine ⟨rfl, r4_2 hb ns.length 0 (by omega) ?_⟩
  generalize scan (fun j => (os.getD j 0 == ob) && (ns.getD j [] == nm)) 0 ns.length = s at h ⊢
  cases s with
  | some j => exact h
  | none => exact ⟨rfl, r4_8 hb ns.length 0 (by omega) h⟩
theorem g5 {ob : Int} {nm : List Int} {ns : List (List Int)} {os ad zs ts : List Int} {k1 : Int → Prop} {k2 : Prop} (hb : ns.length ≤ 1048576)
    (h : after k1 (after k1 k2 ad (scan (fun j => (ns.getD j [] == nm)) 0 ns.length)) ad (scan (fun j => (os.getD j 0 == ob) && (ns.getD j [] == nm)) 0 ns.length)) : G5 ob nm ns os ad zs ts k1 k2 := by
  unfold G5 F5 GL5_2 GL5_7
  refine ⟨rfl, r5_2 hb ns.length 0 (by omega) ?_⟩
  generalize scan (fun j => (os.getD j 0 == ob) && (ns.getD j [] == nm)) 0 ns.length = s at h ⊢
  cases s with
  | some j => exact h
  | none => exact ⟨rfl, r5_7 hb ns.length 0 (by omega) h⟩
theorem tk {α : Type} {l : List α} {i : Nat} {d : α} (h : i < l.length) : l.take i ++ [l.getD i d] = l.take (i + 1) := by
  rw [List.take_add_one, List.getD_eq_getElem?_getD, List.getElem?_eq_getElem h]; rfl
theorem r3_3 {ob : Int} {nm : List Int} {ns : List (List Int)} {os ad zs ts : List Int} {k1 : List (List Int) → List Int → List Int → List Int → List Int → Prop} (hb : ns.length ≤ 1048576) (h1 : os.length = ns.length) (h2 : ad.length = ns.length) (h3 : zs.length = ns.length) (h4 : ts.length = ns.length)
    (h : k1 ns os ad zs ts) : ∀ (d i : Nat), i + d = ns.length → ∃ n, RL3_3 n ob nm (i : Int) ns os ad zs ts (ns.take i) (os.take i) (ad.take i) (zs.take i) (ts.take i) k1
  | 0, i, hd => ⟨1, by
    have e : decide ((i : Int) < ((ns.length : Nat) : Int)) = false := decide_eq_false (by omega)
    simp only [RL3_3, HL3_3, Nat.sub_zero, e, cond_false]
    rw [List.take_of_length_le (by omega), List.take_of_length_le (by omega), List.take_of_length_le (by omega), List.take_of_length_le (by omega), List.take_of_length_le (by omega)]
    exact h⟩
  | d + 1, i, hd => by
    have e1 : decide ((i : Int) < ((ns.length : Nat) : Int)) = true := decide_eq_true (by omega)
    have e0 : decide ((0 : Int) ≤ (i : Int)) = true := decide_eq_true (by omega)
    have ew : IntKind.wrap .i64 ((i : Int) + 1) = ((i + 1 : Nat) : Int) := wrap_ok (by omega) (by omega)
    have el : (ns.take i).length = i := by rw [List.length_take]; omega
    have ea : decide ((i + 1) * 48 ≤ 140737488355328) = true := decide_eq_true (by omega)
    have eb : decide (i + 1 ≤ 140737488355328) = true := decide_eq_true (by omega)
    obtain ⟨n, hn⟩ := r3_3 hb h1 h2 h3 h4 h d (i + 1) (by omega)
    refine ⟨n + 1, ?_⟩
    simp only [RL3_3, HL3_3, Nat.sub_zero, Int.toNat_natCast, e1, e0, cond_true, Bool.and_self, beq_self_eq_true, ew, el, ea, eb]
    rw [tk (by omega), tk (by omega), tk (by omega), tk (by omega), tk (by omega)]
    exact hn
theorem g3 {ob : Int} {nm : List Int} {ns : List (List Int)} {os ad zs ts : List Int} {k1 k2 : Prop} (hb : ns.length ≤ 1048576) (h1 : os.length = ns.length) (h2 : ad.length = ns.length) (h3 : zs.length = ns.length) (h4 : ts.length = ns.length) (h : k1) : G3 ob nm ns os ad zs ts k1 k2 := by
  unfold G3 F3 GL3_3
  refine ⟨rfl, r3_3 hb h1 h2 h3 h4 ?_ ns.length 0 (by omega)⟩
  refine g4 hb ?_
  generalize hs1 : scan (fun j => (os.getD j 0 == ob) && (ns.getD j [] == nm)) 0 ns.length = s1
  generalize hs2 : scan (fun j => (ns.getD j [] == nm)) 0 ns.length = s2
  cases s1 with
  | some j =>
    refine g5 hb ?_
    rw [hs1]
    simp only [after, beq_self_eq_true, cond_true]
    exact h
  | none =>
    cases s2 with
    | some j =>
      refine g5 hb ?_
      rw [hs1, hs2]
      simp only [after, beq_self_eq_true, cond_true]
      exact h
    | none =>
      refine g5 hb ?_
      rw [hs1, hs2]
      exact h
end Go.Proofs.YtoikimbpbcjnkaaGreat.img
