import Derived.Test.YtgflbmcmkjkmmaaGreatSo1
set_option linter.unusedVariables false
set_option linter.unusedSimpArgs false
set_option maxHeartbeats 4000000
set_option maxRecDepth 100000
namespace Go.Proofs.YtgflbmcmkjkmmaaGreat.so
open Go Go.Ab Go.So
def prims2 : Prims := fun f =>
  match Nat.beq f 99 with
  | true => some (p2 insS)
  | false =>
  match Nat.beq f 163 with
  | true => some (p3 swpS)
  | false => prims1 f
theorem prims2_ok : PrimsOk Tryz.prog prims2 := by
  intro f g hg
  unfold prims2 at hg
  split at hg
  · rename_i hf
    obtain rfl := Nat.eq_of_beq_eq_true hf
    cases hg
    exact P99_ok
  · skip
    split at hg
    · rename_i hf
      obtain rfl := Nat.eq_of_beq_eq_true hf
      cases hg
      exact P163_ok
    · skip
      exact prims1_ok f g hg
def C2 : CC := call Tryz.prog prims2 1000
theorem C2_ok : CallsOk Tryz.prog C2 := call_sound named prims2_ok 1000
abbrev YL150_2 : Type := Code → Int → Int → Int → List Int → List Int → List Int → (Int → List Int → List Int → List Int → Prop) → Prop
set_option maxHeartbeats 4000000 in
set_option maxRecDepth 100000 in
def HL150_2  (rec : Int → Int → List Int → List Int → List Int → Prop) (i_2 : Int) (i_10 : Int) (i_11 : Int) (xs_m_0_0 : List Int) (xs_m_0_1 : List Int) (xs_m_0_2 : List Int) (k1 : Int → List Int → List Int → List Int → Prop) : Prop :=
  (bif (i_10 != i_11) then (bif (decide (i_10 > i_11)) then (swpS (IntKind.wrap .i64 (i_2 - i_10)) i_2 i_11 xs_m_0_0 xs_m_0_1 xs_m_0_2 (fun (sx7 : List Int) (st8 : List Int) (sn9 : List Int) => (rec (IntKind.wrap .i64 (i_10 - i_11)) i_11 sx7 st8 sn9))) else (swpS (IntKind.wrap .i64 (i_2 - i_10)) (IntKind.wrap .i64 ((IntKind.wrap .i64 (i_2 + i_11)) - i_10)) i_10 xs_m_0_0 xs_m_0_1 xs_m_0_2 (fun (sx10 : List Int) (st11 : List Int) (sn12 : List Int) => (rec i_10 (IntKind.wrap .i64 (i_11 - i_10)) sx10 st11 sn12)))) else (k1 i_10 xs_m_0_0 xs_m_0_1 xs_m_0_2))
def RL150_2  : Nat → Int → Int → Int → List Int → List Int → List Int → (Int → List Int → List Int → List Int → Prop) → Prop
  | 0, _, _, _, _, _, _, _ => False
  | n + 1, i_2, i_10, i_11, xs_m_0_0, xs_m_0_1, xs_m_0_2, k1 => HL150_2  (fun (i_10 : Int) (i_11 : Int) (xs_m_0_0 : List Int) (xs_m_0_1 : List Int) (xs_m_0_2 : List Int) => RL150_2  n i_2 i_10 i_11 xs_m_0_0 xs_m_0_1 xs_m_0_2 k1) i_2 i_10 i_11 xs_m_0_0 xs_m_0_1 xs_m_0_2 k1
noncomputable def XL150_2 : Code := sub [true, true, false, false, false] (bodyOf Tryz.prog 150)
theorem HL150_2_ok  (n : Nat) (i_2 : Int) (i_10 : Int) (i_11 : Int) (xs_m_0_0 : List Int) (xs_m_0_1 : List Int) (xs_m_0_2 : List Int) (K : Ex → Env → Mem → Prop) : cround 2 [0, 2, 4, 10, 11] [0, 2, 4, 10] (fun ρ m K => cexec Tryz.prog C2 (fun _ => none) 2 1000 XL150_2 ρ m K) (n + 1) (selE 58 [(0, (.sl 0 (0 : Nat) (none : Option Nat) (none : Option Nat))), (2, (.I .i64 i_2)), (4, (.fn (.func 23) [] [(.ptr 1 (0 : Nat) 0)])), (10, (.I .i64 i_10)), (11, (.I .i64 i_11))]) [⟨[.ints .i64 xs_m_0_0, .ints .i64 xs_m_0_1, .ints .i64 xs_m_0_2], 47, false, false⟩, ⟨[.vals [(.fn (.func 21) [] [])]], 54, false, false⟩] K =
    HL150_2  (fun (i_10 : Int) (i_11 : Int) (xs_m_0_0 : List Int) (xs_m_0_1 : List Int) (xs_m_0_2 : List Int) => cround 2 [0, 2, 4, 10, 11] [0, 2, 4, 10] (fun ρ m K => cexec Tryz.prog C2 (fun _ => none) 2 1000 XL150_2 ρ m K) n (selE 58 [(0, (.sl 0 (0 : Nat) (none : Option Nat) (none : Option Nat))), (2, (.I .i64 i_2)), (4, (.fn (.func 23) [] [(.ptr 1 (0 : Nat) 0)])), (10, (.I .i64 i_10)), (11, (.I .i64 i_11))]) [⟨[.ints .i64 xs_m_0_0, .ints .i64 xs_m_0_1, .ints .i64 xs_m_0_2], 47, false, false⟩, ⟨[.vals [(.fn (.func 21) [] [])]], 54, false, false⟩] K) i_2 i_10 i_11 xs_m_0_0 xs_m_0_1 xs_m_0_2 (fun (u0 : Int) (u1 : List Int) (u2 : List Int) (u3 : List Int) => K (.exit 0) (selE 58 [(0, (.sl 0 (0 : Nat) (none : Option Nat) (none : Option Nat))), (2, (.I .i64 i_2)), (4, (.fn (.func 23) [] [(.ptr 1 (0 : Nat) 0)])), (10, (.I .i64 u0))]) [⟨[.ints .i64 u1, .ints .i64 u2, .ints .i64 u3], 47, false, false⟩, ⟨[.vals [(.fn (.func 21) [] [])]], 54, false, false⟩]) := by kernel_rfl
theorem RL150_2_ok  (K : Ex → Env → Mem → Prop) : ∀ (n : Nat) (i_2 : Int) (i_10 : Int) (i_11 : Int) (xs_m_0_0 : List Int) (xs_m_0_1 : List Int) (xs_m_0_2 : List Int), cround 2 [0, 2, 4, 10, 11] [0, 2, 4, 10] (fun ρ m K => cexec Tryz.prog C2 (fun _ => none) 2 1000 XL150_2 ρ m K) n (selE 58 [(0, (.sl 0 (0 : Nat) (none : Option Nat) (none : Option Nat))), (2, (.I .i64 i_2)), (4, (.fn (.func 23) [] [(.ptr 1 (0 : Nat) 0)])), (10, (.I .i64 i_10)), (11, (.I .i64 i_11))]) [⟨[.ints .i64 xs_m_0_0, .ints .i64 xs_m_0_1, .ints .i64 xs_m_0_2], 47, false, false⟩, ⟨[.vals [(.fn (.func 21) [] [])]], 54, false, false⟩] K = RL150_2  n i_2 i_10 i_11 xs_m_0_0 xs_m_0_1 xs_m_0_2 (fun (u0 : Int) (u1 : List Int) (u2 : List Int) (u3 : List Int) => K (.exit 0) (selE 58 [(0, (.sl 0 (0 : Nat) (none : Option Nat) (none : Option Nat))), (2, (.I .i64 i_2)), (4, (.fn (.func 23) [] [(.ptr 1 (0 : Nat) 0)])), (10, (.I .i64 u0))]) [⟨[.ints .i64 u1, .ints .i64 u2, .ints .i64 u3], 47, false, false⟩, ⟨[.vals [(.fn (.func 21) [] [])]], 54, false, false⟩])
  | 0, i_2, i_10, i_11, xs_m_0_0, xs_m_0_1, xs_m_0_2 => rfl
  | n + 1, i_2, i_10, i_11, xs_m_0_0, xs_m_0_1, xs_m_0_2 => by
    have ih := RL150_2_ok  K n
    rw [HL150_2_ok  n i_2 i_10 i_11 xs_m_0_0 xs_m_0_1 xs_m_0_2 K]
    show HL150_2  _ i_2 i_10 i_11 xs_m_0_0 xs_m_0_1 xs_m_0_2 (fun (u0 : Int) (u1 : List Int) (u2 : List Int) (u3 : List Int) => K (.exit 0) (selE 58 [(0, (.sl 0 (0 : Nat) (none : Option Nat) (none : Option Nat))), (2, (.I .i64 i_2)), (4, (.fn (.func 23) [] [(.ptr 1 (0 : Nat) 0)])), (10, (.I .i64 u0))]) [⟨[.ints .i64 u1, .ints .i64 u2, .ints .i64 u3], 47, false, false⟩, ⟨[.vals [(.fn (.func 21) [] [])]], 54, false, false⟩]) = HL150_2  _ i_2 i_10 i_11 xs_m_0_0 xs_m_0_1 xs_m_0_2 (fun (u0 : Int) (u1 : List Int) (u2 : List Int) (u3 : List Int) => K (.exit 0) (selE 58 [(0, (.sl 0 (0 : Nat) (none : Option Nat) (none : Option Nat))), (2, (.I .i64 i_2)), (4, (.fn (.func 23) [] [(.ptr 1 (0 : Nat) 0)])), (10, (.I .i64 u0))]) [⟨[.ints .i64 u1, .ints .i64 u2, .ints .i64 u3], 47, false, false⟩, ⟨[.vals [(.fn (.func 21) [] [])]], 54, false, false⟩])
    refine congrArg (fun r => HL150_2  r i_2 i_10 i_11 xs_m_0_0 xs_m_0_1 xs_m_0_2 (fun (u0 : Int) (u1 : List Int) (u2 : List Int) (u3 : List Int) => K (.exit 0) (selE 58 [(0, (.sl 0 (0 : Nat) (none : Option Nat) (none : Option Nat))), (2, (.I .i64 i_2)), (4, (.fn (.func 23) [] [(.ptr 1 (0 : Nat) 0)])), (10, (.I .i64 u0))]) [⟨[.ints .i64 u1, .ints .i64 u2, .ints .i64 u3], 47, false, false⟩, ⟨[.vals [(.fn (.func 21) [] [])]], 54, false, false⟩])) ?_
    funext i_10 i_11 xs_m_0_0 xs_m_0_1 xs_m_0_2
    exact ih i_2 i_10 i_11 xs_m_0_0 xs_m_0_1 xs_m_0_2
def GL150_2 : YL150_2 := fun x i_2 i_10 i_11 xs_m_0_0 xs_m_0_1 xs_m_0_2 k1 => x = XL150_2 ∧ ∃ n, RL150_2  n i_2 i_10 i_11 xs_m_0_0 xs_m_0_1 xs_m_0_2 k1
def VL150_2 (l : YL150_2) (F : Prop) (x : Code) (ρ : Env) (m : Mem) (K : Ex → Env → Mem → Prop) : Prop :=
  match ρ.has (58 - 1) with
  | true => (seeV (.sl 0 (0 : Nat) (none : Option Nat) (none : Option Nat)) (ρ.get 0) F (seeI .i64 (ρ.get 2) F fun i_2 => (seeV (.fn (.func 23) [] [(.ptr 1 (0 : Nat) 0)]) (ρ.get 4) F (seeI .i64 (ρ.get 10) F fun i_10 => (seeI .i64 (ρ.get 11) F fun i_11 => (seeCons m F fun a6 q7 => (seeBlk 47 false false a6 F fun cs8 => (seeCons cs8 F fun a9 q10 => (seeInts .i64 a9 F fun xs_m_0_0 => (seeCons q10 F fun a11 q12 => (seeInts .i64 a11 F fun xs_m_0_1 => (seeCons q12 F fun a13 q14 => (seeInts .i64 a13 F fun xs_m_0_2 => (seeNil q14 F (seeCons q7 F fun a15 q16 => (seeBlk 54 false false a15 F fun cs17 => (seeCons cs17 F fun a18 q19 => (seeVals a18 F fun xs20 => (seeCons xs20 F fun a21 q22 => (seeV (.fn (.func 21) [] []) a21 F (seeNil q22 F (seeNil q19 F (seeNil q16 F (l x i_2 i_10 i_11 xs_m_0_0 xs_m_0_1 xs_m_0_2 (fun (u0 : Int) (u1 : List Int) (u2 : List Int) (u3 : List Int) => K (.exit 0) (selE 58 [(0, (.sl 0 (0 : Nat) (none : Option Nat) (none : Option Nat))), (2, (.I .i64 i_2)), (4, (.fn (.func 23) [] [(.ptr 1 (0 : Nat) 0)])), (10, (.I .i64 u0))]) [⟨[.ints .i64 u1, .ints .i64 u2, .ints .i64 u3], 47, false, false⟩, ⟨[.vals [(.fn (.func 21) [] [])]], 54, false, false⟩])))))))))))))))))))))))))
  | false => False
def WL150_2 (l : YL150_2) (W : Masks) : Masks := fun r =>
  match Nat.beq r 2 with
  | true => some fun x ρ m K => VL150_2 l (match W r with | some lf => lf x ρ m K | none => False) x (tidyE 2 [0, 2, 4, 10, 11] ρ m) (tidyM 2 [0, 2, 4, 10, 11] ρ m) K
  | false => W r
set_option maxRecDepth 100000 in
theorem WL150_2_ok {W : Masks} (hW : LoopsOk Tryz.prog 2 W) : LoopsOk Tryz.prog 2 (WL150_2 GL150_2 W) := by
  intro r lf h
  unfold WL150_2 at h
  split at h
  · cases h
    intro x E0 m0 w0 J hS0 ha hJ ρ m K E a w Q hS hρ hd h hQ
    have fb : (match W r with | some lf => lf x ρ m K | none => False) → (Code.loop x).wp Tryz.prog Q a w := fun h => by
      split at h
      · rename_i lf hlf
        exact hW r lf hlf x hS0 ha hJ ρ m K E a w Q hS hρ hd h hQ
      · cases h
    obtain ⟨E2, hS2, hρ2⟩ := tidy_rel hS0 hS hρ [0, 2, 4, 10, 11]
    rw [ha] at hS2 hρ2
    unfold VL150_2 at h
    split at h
    · rename_i hlen
      replace h := seeV_use h
      rcases h with h | ⟨e1, h⟩
      · exact fb h
      replace h := seeI_use h
      rcases h with h | ⟨i_2, e2, h⟩
      · exact fb h
      replace h := seeV_use h
      rcases h with h | ⟨e3, h⟩
      · exact fb h
      replace h := seeI_use h
      rcases h with h | ⟨i_10, e4, h⟩
      · exact fb h
      replace h := seeI_use h
      rcases h with h | ⟨i_11, e5, h⟩
      · exact fb h
      replace h := seeCons_use h
      rcases h with h | ⟨a6, q7, eqm, h⟩
      · exact fb h
      replace h := seeBlk_use h
      rcases h with h | ⟨cs8, rfl, h⟩
      · exact fb h
      replace h := seeCons_use h
      rcases h with h | ⟨a9, q10, rfl, h⟩
      · exact fb h
      replace h := seeInts_use h
      rcases h with h | ⟨xs_m_0_0, rfl, h⟩
      · exact fb h
      replace h := seeCons_use h
      rcases h with h | ⟨a11, q12, rfl, h⟩
      · exact fb h
      replace h := seeInts_use h
      rcases h with h | ⟨xs_m_0_1, rfl, h⟩
      · exact fb h
      replace h := seeCons_use h
      rcases h with h | ⟨a13, q14, rfl, h⟩
      · exact fb h
      replace h := seeInts_use h
      rcases h with h | ⟨xs_m_0_2, rfl, h⟩
      · exact fb h
      replace h := seeNil_use h
      rcases h with h | ⟨rfl, h⟩
      · exact fb h
      replace h := seeCons_use h
      rcases h with h | ⟨a15, q16, rfl, h⟩
      · exact fb h
      replace h := seeBlk_use h
      rcases h with h | ⟨cs17, rfl, h⟩
      · exact fb h
      replace h := seeCons_use h
      rcases h with h | ⟨a18, q19, rfl, h⟩
      · exact fb h
      replace h := seeVals_use h
      rcases h with h | ⟨xs20, rfl, h⟩
      · exact fb h
      replace h := seeCons_use h
      rcases h with h | ⟨a21, q22, rfl, h⟩
      · exact fb h
      replace h := seeV_use h
      rcases h with h | ⟨rfl, h⟩
      · exact fb h
      replace h := seeNil_use h
      rcases h with h | ⟨rfl, h⟩
      · exact fb h
      replace h := seeNil_use h
      rcases h with h | ⟨rfl, h⟩
      · exact fb h
      replace h := seeNil_use h
      rcases h with h | ⟨rfl, h⟩
      · exact fb h
      obtain ⟨rfl, n, h⟩ := h
      exact loop_use named C2_ok (LoopsOk.none _ _) (RL150_2_ok  K n _ _ _ _ _ _) h hS0 ha hJ hlen ⟨e1, e2, e3, e4, e5, trivial⟩ (eqm ▸ hS2) hρ2 hd hQ
    · cases h
  · exact hW r lf h
theorem at150 : Tryz.prog.funcs[150]? = some (fnOf Tryz.prog 150) := by kernel_rfl
abbrev Y150 : Type := Int → Int → Int → List Int → List Int → List Int → (List Int → List Int → List Int → Prop) → Prop
set_option maxHeartbeats 4000000 in
set_option maxRecDepth 100000 in
def F150  (l150_2 : YL150_2) (a : Int) (b : Int) (c : Int) (xs : List Int) (ts : List Int) (ns : List Int) (k1 : List Int → List Int → List Int → Prop) : Prop :=
  (l150_2 XL150_2 b (IntKind.wrap .i64 (b - a)) (IntKind.wrap .i64 (c - b)) xs ts ns (fun (n1 : Int) (xs2 : List Int) (xs3 : List Int) (xs4 : List Int) => (swpS (IntKind.wrap .i64 (b - n1)) b n1 xs2 xs3 xs4 (fun (sx5 : List Int) (st6 : List Int) (sn7 : List Int) => (k1 sx5 st6 sn7)))))
theorem F150_ok  (l150_2 : YL150_2) (a : Int) (b : Int) (c : Int) (xs : List Int) (ts : List Int) (ns : List Int) (K : V → Mem → Prop) : cbody Tryz.prog C2 (WL150_2 l150_2 (fun _ => none)) 1000 (fnOf Tryz.prog 150) [(.sl 0 (0 : Nat) (none : Option Nat) (none : Option Nat)), (.I .i64 a), (.I .i64 b), (.I .i64 c), (.fn (.func 23) [] [(.ptr 1 (0 : Nat) 0)])] [⟨[.ints .i64 xs, .ints .i64 ts, .ints .i64 ns], 47, false, false⟩, ⟨[.vals [(.fn (.func 21) [] [])]], 54, false, false⟩] K =
    F150  l150_2 a b c xs ts ns (fun (u0 : List Int) (u1 : List Int) (u2 : List Int) => K (.tup []) [⟨[.ints .i64 u0, .ints .i64 u1, .ints .i64 u2], 47, false, false⟩, ⟨[.vals [(.fn (.func 21) [] [])]], 54, false, false⟩]) := by kernel_rfl
/-! ### Rotation -/
theorem rot_in (F : List R) (m : Nat) (k : Int → KK) (hk : ∀ P U V Q : List R, P ++ (V ++ (U ++ Q)) = F → U.length = V.length → P.length + U.length = m → small (P ++ (U ++ (V ++ Q))).length →
      k ((U.length : Nat) : Int) ((P ++ (U ++ (V ++ Q))).map f1) ((P ++ (U ++ (V ++ Q))).map f2) ((P ++ (U ++ (V ++ Q))).map f3)) :
    ∀ (n : Nat) (P U V Q : List R), U.length + V.length ≤ n → U ≠ [] → V ≠ [] → P ++ (V ++ (U ++ Q)) = F → P.length + U.length = m → small (P ++ (U ++ (V ++ Q))).length →
      RL150_2 n ((m : Nat) : Int) ((U.length : Nat) : Int) ((V.length : Nat) : Int) ((P ++ (U ++ (V ++ Q))).map f1) ((P ++ (U ++ (V ++ Q))).map f2) ((P ++ (U ++ (V ++ Q))).map f3) k := by
  intro n
  induction n with
  | zero =>
    intro P U V Q hn hu hv _ _ _
    have := List.length_pos_iff.2 hu
    omega
  | succ n ih =>
    intro P U V Q hn hu hv hF hm hs
    have hup := List.length_pos_iff.2 hu
    have hvp := List.length_pos_iff.2 hv
    have hs' : P.length + (U.length + (V.length + Q.length)) ≤ 1152921504606846976 := by have := hs; unfold small at this; simpa using this
    show HL150_2 _ _ _ _ _ _ _ _
    unfold HL150_2
    by_cases hij : U.length = V.length
    · have e : (((U.length : Nat) : Int) != ((V.length : Nat) : Int)) = false := by simp; omega
      rw [e]
      exact hk P U V Q hF hij hm hs
    · have e : (((U.length : Nat) : Int) != ((V.length : Nat) : Int)) = true := by simp; omega
      rw [e]
      simp only [cond_true]
      have em : IntKind.wrap .i64 (((m : Nat) : Int) - ((U.length : Nat) : Int)) = ((P.length : Nat) : Int) := by rw [w64 (by omega) (by omega)]; omega
      rw [em]
      by_cases hgt : V.length < U.length
      · rw [decide_eq_true (by omega : ((U.length : Nat) : Int) > ((V.length : Nat) : Int))]
        simp only [cond_true]
        have hU : U = U.take V.length ++ U.drop V.length := (List.take_append_drop _ _).symm
        have h1 : (U.take V.length).length = V.length := by simp; omega
        have h2 : (U.drop V.length).length = U.length - V.length := by simp
        generalize U.take V.length = U1 at hU h1
        generalize U.drop V.length = U2 at hU h2
        subst hU
        refine ⟨P, U1, U2, V, Q, ⟨by simp, by simp, by simp⟩, by simpa using hs, rfl, by simp at hm; omega, by omega, by omega, ?_⟩
        have ei : IntKind.wrap .i64 ((((U1 ++ U2).length : Nat) : Int) - ((V.length : Nat) : Int)) = ((U2.length : Nat) : Int) := by rw [w64 (by omega) (by omega)]; simp; omega
        rw [ei]
        have := ih (P ++ V) U2 U1 Q (by simp at hn; omega) (by intro h; rw [h] at h2 hgt; simp at h2 hgt; omega) (by intro h; subst h; simp at h1; omega) (by rw [← hF]; simp) (by simp at hm ⊢; omega) (by unfold small; simp at hs' ⊢; omega)
        rw [h1] at this
        unfold put3
        have e3 : P ++ (V ++ (U2 ++ (U1 ++ Q))) = P ++ V ++ (U2 ++ (U1 ++ Q)) := by simp
        rw [e3]
        exact this
      · rw [decide_eq_false (by omega : ¬ ((U.length : Nat) : Int) > ((V.length : Nat) : Int))]
        simp only [cond_false]
        have hV : V = V.take (V.length - U.length) ++ V.drop (V.length - U.length) := (List.take_append_drop _ _).symm
        have h1 : (V.take (V.length - U.length)).length = V.length - U.length := by simp
        have h2 : (V.drop (V.length - U.length)).length = U.length := by simp; omega
        generalize V.take (V.length - U.length) = V1 at hV h1
        generalize V.drop (V.length - U.length) = V2 at hV h2
        subst hV
        have eb : IntKind.wrap .i64 (IntKind.wrap .i64 (((m : Nat) : Int) + (((V1 ++ V2).length : Nat) : Int)) - ((U.length : Nat) : Int)) = ((P.length + U.length + V1.length : Nat) : Int) := by
          rw [w64 (z := ((m : Nat) : Int) + (((V1 ++ V2).length : Nat) : Int)) (by omega) (by omega), w64 (by omega) (by omega)]; simp at h1 ⊢; omega
        rw [eb]
        refine ⟨P, U, V1, V2, Q, ⟨by simp, by simp, by simp⟩, by simpa using hs, rfl, rfl, rfl, h2, ?_⟩
        have ej : IntKind.wrap .i64 ((((V1 ++ V2).length : Nat) : Int) - ((U.length : Nat) : Int)) = ((V1.length : Nat) : Int) := by rw [w64 (by omega) (by omega)]; simp at h1 ⊢; omega
        rw [ej]
        have := ih P V2 V1 (U ++ Q) (by simp at hn; omega) (by intro h; subst h; simp at h2; omega) (by intro h; rw [h] at h1 hgt hij; simp at h1 hgt hij; omega) (by rw [← hF]; simp) (by omega) (by unfold small; simp at hs' ⊢; omega)
        rw [h2] at this
        exact this
theorem h150 {a m b : Int} {xs ts ns : List Int} {k : KK} (h : rotS a m b xs ts ns k) : F150 GL150_2 a m b xs ts ns k := by
  obtain ⟨p, u, v, q, ⟨rfl, rfl, rfl⟩, hs, rfl, rfl, rfl, hu, hv, hk⟩ := h
  have hs' : p.length + (u.length + (v.length + q.length)) ≤ 1152921504606846976 := by have := hs; unfold small at this; simpa using this
  have e1 : IntKind.wrap .i64 (((p.length + u.length : Nat) : Int) - ((p.length : Nat) : Int)) = ((u.length : Nat) : Int) := by rw [w64 (by omega) (by omega)]; omega
  have e2 : IntKind.wrap .i64 (((p.length + u.length + v.length : Nat) : Int) - ((p.length + u.length : Nat) : Int)) = ((v.length : Nat) : Int) := by rw [w64 (by omega) (by omega)]; omega
  unfold F150
  rw [e1, e2]
  refine ⟨rfl, u.length + v.length, rot_in (p ++ (v ++ (u ++ q))) (p.length + u.length) _ ?_ _ p u v q (Nat.le_refl _) hu hv rfl rfl hs⟩
  intro P U V Q hF hl hm hs2
  have hs2' : P.length + (U.length + (V.length + Q.length)) ≤ 1152921504606846976 := by have := hs2; unfold small at this; simpa using this
  have em : IntKind.wrap .i64 (((p.length + u.length : Nat) : Int) - ((U.length : Nat) : Int)) = ((P.length : Nat) : Int) := by rw [w64 (by omega) (by omega)]; omega
  rw [em]
  refine ⟨P, U, [], V, Q, ⟨by simp, by simp, by simp⟩, by simpa using hs2, rfl, by simp; omega, rfl, hl.symm, ?_⟩
  have e : P ++ (V ++ ([] ++ (U ++ Q))) = p ++ (v ++ (u ++ q)) := by rw [← hF]; simp
  rw [e]
  exact hk
theorem P150_ok : PrimOk Tryz.prog 150 (p3 rotS) := by
  intro args m K E w cargs hS ha h
  unfold p3 at h
  split at h
  · rename_i a b' c f xs ts ns e b
    split at h
    · rename_i hb
      obtain ⟨rfl, rfl, rfl⟩ := okD_eq hb
      exact cbody_use named C2_ok at150 (l := 2) rfl (WL150_2_ok (LoopsOk.none _ _)) (F150_ok GL150_2 a b' c xs ts ns K) hS ha (h150 h)
    · cases h
  · cases h
end Go.Proofs.YtgflbmcmkjkmmaaGreat.so
