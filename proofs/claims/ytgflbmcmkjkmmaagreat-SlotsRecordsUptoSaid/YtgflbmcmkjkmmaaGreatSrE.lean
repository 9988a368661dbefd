import Derived.Test.YtgflbmcmkjkmmaaGreatSrD
set_option linter.unusedVariables false
set_option linter.unusedSimpArgs false
set_option maxHeartbeats 4000000
set_option maxRecDepth 100000
namespace Go.Proofs.YtgflbmcmkjkmmaaGreat.so
open Go Go.Ab Go.So
namespace r
abbrev YL12_4 : Type := Code → Int → List Int → List Int → List Int → List Int → List Int → List Int → (Prop) → (Prop) → Prop
set_option maxHeartbeats 4000000 in
set_option maxRecDepth 100000 in
def HL12_4  (rec : Int → Prop) (i_5 : Int) (xs_m_0_0 : List Int) (xs_m_0_1 : List Int) (xs_m_0_2 : List Int) (xs_m_1_0 : List Int) (xs_m_1_1 : List Int) (xs_m_1_2 : List Int) (k1 : Prop) (k2 : Prop) : Prop :=
  (bif (decide (i_5 < ((((List.length xs_m_0_0) - (0 : Nat)) : Nat) : Int))) then (bif ((decide ((0 : Int) ≤ i_5)) && (decide (i_5 < ((((List.length xs_m_0_0) - (0 : Nat)) : Nat) : Int)))) then (bif ((decide ((0 : Int) ≤ i_5)) && (decide (i_5 < ((((List.length xs_m_1_0) - (0 : Nat)) : Nat) : Int)))) then (bif ((List.getD xs_m_0_0 (Int.toNat i_5) (0 : Int)) != (List.getD xs_m_1_0 (Int.toNat i_5) (0 : Int))) then (k1) else (bif ((decide ((0 : Int) ≤ i_5)) && (decide (i_5 < ((((List.length xs_m_0_0) - (0 : Nat)) : Nat) : Int)))) then (bif ((decide ((0 : Int) ≤ i_5)) && (decide (i_5 < ((((List.length xs_m_1_0) - (0 : Nat)) : Nat) : Int)))) then (bif ((List.getD xs_m_0_1 (Int.toNat i_5) (0 : Int)) != (List.getD xs_m_1_1 (Int.toNat i_5) (0 : Int))) then (k1) else (bif ((decide ((0 : Int) ≤ i_5)) && (decide (i_5 < ((((List.length xs_m_0_0) - (0 : Nat)) : Nat) : Int)))) then (bif ((decide ((0 : Int) ≤ i_5)) && (decide (i_5 < ((((List.length xs_m_1_0) - (0 : Nat)) : Nat) : Int)))) then (bif ((List.getD xs_m_0_2 (Int.toNat i_5) (0 : Int)) != (List.getD xs_m_1_2 (Int.toNat i_5) (0 : Int))) then (k1) else (rec (IntKind.wrap .i64 (i_5 + (1 : Int))))) else False) else False)) else False) else False)) else False) else False) else (k2))
def RL12_4  : Nat → Int → List Int → List Int → List Int → List Int → List Int → List Int → (Prop) → (Prop) → Prop
  | 0, _, _, _, _, _, _, _, _, _ => False
  | n + 1, i_5, xs_m_0_0, xs_m_0_1, xs_m_0_2, xs_m_1_0, xs_m_1_1, xs_m_1_2, k1, k2 => HL12_4  (fun (i_5 : Int) => RL12_4  n i_5 xs_m_0_0 xs_m_0_1 xs_m_0_2 xs_m_1_0 xs_m_1_1 xs_m_1_2 k1 k2) i_5 xs_m_0_0 xs_m_0_1 xs_m_0_2 xs_m_1_0 xs_m_1_1 xs_m_1_2 k1 k2
noncomputable def XL12_4 : Code := sub [true, true, false, true, false, false] (bodyOf Tryz.prog 12)
theorem HL12_4_ok  (n : Nat) (i_5 : Int) (xs_m_0_0 : List Int) (xs_m_0_1 : List Int) (xs_m_0_2 : List Int) (xs_m_1_0 : List Int) (xs_m_1_1 : List Int) (xs_m_1_2 : List Int) (K : Ex → Env → Mem → Prop) : cround 2 [0, 1, 5] [4] (fun ρ m K => cexec Tryz.prog C0 (fun _ => none) 2 1000 XL12_4 ρ m K) (n + 1) (selE 54 [(0, (.sl 0 (0 : Nat) (none : Option Nat) (none : Option Nat))), (1, (.sl 1 (0 : Nat) (none : Option Nat) (none : Option Nat))), (5, (.I .i64 i_5))]) [⟨[.ints .i64 xs_m_0_0, .ints .i64 xs_m_0_1, .ints .i64 xs_m_0_2], 47, false, false⟩, ⟨[.ints .i64 xs_m_1_0, .ints .i64 xs_m_1_1, .ints .i64 xs_m_1_2], 53, false, false⟩] K =
    HL12_4  (fun (i_5 : Int) => cround 2 [0, 1, 5] [4] (fun ρ m K => cexec Tryz.prog C0 (fun _ => none) 2 1000 XL12_4 ρ m K) n (selE 54 [(0, (.sl 0 (0 : Nat) (none : Option Nat) (none : Option Nat))), (1, (.sl 1 (0 : Nat) (none : Option Nat) (none : Option Nat))), (5, (.I .i64 i_5))]) [⟨[.ints .i64 xs_m_0_0, .ints .i64 xs_m_0_1, .ints .i64 xs_m_0_2], 47, false, false⟩, ⟨[.ints .i64 xs_m_1_0, .ints .i64 xs_m_1_1, .ints .i64 xs_m_1_2], 53, false, false⟩] K) i_5 xs_m_0_0 xs_m_0_1 xs_m_0_2 xs_m_1_0 xs_m_1_1 xs_m_1_2 (K .ret (selE 54 [(4, (.B false))]) [⟨[.ints .i64 xs_m_0_0, .ints .i64 xs_m_0_1, .ints .i64 xs_m_0_2], 47, false, false⟩, ⟨[.ints .i64 xs_m_1_0, .ints .i64 xs_m_1_1, .ints .i64 xs_m_1_2], 53, false, false⟩]) (K (.exit 0) (selE 54 [(4, .undef)]) [⟨[.ints .i64 xs_m_0_0, .ints .i64 xs_m_0_1, .ints .i64 xs_m_0_2], 47, false, false⟩, ⟨[.ints .i64 xs_m_1_0, .ints .i64 xs_m_1_1, .ints .i64 xs_m_1_2], 53, false, false⟩]) := by kernel_rfl
theorem RL12_4_ok  (K : Ex → Env → Mem → Prop) : ∀ (n : Nat) (i_5 : Int) (xs_m_0_0 : List Int) (xs_m_0_1 : List Int) (xs_m_0_2 : List Int) (xs_m_1_0 : List Int) (xs_m_1_1 : List Int) (xs_m_1_2 : List Int), cround 2 [0, 1, 5] [4] (fun ρ m K => cexec Tryz.prog C0 (fun _ => none) 2 1000 XL12_4 ρ m K) n (selE 54 [(0, (.sl 0 (0 : Nat) (none : Option Nat) (none : Option Nat))), (1, (.sl 1 (0 : Nat) (none : Option Nat) (none : Option Nat))), (5, (.I .i64 i_5))]) [⟨[.ints .i64 xs_m_0_0, .ints .i64 xs_m_0_1, .ints .i64 xs_m_0_2], 47, false, false⟩, ⟨[.ints .i64 xs_m_1_0, .ints .i64 xs_m_1_1, .ints .i64 xs_m_1_2], 53, false, false⟩] K = RL12_4  n i_5 xs_m_0_0 xs_m_0_1 xs_m_0_2 xs_m_1_0 xs_m_1_1 xs_m_1_2 (K .ret (selE 54 [(4, (.B false))]) [⟨[.ints .i64 xs_m_0_0, .ints .i64 xs_m_0_1, .ints .i64 xs_m_0_2], 47, false, false⟩, ⟨[.ints .i64 xs_m_1_0, .ints .i64 xs_m_1_1, .ints .i64 xs_m_1_2], 53, false, false⟩]) (K (.exit 0) (selE 54 [(4, .undef)]) [⟨[.ints .i64 xs_m_0_0, .ints .i64 xs_m_0_1, .ints .i64 xs_m_0_2], 47, false, false⟩, ⟨[.ints .i64 xs_m_1_0, .ints .i64 xs_m_1_1, .ints .i64 xs_m_1_2], 53, false, false⟩])
  | 0, i_5, xs_m_0_0, xs_m_0_1, xs_m_0_2, xs_m_1_0, xs_m_1_1, xs_m_1_2 => rfl
  | n + 1, i_5, xs_m_0_0, xs_m_0_1, xs_m_0_2, xs_m_1_0, xs_m_1_1, xs_m_1_2 => by
    have ih := RL12_4_ok  K n
    rw [HL12_4_ok  n i_5 xs_m_0_0 xs_m_0_1 xs_m_0_2 xs_m_1_0 xs_m_1_1 xs_m_1_2 K]
    show HL12_4  _ i_5 xs_m_0_0 xs_m_0_1 xs_m_0_2 xs_m_1_0 xs_m_1_1 xs_m_1_2 (K .ret (selE 54 [(4, (.B false))]) [⟨[.ints .i64 xs_m_0_0, .ints .i64 xs_m_0_1, .ints .i64 xs_m_0_2], 47, false, false⟩, ⟨[.ints .i64 xs_m_1_0, .ints .i64 xs_m_1_1, .ints .i64 xs_m_1_2], 53, false, false⟩]) (K (.exit 0) (selE 54 [(4, .undef)]) [⟨[.ints .i64 xs_m_0_0, .ints .i64 xs_m_0_1, .ints .i64 xs_m_0_2], 47, false, false⟩, ⟨[.ints .i64 xs_m_1_0, .ints .i64 xs_m_1_1, .ints .i64 xs_m_1_2], 53, false, false⟩]) = HL12_4  _ i_5 xs_m_0_0 xs_m_0_1 xs_m_0_2 xs_m_1_0 xs_m_1_1 xs_m_1_2 (K .ret (selE 54 [(4, (.B false))]) [⟨[.ints .i64 xs_m_0_0, .ints .i64 xs_m_0_1, .ints .i64 xs_m_0_2], 47, false, false⟩, ⟨[.ints .i64 xs_m_1_0, .ints .i64 xs_m_1_1, .ints .i64 xs_m_1_2], 53, false, false⟩]) (K (.exit 0) (selE 54 [(4, .undef)]) [⟨[.ints .i64 xs_m_0_0, .ints .i64 xs_m_0_1, .ints .i64 xs_m_0_2], 47, false, false⟩, ⟨[.ints .i64 xs_m_1_0, .ints .i64 xs_m_1_1, .ints .i64 xs_m_1_2], 53, false, false⟩])
    refine congrArg (fun r => HL12_4  r i_5 xs_m_0_0 xs_m_0_1 xs_m_0_2 xs_m_1_0 xs_m_1_1 xs_m_1_2 (K .ret (selE 54 [(4, (.B false))]) [⟨[.ints .i64 xs_m_0_0, .ints .i64 xs_m_0_1, .ints .i64 xs_m_0_2], 47, false, false⟩, ⟨[.ints .i64 xs_m_1_0, .ints .i64 xs_m_1_1, .ints .i64 xs_m_1_2], 53, false, false⟩]) (K (.exit 0) (selE 54 [(4, .undef)]) [⟨[.ints .i64 xs_m_0_0, .ints .i64 xs_m_0_1, .ints .i64 xs_m_0_2], 47, false, false⟩, ⟨[.ints .i64 xs_m_1_0, .ints .i64 xs_m_1_1, .ints .i64 xs_m_1_2], 53, false, false⟩])) ?_
    funext i_5
    exact ih i_5 xs_m_0_0 xs_m_0_1 xs_m_0_2 xs_m_1_0 xs_m_1_1 xs_m_1_2
def GL12_4 : YL12_4 := fun x i_5 xs_m_0_0 xs_m_0_1 xs_m_0_2 xs_m_1_0 xs_m_1_1 xs_m_1_2 k1 k2 => x = XL12_4 ∧ ∃ n, RL12_4  n i_5 xs_m_0_0 xs_m_0_1 xs_m_0_2 xs_m_1_0 xs_m_1_1 xs_m_1_2 k1 k2
def VL12_4 (l : YL12_4) (F : Prop) (x : Code) (ρ : Env) (m : Mem) (K : Ex → Env → Mem → Prop) : Prop :=
  match ρ.has (54 - 1) with
  | true => (seeV (.sl 0 (0 : Nat) (none : Option Nat) (none : Option Nat)) (ρ.get 0) F (seeV (.sl 1 (0 : Nat) (none : Option Nat) (none : Option Nat)) (ρ.get 1) F (seeI .i64 (ρ.get 5) F fun i_5 => (seeCons m F fun a4 q5 => (seeBlk 47 false false a4 F fun cs6 => (seeCons cs6 F fun a7 q8 => (seeInts .i64 a7 F fun xs_m_0_0 => (seeCons q8 F fun a9 q10 => (seeInts .i64 a9 F fun xs_m_0_1 => (seeCons q10 F fun a11 q12 => (seeInts .i64 a11 F fun xs_m_0_2 => (seeNil q12 F (seeCons q5 F fun a13 q14 => (seeBlk 53 false false a13 F fun cs15 => (seeCons cs15 F fun a16 q17 => (seeInts .i64 a16 F fun xs_m_1_0 => (seeCons q17 F fun a18 q19 => (seeInts .i64 a18 F fun xs_m_1_1 => (seeCons q19 F fun a20 q21 => (seeInts .i64 a20 F fun xs_m_1_2 => (seeNil q21 F (seeNil q14 F (l x i_5 xs_m_0_0 xs_m_0_1 xs_m_0_2 xs_m_1_0 xs_m_1_1 xs_m_1_2 (K .ret (selE 54 [(4, (.B false))]) [⟨[.ints .i64 xs_m_0_0, .ints .i64 xs_m_0_1, .ints .i64 xs_m_0_2], 47, false, false⟩, ⟨[.ints .i64 xs_m_1_0, .ints .i64 xs_m_1_1, .ints .i64 xs_m_1_2], 53, false, false⟩]) (K (.exit 0) (selE 54 [(4, .undef)]) [⟨[.ints .i64 xs_m_0_0, .ints .i64 xs_m_0_1, .ints .i64 xs_m_0_2], 47, false, false⟩, ⟨[.ints .i64 xs_m_1_0, .ints .i64 xs_m_1_1, .ints .i64 xs_m_1_2], 53, false, false⟩]))))))))))))))))))))))))
  | false => False
def WL12_4 (l : YL12_4) (W : Masks) : Masks := fun r =>
  match Nat.beq r 4 with
  | true => some fun x ρ m K => VL12_4 l (match W r with | some lf => lf x ρ m K | none => False) x (tidyE 2 [0, 1, 5] ρ m) (tidyM 2 [0, 1, 5] ρ m) K
  | false => W r
set_option maxRecDepth 100000 in
theorem WL12_4_ok {W : Masks} (hW : LoopsOk Tryz.prog 2 W) : LoopsOk Tryz.prog 2 (WL12_4 GL12_4 W) := by
  intro r lf h
  unfold WL12_4 at h
  split at h
  · cases h
    intro x E0 m0 w0 J hS0 ha hJ ρ m K E a w Q hS hρ hd h hQ
    have fb : (match W r with | some lf => lf x ρ m K | none => False) → (Code.loop x).wp Tryz.prog Q a w := fun h => by
      split at h
      · rename_i lf hlf
        exact hW r lf hlf x hS0 ha hJ ρ m K E a w Q hS hρ hd h hQ
      · cases h
    obtain ⟨E2, hS2, hρ2⟩ := tidy_rel hS0 hS hρ [0, 1, 5]
    rw [ha] at hS2 hρ2
    unfold VL12_4 at h
    split at h
    · rename_i hlen
      replace h := seeV_use h
      rcases h with h | ⟨e1, h⟩
      · exact fb h
      replace h := seeV_use h
      rcases h with h | ⟨e2, h⟩
      · exact fb h
      replace h := seeI_use h
      rcases h with h | ⟨i_5, e3, h⟩
      · exact fb h
      replace h := seeCons_use h
      rcases h with h | ⟨a4, q5, eqm, h⟩
      · exact fb h
      replace h := seeBlk_use h
      rcases h with h | ⟨cs6, rfl, h⟩
      · exact fb h
      replace h := seeCons_use h
      rcases h with h | ⟨a7, q8, rfl, h⟩
      · exact fb h
      replace h := seeInts_use h
      rcases h with h | ⟨xs_m_0_0, rfl, h⟩
      · exact fb h
      replace h := seeCons_use h
      rcases h with h | ⟨a9, q10, rfl, h⟩
      · exact fb h
      replace h := seeInts_use h
      rcases h with h | ⟨xs_m_0_1, rfl, h⟩
      · exact fb h
      replace h := seeCons_use h
      rcases h with h | ⟨a11, q12, rfl, h⟩
      · exact fb h
      replace h := seeInts_use h
      rcases h with h | ⟨xs_m_0_2, rfl, h⟩
      · exact fb h
      replace h := seeNil_use h
      rcases h with h | ⟨rfl, h⟩
      · exact fb h
      replace h := seeCons_use h
      rcases h with h | ⟨a13, q14, rfl, h⟩
      · exact fb h
      replace h := seeBlk_use h
      rcases h with h | ⟨cs15, rfl, h⟩
      · exact fb h
      replace h := seeCons_use h
      rcases h with h | ⟨a16, q17, rfl, h⟩
      · exact fb h
      replace h := seeInts_use h
      rcases h with h | ⟨xs_m_1_0, rfl, h⟩
      · exact fb h
      replace h := seeCons_use h
      rcases h with h | ⟨a18, q19, rfl, h⟩
      · exact fb h
      replace h := seeInts_use h
      rcases h with h | ⟨xs_m_1_1, rfl, h⟩
      · exact fb h
      replace h := seeCons_use h
      rcases h with h | ⟨a20, q21, rfl, h⟩
      · exact fb h
      replace h := seeInts_use h
      rcases h with h | ⟨xs_m_1_2, rfl, h⟩
      · exact fb h
      replace h := seeNil_use h
      rcases h with h | ⟨rfl, h⟩
      · exact fb h
      replace h := seeNil_use h
      rcases h with h | ⟨rfl, h⟩
      · exact fb h
      obtain ⟨rfl, n, h⟩ := h
      exact loop_use named C0_ok (LoopsOk.none _ _) (RL12_4_ok  K n _ _ _ _ _ _ _) h hS0 ha hJ hlen ⟨e1, e2, e3, trivial⟩ (eqm ▸ hS2) hρ2 hd hQ
    · cases h
  · exact hW r lf h
theorem at12 : Tryz.prog.funcs[12]? = some (fnOf Tryz.prog 12) := by kernel_rfl
abbrev Y12 : Type := List Int → List Int → List Int → List Int → List Int → List Int → (Prop) → (Prop) → Prop
set_option maxHeartbeats 4000000 in
set_option maxRecDepth 100000 in
def F12  (l12_4 : YL12_4) (xs : List Int) (ts : List Int) (ns : List Int) (ys : List Int) (us : List Int) (vs : List Int) (k1 : Prop) (k2 : Prop) : Prop :=
  (bif (((((List.length xs) - (0 : Nat)) : Nat) : Int) != ((((List.length ys) - (0 : Nat)) : Nat) : Int)) then (k1) else (l12_4 XL12_4 (0 : Int) xs ts ns ys us vs ((k1)) ((k2))))
theorem F12_ok  (l12_4 : YL12_4) (xs : List Int) (ts : List Int) (ns : List Int) (ys : List Int) (us : List Int) (vs : List Int) (K : V → Mem → Prop) : cbody Tryz.prog C0 (WL12_4 l12_4 (fun _ => none)) 1000 (fnOf Tryz.prog 12) [(.sl 0 (0 : Nat) (none : Option Nat) (none : Option Nat)), (.sl 1 (0 : Nat) (none : Option Nat) (none : Option Nat))] [⟨[.ints .i64 xs, .ints .i64 ts, .ints .i64 ns], 47, false, false⟩, ⟨[.ints .i64 ys, .ints .i64 us, .ints .i64 vs], 53, false, false⟩] K =
    F12  l12_4 xs ts ns ys us vs (K (.B false) [⟨[.ints .i64 xs, .ints .i64 ts, .ints .i64 ns], 47, false, false⟩, ⟨[.ints .i64 ys, .ints .i64 us, .ints .i64 vs], 53, false, false⟩]) (K (.B true) [⟨[.ints .i64 xs, .ints .i64 ts, .ints .i64 ns], 47, false, false⟩, ⟨[.ints .i64 ys, .ints .i64 us, .ints .i64 vs], 53, false, false⟩]) := by kernel_rfl
end r
theorem nil12 (K : V → Mem → Prop) : cbody Tryz.prog C0 (fun _ => none) 1000 (fnOf Tryz.prog 12) [.nils, .nils] [] K = K (.B true) [] := by kernel_rfl
theorem nil12b (K : V → Mem → Prop) : cbody Tryz.prog C0 (fun _ => none) 1000 (fnOf Tryz.prog 12) [.nils, .sl 0 0 none none] [⟨[.ints .i64 [], .ints .i64 [], .ints .i64 []], 53, true, false⟩] K = K (.B true) [⟨[.ints .i64 [], .ints .i64 [], .ints .i64 []], 53, true, false⟩] := by kernel_rfl
theorem sam12r (k1 k2 : Prop) : ∀ (T T' A A' : List R), T.length = T'.length → A.length = A'.length → sm (A ++ T).length → (T = T' → k2) → (T ≠ T' → k1) →
    r.RL12_4 (T.length + 1) ((A.length : Nat) : Int) ((A ++ T).map f1) ((A ++ T).map f2) ((A ++ T).map f3) ((A' ++ T').map f1) ((A' ++ T').map f2) ((A' ++ T').map f3) k1 k2
  | [], [], A, A', _, hA, hs, h2, h1 => by
    show r.HL12_4 _ _ _ _ _ _ _ _ _ _
    unfold r.HL12_4
    rw [decide_eq_false (by simp : ¬ ((A.length : Nat) : Int) < (((List.length ((A ++ ([] : List R)).map f1) - (0 : Nat) : Nat)) : Int))]
    exact h2 rfl
  | x :: T, y :: T', A, A', hT, hA, hs, h2, h1 => by
    have hs' : A.length + (T.length + 1) ≤ 1048576 := by have := hs; unfold sm at this; simpa using this
    have ei : IntKind.wrap .i64 (((A.length : Nat) : Int) + 1) = (((A ++ [x]).length : Nat) : Int) := by rw [w64 (by omega) (by omega)]; simp
    show r.HL12_4 _ _ _ _ _ _ _ _ _ _
    unfold r.HL12_4
    rw [decide_eq_true (by simp; omega : ((A.length : Nat) : Int) < (((List.length ((A ++ x :: T).map f1) - (0 : Nat) : Nat)) : Int)), ei]
    simp only [Int.toNat_natCast]
    rw [inb (L := A' ++ y :: T') (by simp; omega), decide_eq_true (Int.natCast_nonneg A.length : (0 : Int) ≤ ((A.length : Nat) : Int)), getD_at f1, getD_at f2, getD_at f3, gI (f := f1) (L := A' ++ y :: T') rfl hA, gI (f := f2) (L := A' ++ y :: T') rfl hA, gI (f := f3) (L := A' ++ y :: T') rfl hA]
    simp only [cond_true, Bool.and_self]
    by_cases hxy : x = y
    · subst hxy
      simp only [bne_self_eq_false, cond_false]
      have ih := sam12r k1 k2 T T' (A ++ [x]) (A' ++ [x]) (by simpa using hT) (by simpa using hA) (by unfold sm; simp; omega) (fun h => h2 (by rw [h])) (fun h => h1 (by simpa using h))
      have e1 : A ++ x :: T = A ++ [x] ++ T := by simp
      have e2 : A' ++ x :: T' = A' ++ [x] ++ T' := by simp
      rw [e1, e2]
      exact ih
    · have k := h1 (by intro h; exact hxy (List.cons.inj h).1)
      rw [r_eq] at hxy
      by_cases q1 : f1 x = f1 y
      · rw [(by simpa using q1 : (f1 x != f1 y) = false)]
        simp only [cond_false]
        by_cases q2 : f2 x = f2 y
        · rw [(by simpa using q2 : (f2 x != f2 y) = false)]
          simp only [cond_false]
          rw [(by simpa using fun q3 => hxy ⟨q1, q2, q3⟩ : (f3 x != f3 y) = true)]
          exact k
        · rw [(by simpa using q2 : (f2 x != f2 y) = true)]
          exact k
      · rw [(by simpa using q1 : (f1 x != f1 y) = true)]
        exact k
theorem h12r {xs ts ns ys us vs : List Int} {k : Bool → Prop} (h : samS xs ts ns ys us vs k) : r.F12 r.GL12_4 xs ts ns ys us vs (k false) (k true) := by
  obtain ⟨ra, rb, ⟨rfl, rfl, rfl⟩, ⟨rfl, rfl, rfl⟩, ha, hb, hk⟩ := h
  unfold r.F12
  by_cases hl : ra.length = rb.length
  · rw [(by simp; omega : ((((List.length (ra.map f1) - (0 : Nat) : Nat)) : Int) != (((List.length (rb.map f1) - (0 : Nat) : Nat)) : Int)) = false)]
    exact ⟨rfl, ra.length + 1, sam12r _ _ ra rb [] [] hl rfl (by simpa using ha) (fun h => by rw [decide_eq_true h] at hk; exact hk) (fun h => by rw [decide_eq_false h] at hk; exact hk)⟩
  · rw [(by simp; omega : ((((List.length (ra.map f1) - (0 : Nat) : Nat)) : Int) != (((List.length (rb.map f1) - (0 : Nat) : Nat)) : Int)) = true)]
    rw [decide_eq_false (by intro h; exact hl (by rw [h]))] at hk
    exact hk
def P12b : Prim := fun args m K =>
  match args, m with
  | [.nils, .nils], [] => K (.B true) []
  | [.nils, .sl 0 0 none none], [⟨[.ints .i64 [], .ints .i64 [], .ints .i64 []], e, true, false⟩] => (match Nat.beq e 53 with | true => K (.B true) [⟨[.ints .i64 [], .ints .i64 [], .ints .i64 []], 53, true, false⟩] | false => False)
  | [.sl 0 0 none none, .sl 1 0 none none], [⟨[.ints .i64 xs, .ints .i64 ts, .ints .i64 ns], e, false, false⟩, ⟨[.ints .i64 ys, .ints .i64 us, .ints .i64 vs], e', ro, false⟩] =>
    (match Nat.beq e 47 && Nat.beq e' 53 with | true => samS xs ts ns ys us vs (fun b => K (.B b) [⟨[.ints .i64 xs, .ints .i64 ts, .ints .i64 ns], 47, false, false⟩, ⟨[.ints .i64 ys, .ints .i64 us, .ints .i64 vs], 53, ro, false⟩]) | false => False)
  | _, _ => False
theorem P12b_ok : PrimOk Tryz.prog 12 P12b := by
  intro args m K E w cargs hS ha h
  unfold P12b at h
  split at h
  · exact cbody_use named C0_ok at12 (l := 0) rfl (LoopsOk.none _ _) (nil12 K) hS ha h
  · rename_i e
    split at h
    · rename_i he
      obtain rfl := Nat.eq_of_beq_eq_true he
      exact cbody_use named C0_ok at12 (l := 1) rfl (LoopsOk.none _ _) (nil12b K) hS ha h
    · cases h
  · rename_i xs ts ns e ys us vs e' ro
    split at h
    · rename_i he
      simp only [Bool.and_eq_true] at he
      obtain rfl := Nat.eq_of_beq_eq_true he.1
      obtain rfl := Nat.eq_of_beq_eq_true he.2
      cases ro with
      | true => exact cbody_use named C5_ok at12 (l := 2) rfl (WL12_4_ok (LoopsOk.none _ _)) (F12_ok GL12_4 xs ts ns ys us vs K) hS ha (h12 h)
      | false => exact cbody_use named C0_ok at12 (l := 2) rfl (r.WL12_4_ok (LoopsOk.none _ _)) (r.F12_ok r.GL12_4 xs ts ns ys us vs K) hS ha (h12r h)
    · cases h
  · cases h
def primsF : Prims := fun f =>
  match Nat.beq f 10 with
  | true => some P10b
  | false =>
  match Nat.beq f 11 with
  | true => some P11b
  | false =>
  match Nat.beq f 12 with
  | true => some P12b
  | false =>
  match Nat.beq f 14 with
  | true => some stP
  | false =>
  match Nat.beq f 15 with
  | true => some stP
  | false =>
  match Nat.beq f 16 with
  | true => some P16b
  | false =>
  match Nat.beq f 17 with
  | true => some P17b
  | false =>
  match Nat.beq f 18 with
  | true => some P18
  | false => prims1 f
theorem primsF_ok : PrimsOk Tryz.prog primsF := by
  intro f g hg
  unfold primsF at hg
  split at hg
  · rename_i hf
    obtain rfl := Nat.eq_of_beq_eq_true hf
    cases hg
    exact P10b_ok
  · skip
    split at hg
    · rename_i hf
      obtain rfl := Nat.eq_of_beq_eq_true hf
      cases hg
      exact P11b_ok
    · skip
      split at hg
      · rename_i hf
        obtain rfl := Nat.eq_of_beq_eq_true hf
        cases hg
        exact P12b_ok
      · skip
        split at hg
        · rename_i hf
          obtain rfl := Nat.eq_of_beq_eq_true hf
          cases hg
          exact P14_ok
        · skip
          split at hg
          · rename_i hf
            obtain rfl := Nat.eq_of_beq_eq_true hf
            cases hg
            exact P15_ok
          · skip
            split at hg
            · rename_i hf
              obtain rfl := Nat.eq_of_beq_eq_true hf
              cases hg
              exact P16b_ok
            · skip
              split at hg
              · rename_i hf
                obtain rfl := Nat.eq_of_beq_eq_true hf
                cases hg
                exact P17b_ok
              · skip
                split at hg
                · rename_i hf
                  obtain rfl := Nat.eq_of_beq_eq_true hf
                  cases hg
                  exact P18_ok
                · skip
                  exact prims1_ok f g hg
def CF : CC := call Tryz.prog primsF 1000
theorem CF_ok : CallsOk Tryz.prog CF := call_sound named primsF_ok 1000
def primsE : Prims := fun f =>
  match Nat.beq f 5 with
  | true => some P5
  | false =>
  match Nat.beq f 6 with
  | true => some P6
  | false =>
  match Nat.beq f 7 with
  | true => some P7
  | false =>
  match Nat.beq f 8 with
  | true => some P8b
  | false =>
  match Nat.beq f 9 with
  | true => some P9b
  | false => primsF f
theorem primsE_ok : PrimsOk Tryz.prog primsE := by
  intro f g hg
  unfold primsE at hg
  split at hg
  · rename_i hf
    obtain rfl := Nat.eq_of_beq_eq_true hf
    cases hg
    exact P5_ok
  · skip
    split at hg
    · rename_i hf
      obtain rfl := Nat.eq_of_beq_eq_true hf
      cases hg
      exact P6_ok
    · skip
      split at hg
      · rename_i hf
        obtain rfl := Nat.eq_of_beq_eq_true hf
        cases hg
        exact P7_ok
      · skip
        split at hg
        · rename_i hf
          obtain rfl := Nat.eq_of_beq_eq_true hf
          cases hg
          exact P8b_ok
        · skip
          split at hg
          · rename_i hf
            obtain rfl := Nat.eq_of_beq_eq_true hf
            cases hg
            exact P9b_ok
          · skip
            exact primsF_ok f g hg
def CE : CC := call Tryz.prog primsE 1000
theorem CE_ok : CallsOk Tryz.prog CE := call_sound named primsE_ok 1000
end Go.Proofs.YtgflbmcmkjkmmaaGreat.so
