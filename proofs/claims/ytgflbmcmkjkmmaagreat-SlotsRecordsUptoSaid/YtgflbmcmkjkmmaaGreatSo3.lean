import Derived.Test.YtgflbmcmkjkmmaaGreatSo2
set_option linter.unusedVariables false
set_option linter.unusedSimpArgs false
set_option maxHeartbeats 4000000
set_option maxRecDepth 100000
namespace Go.Proofs.YtgflbmcmkjkmmaaGreat.so
open Go Go.Ab Go.So
abbrev YL100_3 : Type := Code → Int → Int → Int → List Int → List Int → List Int → (Int → Prop) → Prop
set_option maxHeartbeats 4000000 in
set_option maxRecDepth 100000 in
def HL100_3  (rec : Int → Int → Prop) (i_1 : Int) (i_10 : Int) (i_11 : Int) (xs_m_0_0 : List Int) (xs_m_0_1 : List Int) (xs_m_0_2 : List Int) (k1 : Int → Prop) : Prop :=
  (bif (decide (i_10 < i_11)) then (bif ((decide ((0 : Int) ≤ (IntKind.wrap .i64 (Int.fdiv (IntKind.wrap .u64 (IntKind.wrap .i64 (i_10 + i_11))) (2 ^ 1))))) && (decide ((IntKind.wrap .i64 (Int.fdiv (IntKind.wrap .u64 (IntKind.wrap .i64 (i_10 + i_11))) (2 ^ 1))) < ((((List.length xs_m_0_0) - (0 : Nat)) : Nat) : Int)))) then (bif ((decide ((0 : Int) ≤ i_1)) && (decide (i_1 < ((((List.length xs_m_0_0) - (0 : Nat)) : Nat) : Int)))) then (bif (decide ((cmpF (List.getD xs_m_0_0 (Int.toNat (IntKind.wrap .i64 (Int.fdiv (IntKind.wrap .u64 (IntKind.wrap .i64 (i_10 + i_11))) (2 ^ 1)))) (0 : Int)) (List.getD xs_m_0_1 (Int.toNat (IntKind.wrap .i64 (Int.fdiv (IntKind.wrap .u64 (IntKind.wrap .i64 (i_10 + i_11))) (2 ^ 1)))) (0 : Int)) (List.getD xs_m_0_0 (Int.toNat i_1) (0 : Int)) (List.getD xs_m_0_1 (Int.toNat i_1) (0 : Int))) < (0 : Int))) then (rec (IntKind.wrap .i64 ((IntKind.wrap .i64 (Int.fdiv (IntKind.wrap .u64 (IntKind.wrap .i64 (i_10 + i_11))) (2 ^ 1))) + (1 : Int))) i_11) else (rec i_10 (IntKind.wrap .i64 (Int.fdiv (IntKind.wrap .u64 (IntKind.wrap .i64 (i_10 + i_11))) (2 ^ 1))))) else False) else False) else (k1 i_10))
def RL100_3  : Nat → Int → Int → Int → List Int → List Int → List Int → (Int → Prop) → Prop
  | 0, _, _, _, _, _, _, _ => False
  | n + 1, i_1, i_10, i_11, xs_m_0_0, xs_m_0_1, xs_m_0_2, k1 => HL100_3  (fun (i_10 : Int) (i_11 : Int) => RL100_3  n i_1 i_10 i_11 xs_m_0_0 xs_m_0_1 xs_m_0_2 k1) i_1 i_10 i_11 xs_m_0_0 xs_m_0_1 xs_m_0_2 k1
noncomputable def XL100_3 : Code := sub [false, true, false, true, true, false, false, false] (bodyOf Tryz.prog 100)
theorem HL100_3_ok  (n : Nat) (i_1 : Int) (i_10 : Int) (i_11 : Int) (xs_m_0_0 : List Int) (xs_m_0_1 : List Int) (xs_m_0_2 : List Int) (K : Ex → Env → Mem → Prop) : cround 2 [0, 1, 4, 10, 11] [0, 1, 10] (fun ρ m K => cexec Tryz.prog C1 (fun _ => none) 2 1000 XL100_3 ρ m K) (n + 1) (selE 220 [(0, (.sl 0 (0 : Nat) (none : Option Nat) (none : Option Nat))), (1, (.I .i64 i_1)), (4, (.fn (.func 23) [] [(.ptr 1 (0 : Nat) 0)])), (10, (.I .i64 i_10)), (11, (.I .i64 i_11))]) [⟨[.ints .i64 xs_m_0_0, .ints .i64 xs_m_0_1, .ints .i64 xs_m_0_2], 47, false, false⟩, ⟨[.vals [(.fn (.func 21) [] [])]], 54, false, false⟩] K =
    HL100_3  (fun (i_10 : Int) (i_11 : Int) => cround 2 [0, 1, 4, 10, 11] [0, 1, 10] (fun ρ m K => cexec Tryz.prog C1 (fun _ => none) 2 1000 XL100_3 ρ m K) n (selE 220 [(0, (.sl 0 (0 : Nat) (none : Option Nat) (none : Option Nat))), (1, (.I .i64 i_1)), (4, (.fn (.func 23) [] [(.ptr 1 (0 : Nat) 0)])), (10, (.I .i64 i_10)), (11, (.I .i64 i_11))]) [⟨[.ints .i64 xs_m_0_0, .ints .i64 xs_m_0_1, .ints .i64 xs_m_0_2], 47, false, false⟩, ⟨[.vals [(.fn (.func 21) [] [])]], 54, false, false⟩] K) i_1 i_10 i_11 xs_m_0_0 xs_m_0_1 xs_m_0_2 (fun (u0 : Int) => K (.exit 0) (selE 220 [(0, (.sl 0 (0 : Nat) (none : Option Nat) (none : Option Nat))), (1, (.I .i64 i_1)), (10, (.I .i64 u0))]) [⟨[.ints .i64 xs_m_0_0, .ints .i64 xs_m_0_1, .ints .i64 xs_m_0_2], 47, false, false⟩, ⟨[.vals [(.fn (.func 21) [] [])]], 54, false, false⟩]) := by kernel_rfl
theorem RL100_3_ok  (K : Ex → Env → Mem → Prop) : ∀ (n : Nat) (i_1 : Int) (i_10 : Int) (i_11 : Int) (xs_m_0_0 : List Int) (xs_m_0_1 : List Int) (xs_m_0_2 : List Int), cround 2 [0, 1, 4, 10, 11] [0, 1, 10] (fun ρ m K => cexec Tryz.prog C1 (fun _ => none) 2 1000 XL100_3 ρ m K) n (selE 220 [(0, (.sl 0 (0 : Nat) (none : Option Nat) (none : Option Nat))), (1, (.I .i64 i_1)), (4, (.fn (.func 23) [] [(.ptr 1 (0 : Nat) 0)])), (10, (.I .i64 i_10)), (11, (.I .i64 i_11))]) [⟨[.ints .i64 xs_m_0_0, .ints .i64 xs_m_0_1, .ints .i64 xs_m_0_2], 47, false, false⟩, ⟨[.vals [(.fn (.func 21) [] [])]], 54, false, false⟩] K = RL100_3  n i_1 i_10 i_11 xs_m_0_0 xs_m_0_1 xs_m_0_2 (fun (u0 : Int) => K (.exit 0) (selE 220 [(0, (.sl 0 (0 : Nat) (none : Option Nat) (none : Option Nat))), (1, (.I .i64 i_1)), (10, (.I .i64 u0))]) [⟨[.ints .i64 xs_m_0_0, .ints .i64 xs_m_0_1, .ints .i64 xs_m_0_2], 47, false, false⟩, ⟨[.vals [(.fn (.func 21) [] [])]], 54, false, false⟩])
  | 0, i_1, i_10, i_11, xs_m_0_0, xs_m_0_1, xs_m_0_2 => rfl
  | n + 1, i_1, i_10, i_11, xs_m_0_0, xs_m_0_1, xs_m_0_2 => by
    have ih := RL100_3_ok  K n
    rw [HL100_3_ok  n i_1 i_10 i_11 xs_m_0_0 xs_m_0_1 xs_m_0_2 K]
    show HL100_3  _ i_1 i_10 i_11 xs_m_0_0 xs_m_0_1 xs_m_0_2 (fun (u0 : Int) => K (.exit 0) (selE 220 [(0, (.sl 0 (0 : Nat) (none : Option Nat) (none : Option Nat))), (1, (.I .i64 i_1)), (10, (.I .i64 u0))]) [⟨[.ints .i64 xs_m_0_0, .ints .i64 xs_m_0_1, .ints .i64 xs_m_0_2], 47, false, false⟩, ⟨[.vals [(.fn (.func 21) [] [])]], 54, false, false⟩]) = HL100_3  _ i_1 i_10 i_11 xs_m_0_0 xs_m_0_1 xs_m_0_2 (fun (u0 : Int) => K (.exit 0) (selE 220 [(0, (.sl 0 (0 : Nat) (none : Option Nat) (none : Option Nat))), (1, (.I .i64 i_1)), (10, (.I .i64 u0))]) [⟨[.ints .i64 xs_m_0_0, .ints .i64 xs_m_0_1, .ints .i64 xs_m_0_2], 47, false, false⟩, ⟨[.vals [(.fn (.func 21) [] [])]], 54, false, false⟩])
    refine congrArg (fun r => HL100_3  r i_1 i_10 i_11 xs_m_0_0 xs_m_0_1 xs_m_0_2 (fun (u0 : Int) => K (.exit 0) (selE 220 [(0, (.sl 0 (0 : Nat) (none : Option Nat) (none : Option Nat))), (1, (.I .i64 i_1)), (10, (.I .i64 u0))]) [⟨[.ints .i64 xs_m_0_0, .ints .i64 xs_m_0_1, .ints .i64 xs_m_0_2], 47, false, false⟩, ⟨[.vals [(.fn (.func 21) [] [])]], 54, false, false⟩])) ?_
    funext i_10 i_11
    exact ih i_1 i_10 i_11 xs_m_0_0 xs_m_0_1 xs_m_0_2
def GL100_3 : YL100_3 := fun x i_1 i_10 i_11 xs_m_0_0 xs_m_0_1 xs_m_0_2 k1 => x = XL100_3 ∧ ∃ n, RL100_3  n i_1 i_10 i_11 xs_m_0_0 xs_m_0_1 xs_m_0_2 k1
def VL100_3 (l : YL100_3) (F : Prop) (x : Code) (ρ : Env) (m : Mem) (K : Ex → Env → Mem → Prop) : Prop :=
  match ρ.has (220 - 1) with
  | true => (seeV (.sl 0 (0 : Nat) (none : Option Nat) (none : Option Nat)) (ρ.get 0) F (seeI .i64 (ρ.get 1) F fun i_1 => (seeV (.fn (.func 23) [] [(.ptr 1 (0 : Nat) 0)]) (ρ.get 4) F (seeI .i64 (ρ.get 10) F fun i_10 => (seeI .i64 (ρ.get 11) F fun i_11 => (seeCons m F fun a6 q7 => (seeBlk 47 false false a6 F fun cs8 => (seeCons cs8 F fun a9 q10 => (seeInts .i64 a9 F fun xs_m_0_0 => (seeCons q10 F fun a11 q12 => (seeInts .i64 a11 F fun xs_m_0_1 => (seeCons q12 F fun a13 q14 => (seeInts .i64 a13 F fun xs_m_0_2 => (seeNil q14 F (seeCons q7 F fun a15 q16 => (seeBlk 54 false false a15 F fun cs17 => (seeCons cs17 F fun a18 q19 => (seeVals a18 F fun xs20 => (seeCons xs20 F fun a21 q22 => (seeV (.fn (.func 21) [] []) a21 F (seeNil q22 F (seeNil q19 F (seeNil q16 F (l x i_1 i_10 i_11 xs_m_0_0 xs_m_0_1 xs_m_0_2 (fun (u0 : Int) => K (.exit 0) (selE 220 [(0, (.sl 0 (0 : Nat) (none : Option Nat) (none : Option Nat))), (1, (.I .i64 i_1)), (10, (.I .i64 u0))]) [⟨[.ints .i64 xs_m_0_0, .ints .i64 xs_m_0_1, .ints .i64 xs_m_0_2], 47, false, false⟩, ⟨[.vals [(.fn (.func 21) [] [])]], 54, false, false⟩])))))))))))))))))))))))))
  | false => False
def WL100_3 (l : YL100_3) (W : Masks) : Masks := fun r =>
  match Nat.beq r 3 with
  | true => some fun x ρ m K => VL100_3 l (match W r with | some lf => lf x ρ m K | none => False) x (tidyE 2 [0, 1, 4, 10, 11] ρ m) (tidyM 2 [0, 1, 4, 10, 11] ρ m) K
  | false => W r
set_option maxRecDepth 100000 in
theorem WL100_3_ok {W : Masks} (hW : LoopsOk Tryz.prog 2 W) : LoopsOk Tryz.prog 2 (WL100_3 GL100_3 W) := by
  intro r lf h
  unfold WL100_3 at h
  split at h
  · cases h
    intro x E0 m0 w0 J hS0 ha hJ ρ m K E a w Q hS hρ hd h hQ
    have fb : (match W r with | some lf => lf x ρ m K | none => False) → (Code.loop x).wp Tryz.prog Q a w := fun h => by
      split at h
      · rename_i lf hlf
        exact hW r lf hlf x hS0 ha hJ ρ m K E a w Q hS hρ hd h hQ
      · cases h
    obtain ⟨E2, hS2, hρ2⟩ := tidy_rel hS0 hS hρ [0, 1, 4, 10, 11]
    rw [ha] at hS2 hρ2
    unfold VL100_3 at h
    split at h
    · rename_i hlen
      replace h := seeV_use h
      rcases h with h | ⟨e1, h⟩
      · exact fb h
      replace h := seeI_use h
      rcases h with h | ⟨i_1, e2, h⟩
      · exact fb h
      replace h := seeV_use h
      rcases h with h | ⟨e3, h⟩
      · exact fb h
      replace h := seeI_use h
      rcases h with h | ⟨i_10, e4, h⟩
      · exact fb h
      replace h := seeI_use h
      rcases h with h | ⟨i_11, e5, h⟩
      · exact fb h
      replace h := seeCons_use h
      rcases h with h | ⟨a6, q7, eqm, h⟩
      · exact fb h
      replace h := seeBlk_use h
      rcases h with h | ⟨cs8, rfl, h⟩
      · exact fb h
      replace h := seeCons_use h
      rcases h with h | ⟨a9, q10, rfl, h⟩
      · exact fb h
      replace h := seeInts_use h
      rcases h with h | ⟨xs_m_0_0, rfl, h⟩
      · exact fb h
      replace h := seeCons_use h
      rcases h with h | ⟨a11, q12, rfl, h⟩
      · exact fb h
      replace h := seeInts_use h
      rcases h with h | ⟨xs_m_0_1, rfl, h⟩
      · exact fb h
      replace h := seeCons_use h
      rcases h with h | ⟨a13, q14, rfl, h⟩
      · exact fb h
      replace h := seeInts_use h
      rcases h with h | ⟨xs_m_0_2, rfl, h⟩
      · exact fb h
      replace h := seeNil_use h
      rcases h with h | ⟨rfl, h⟩
      · exact fb h
      replace h := seeCons_use h
      rcases h with h | ⟨a15, q16, rfl, h⟩
      · exact fb h
      replace h := seeBlk_use h
      rcases h with h | ⟨cs17, rfl, h⟩
      · exact fb h
      replace h := seeCons_use h
      rcases h with h | ⟨a18, q19, rfl, h⟩
      · exact fb h
      replace h := seeVals_use h
      rcases h with h | ⟨xs20, rfl, h⟩
      · exact fb h
      replace h := seeCons_use h
      rcases h with h | ⟨a21, q22, rfl, h⟩
      · exact fb h
      replace h := seeV_use h
      rcases h with h | ⟨rfl, h⟩
      · exact fb h
      replace h := seeNil_use h
      rcases h with h | ⟨rfl, h⟩
      · exact fb h
      replace h := seeNil_use h
      rcases h with h | ⟨rfl, h⟩
      · exact fb h
      replace h := seeNil_use h
      rcases h with h | ⟨rfl, h⟩
      · exact fb h
      obtain ⟨rfl, n, h⟩ := h
      exact loop_use named C1_ok (LoopsOk.none _ _) (RL100_3_ok  K n _ _ _ _ _ _) h hS0 ha hJ hlen ⟨e1, e2, e3, e4, e5, trivial⟩ (eqm ▸ hS2) hρ2 hd hQ
    · cases h
  · exact hW r lf h
abbrev YL100_9 : Type := Code → Int → Int → List Int → List Int → List Int → (List Int → List Int → List Int → Prop) → Prop
set_option maxHeartbeats 4000000 in
set_option maxRecDepth 100000 in
def HL100_9  (rec : Int → List Int → List Int → List Int → Prop) (i_10 : Int) (i_13 : Int) (xs_m_0_0 : List Int) (xs_m_0_1 : List Int) (xs_m_0_2 : List Int) (k1 : List Int → List Int → List Int → Prop) : Prop :=
  (bif (decide (i_13 < (IntKind.wrap .i64 (i_10 - (1 : Int))))) then (bif ((decide ((0 : Int) ≤ (IntKind.wrap .i64 (i_13 + (1 : Int))))) && (decide ((IntKind.wrap .i64 (i_13 + (1 : Int))) < ((((List.length xs_m_0_0) - (0 : Nat)) : Nat) : Int)))) then (bif ((decide ((0 : Int) ≤ i_13)) && (decide (i_13 < ((((List.length xs_m_0_0) - (0 : Nat)) : Nat) : Int)))) then (bif ((decide ((0 : Int) ≤ i_13)) && (decide (i_13 < ((((List.length xs_m_0_0) - (0 : Nat)) : Nat) : Int)))) then (bif (((IntKind.wrap .i64 (i_13 + (1 : Int))) == (IntKind.wrap .i64 (i_13 + (1 : Int)))) && ((i_13 == i_13) && true)) then (bif ((decide ((0 : Int) ≤ (IntKind.wrap .i64 (i_13 + (1 : Int))))) && (decide ((IntKind.wrap .i64 (i_13 + (1 : Int))) < ((((List.length (List.set xs_m_0_0 (Int.toNat i_13) (List.getD xs_m_0_0 (Int.toNat (IntKind.wrap .i64 (i_13 + (1 : Int)))) (0 : Int)))) - (0 : Nat)) : Nat) : Int)))) then (rec (IntKind.wrap .i64 (i_13 + (1 : Int))) (List.set (List.set xs_m_0_0 (Int.toNat i_13) (List.getD xs_m_0_0 (Int.toNat (IntKind.wrap .i64 (i_13 + (1 : Int)))) (0 : Int))) (Int.toNat (IntKind.wrap .i64 (i_13 + (1 : Int)))) (List.getD xs_m_0_0 (Int.toNat i_13) (0 : Int))) (List.set (List.set xs_m_0_1 (Int.toNat i_13) (List.getD xs_m_0_1 (Int.toNat (IntKind.wrap .i64 (i_13 + (1 : Int)))) (0 : Int))) (Int.toNat (IntKind.wrap .i64 (i_13 + (1 : Int)))) (List.getD xs_m_0_1 (Int.toNat i_13) (0 : Int))) (List.set (List.set xs_m_0_2 (Int.toNat i_13) (List.getD xs_m_0_2 (Int.toNat (IntKind.wrap .i64 (i_13 + (1 : Int)))) (0 : Int))) (Int.toNat (IntKind.wrap .i64 (i_13 + (1 : Int)))) (List.getD xs_m_0_2 (Int.toNat i_13) (0 : Int)))) else False) else False) else False) else False) else False) else (k1 xs_m_0_0 xs_m_0_1 xs_m_0_2))
def RL100_9  : Nat → Int → Int → List Int → List Int → List Int → (List Int → List Int → List Int → Prop) → Prop
  | 0, _, _, _, _, _, _ => False
  | n + 1, i_10, i_13, xs_m_0_0, xs_m_0_1, xs_m_0_2, k1 => HL100_9  (fun (i_13 : Int) (xs_m_0_0 : List Int) (xs_m_0_1 : List Int) (xs_m_0_2 : List Int) => RL100_9  n i_10 i_13 xs_m_0_0 xs_m_0_1 xs_m_0_2 k1) i_10 i_13 xs_m_0_0 xs_m_0_1 xs_m_0_2 k1
noncomputable def XL100_9 : Code := sub [false, true, false, true, true, true, false, true, false, false] (bodyOf Tryz.prog 100)
theorem HL100_9_ok  (n : Nat) (i_10 : Int) (i_13 : Int) (xs_m_0_0 : List Int) (xs_m_0_1 : List Int) (xs_m_0_2 : List Int) (K : Ex → Env → Mem → Prop) : cround 2 [0, 10, 13] [] (fun ρ m K => cexec Tryz.prog C1 (fun _ => none) 2 1000 XL100_9 ρ m K) (n + 1) (selE 220 [(0, (.sl 0 (0 : Nat) (none : Option Nat) (none : Option Nat))), (10, (.I .i64 i_10)), (13, (.I .i64 i_13))]) [⟨[.ints .i64 xs_m_0_0, .ints .i64 xs_m_0_1, .ints .i64 xs_m_0_2], 47, false, false⟩, ⟨[.vals [(.fn (.func 21) [] [])]], 54, false, false⟩] K =
    HL100_9  (fun (i_13 : Int) (xs_m_0_0 : List Int) (xs_m_0_1 : List Int) (xs_m_0_2 : List Int) => cround 2 [0, 10, 13] [] (fun ρ m K => cexec Tryz.prog C1 (fun _ => none) 2 1000 XL100_9 ρ m K) n (selE 220 [(0, (.sl 0 (0 : Nat) (none : Option Nat) (none : Option Nat))), (10, (.I .i64 i_10)), (13, (.I .i64 i_13))]) [⟨[.ints .i64 xs_m_0_0, .ints .i64 xs_m_0_1, .ints .i64 xs_m_0_2], 47, false, false⟩, ⟨[.vals [(.fn (.func 21) [] [])]], 54, false, false⟩] K) i_10 i_13 xs_m_0_0 xs_m_0_1 xs_m_0_2 (fun (u0 : List Int) (u1 : List Int) (u2 : List Int) => K (.exit 2) (selE 220 []) [⟨[.ints .i64 u0, .ints .i64 u1, .ints .i64 u2], 47, false, false⟩, ⟨[.vals [(.fn (.func 21) [] [])]], 54, false, false⟩]) := by kernel_rfl
theorem RL100_9_ok  (K : Ex → Env → Mem → Prop) : ∀ (n : Nat) (i_10 : Int) (i_13 : Int) (xs_m_0_0 : List Int) (xs_m_0_1 : List Int) (xs_m_0_2 : List Int), cround 2 [0, 10, 13] [] (fun ρ m K => cexec Tryz.prog C1 (fun _ => none) 2 1000 XL100_9 ρ m K) n (selE 220 [(0, (.sl 0 (0 : Nat) (none : Option Nat) (none : Option Nat))), (10, (.I .i64 i_10)), (13, (.I .i64 i_13))]) [⟨[.ints .i64 xs_m_0_0, .ints .i64 xs_m_0_1, .ints .i64 xs_m_0_2], 47, false, false⟩, ⟨[.vals [(.fn (.func 21) [] [])]], 54, false, false⟩] K = RL100_9  n i_10 i_13 xs_m_0_0 xs_m_0_1 xs_m_0_2 (fun (u0 : List Int) (u1 : List Int) (u2 : List Int) => K (.exit 2) (selE 220 []) [⟨[.ints .i64 u0, .ints .i64 u1, .ints .i64 u2], 47, false, false⟩, ⟨[.vals [(.fn (.func 21) [] [])]], 54, false, false⟩])
  | 0, i_10, i_13, xs_m_0_0, xs_m_0_1, xs_m_0_2 => rfl
  | n + 1, i_10, i_13, xs_m_0_0, xs_m_0_1, xs_m_0_2 => by
    have ih := RL100_9_ok  K n
    rw [HL100_9_ok  n i_10 i_13 xs_m_0_0 xs_m_0_1 xs_m_0_2 K]
    show HL100_9  _ i_10 i_13 xs_m_0_0 xs_m_0_1 xs_m_0_2 (fun (u0 : List Int) (u1 : List Int) (u2 : List Int) => K (.exit 2) (selE 220 []) [⟨[.ints .i64 u0, .ints .i64 u1, .ints .i64 u2], 47, false, false⟩, ⟨[.vals [(.fn (.func 21) [] [])]], 54, false, false⟩]) = HL100_9  _ i_10 i_13 xs_m_0_0 xs_m_0_1 xs_m_0_2 (fun (u0 : List Int) (u1 : List Int) (u2 : List Int) => K (.exit 2) (selE 220 []) [⟨[.ints .i64 u0, .ints .i64 u1, .ints .i64 u2], 47, false, false⟩, ⟨[.vals [(.fn (.func 21) [] [])]], 54, false, false⟩])
    refine congrArg (fun r => HL100_9  r i_10 i_13 xs_m_0_0 xs_m_0_1 xs_m_0_2 (fun (u0 : List Int) (u1 : List Int) (u2 : List Int) => K (.exit 2) (selE 220 []) [⟨[.ints .i64 u0, .ints .i64 u1, .ints .i64 u2], 47, false, false⟩, ⟨[.vals [(.fn (.func 21) [] [])]], 54, false, false⟩])) ?_
    funext i_13 xs_m_0_0 xs_m_0_1 xs_m_0_2
    exact ih i_10 i_13 xs_m_0_0 xs_m_0_1 xs_m_0_2
def GL100_9 : YL100_9 := fun x i_10 i_13 xs_m_0_0 xs_m_0_1 xs_m_0_2 k1 => x = XL100_9 ∧ ∃ n, RL100_9  n i_10 i_13 xs_m_0_0 xs_m_0_1 xs_m_0_2 k1
def VL100_9 (l : YL100_9) (F : Prop) (x : Code) (ρ : Env) (m : Mem) (K : Ex → Env → Mem → Prop) : Prop :=
  match ρ.has (220 - 1) with
  | true => (seeV (.sl 0 (0 : Nat) (none : Option Nat) (none : Option Nat)) (ρ.get 0) F (seeI .i64 (ρ.get 10) F fun i_10 => (seeI .i64 (ρ.get 13) F fun i_13 => (seeCons m F fun a4 q5 => (seeBlk 47 false false a4 F fun cs6 => (seeCons cs6 F fun a7 q8 => (seeInts .i64 a7 F fun xs_m_0_0 => (seeCons q8 F fun a9 q10 => (seeInts .i64 a9 F fun xs_m_0_1 => (seeCons q10 F fun a11 q12 => (seeInts .i64 a11 F fun xs_m_0_2 => (seeNil q12 F (seeCons q5 F fun a13 q14 => (seeBlk 54 false false a13 F fun cs15 => (seeCons cs15 F fun a16 q17 => (seeVals a16 F fun xs18 => (seeCons xs18 F fun a19 q20 => (seeV (.fn (.func 21) [] []) a19 F (seeNil q20 F (seeNil q17 F (seeNil q14 F (l x i_10 i_13 xs_m_0_0 xs_m_0_1 xs_m_0_2 (fun (u0 : List Int) (u1 : List Int) (u2 : List Int) => K (.exit 2) (selE 220 []) [⟨[.ints .i64 u0, .ints .i64 u1, .ints .i64 u2], 47, false, false⟩, ⟨[.vals [(.fn (.func 21) [] [])]], 54, false, false⟩])))))))))))))))))))))))
  | false => False
def WL100_9 (l : YL100_9) (W : Masks) : Masks := fun r =>
  match Nat.beq r 9 with
  | true => some fun x ρ m K => VL100_9 l (match W r with | some lf => lf x ρ m K | none => False) x (tidyE 2 [0, 10, 13] ρ m) (tidyM 2 [0, 10, 13] ρ m) K
  | false => W r
set_option maxRecDepth 100000 in
theorem WL100_9_ok {W : Masks} (hW : LoopsOk Tryz.prog 2 W) : LoopsOk Tryz.prog 2 (WL100_9 GL100_9 W) := by
  intro r lf h
  unfold WL100_9 at h
  split at h
  · cases h
    intro x E0 m0 w0 J hS0 ha hJ ρ m K E a w Q hS hρ hd h hQ
    have fb : (match W r with | some lf => lf x ρ m K | none => False) → (Code.loop x).wp Tryz.prog Q a w := fun h => by
      split at h
      · rename_i lf hlf
        exact hW r lf hlf x hS0 ha hJ ρ m K E a w Q hS hρ hd h hQ
      · cases h
    obtain ⟨E2, hS2, hρ2⟩ := tidy_rel hS0 hS hρ [0, 10, 13]
    rw [ha] at hS2 hρ2
    unfold VL100_9 at h
    split at h
    · rename_i hlen
      replace h := seeV_use h
      rcases h with h | ⟨e1, h⟩
      · exact fb h
      replace h := seeI_use h
      rcases h with h | ⟨i_10, e2, h⟩
      · exact fb h
      replace h := seeI_use h
      rcases h with h | ⟨i_13, e3, h⟩
      · exact fb h
      replace h := seeCons_use h
      rcases h with h | ⟨a4, q5, eqm, h⟩
      · exact fb h
      replace h := seeBlk_use h
      rcases h with h | ⟨cs6, rfl, h⟩
      · exact fb h
      replace h := seeCons_use h
      rcases h with h | ⟨a7, q8, rfl, h⟩
      · exact fb h
      replace h := seeInts_use h
      rcases h with h | ⟨xs_m_0_0, rfl, h⟩
      · exact fb h
      replace h := seeCons_use h
      rcases h with h | ⟨a9, q10, rfl, h⟩
      · exact fb h
      replace h := seeInts_use h
      rcases h with h | ⟨xs_m_0_1, rfl, h⟩
      · exact fb h
      replace h := seeCons_use h
      rcases h with h | ⟨a11, q12, rfl, h⟩
      · exact fb h
      replace h := seeInts_use h
      rcases h with h | ⟨xs_m_0_2, rfl, h⟩
      · exact fb h
      replace h := seeNil_use h
      rcases h with h | ⟨rfl, h⟩
      · exact fb h
      replace h := seeCons_use h
      rcases h with h | ⟨a13, q14, rfl, h⟩
      · exact fb h
      replace h := seeBlk_use h
      rcases h with h | ⟨cs15, rfl, h⟩
      · exact fb h
      replace h := seeCons_use h
      rcases h with h | ⟨a16, q17, rfl, h⟩
      · exact fb h
      replace h := seeVals_use h
      rcases h with h | ⟨xs18, rfl, h⟩
      · exact fb h
      replace h := seeCons_use h
      rcases h with h | ⟨a19, q20, rfl, h⟩
      · exact fb h
      replace h := seeV_use h
      rcases h with h | ⟨rfl, h⟩
      · exact fb h
      replace h := seeNil_use h
      rcases h with h | ⟨rfl, h⟩
      · exact fb h
      replace h := seeNil_use h
      rcases h with h | ⟨rfl, h⟩
      · exact fb h
      replace h := seeNil_use h
      rcases h with h | ⟨rfl, h⟩
      · exact fb h
      obtain ⟨rfl, n, h⟩ := h
      exact loop_use named C1_ok (LoopsOk.none _ _) (RL100_9_ok  K n _ _ _ _ _) h hS0 ha hJ hlen ⟨e1, e2, e3, trivial⟩ (eqm ▸ hS2) hρ2 hd hQ
    · cases h
  · exact hW r lf h
abbrev YL100_15 : Type := Code → Int → Int → Int → List Int → List Int → List Int → (Int → Prop) → Prop
set_option maxHeartbeats 4000000 in
set_option maxRecDepth 100000 in
def HL100_15  (rec : Int → Int → Prop) (i_2 : Int) (i_14 : Int) (i_15 : Int) (xs_m_0_0 : List Int) (xs_m_0_1 : List Int) (xs_m_0_2 : List Int) (k1 : Int → Prop) : Prop :=
  (bif (decide (i_14 < i_15)) then (bif ((decide ((0 : Int) ≤ i_2)) && (decide (i_2 < ((((List.length xs_m_0_0) - (0 : Nat)) : Nat) : Int)))) then (bif ((decide ((0 : Int) ≤ (IntKind.wrap .i64 (Int.fdiv (IntKind.wrap .u64 (IntKind.wrap .i64 (i_14 + i_15))) (2 ^ 1))))) && (decide ((IntKind.wrap .i64 (Int.fdiv (IntKind.wrap .u64 (IntKind.wrap .i64 (i_14 + i_15))) (2 ^ 1))) < ((((List.length xs_m_0_0) - (0 : Nat)) : Nat) : Int)))) then (bif (!(decide ((cmpF (List.getD xs_m_0_0 (Int.toNat i_2) (0 : Int)) (List.getD xs_m_0_1 (Int.toNat i_2) (0 : Int)) (List.getD xs_m_0_0 (Int.toNat (IntKind.wrap .i64 (Int.fdiv (IntKind.wrap .u64 (IntKind.wrap .i64 (i_14 + i_15))) (2 ^ 1)))) (0 : Int)) (List.getD xs_m_0_1 (Int.toNat (IntKind.wrap .i64 (Int.fdiv (IntKind.wrap .u64 (IntKind.wrap .i64 (i_14 + i_15))) (2 ^ 1)))) (0 : Int))) < (0 : Int)))) then (rec (IntKind.wrap .i64 ((IntKind.wrap .i64 (Int.fdiv (IntKind.wrap .u64 (IntKind.wrap .i64 (i_14 + i_15))) (2 ^ 1))) + (1 : Int))) i_15) else (rec i_14 (IntKind.wrap .i64 (Int.fdiv (IntKind.wrap .u64 (IntKind.wrap .i64 (i_14 + i_15))) (2 ^ 1))))) else False) else False) else (k1 i_14))
def RL100_15  : Nat → Int → Int → Int → List Int → List Int → List Int → (Int → Prop) → Prop
  | 0, _, _, _, _, _, _, _ => False
  | n + 1, i_2, i_14, i_15, xs_m_0_0, xs_m_0_1, xs_m_0_2, k1 => HL100_15  (fun (i_14 : Int) (i_15 : Int) => RL100_15  n i_2 i_14 i_15 xs_m_0_0 xs_m_0_1 xs_m_0_2 k1) i_2 i_14 i_15 xs_m_0_0 xs_m_0_1 xs_m_0_2 k1
noncomputable def XL100_15 : Code := sub [true, false, true, false, true, true, false, false, false] (bodyOf Tryz.prog 100)
theorem HL100_15_ok  (n : Nat) (i_2 : Int) (i_14 : Int) (i_15 : Int) (xs_m_0_0 : List Int) (xs_m_0_1 : List Int) (xs_m_0_2 : List Int) (K : Ex → Env → Mem → Prop) : cround 2 [0, 2, 4, 14, 15] [0, 2, 14] (fun ρ m K => cexec Tryz.prog C1 (fun _ => none) 2 1000 XL100_15 ρ m K) (n + 1) (selE 220 [(0, (.sl 0 (0 : Nat) (none : Option Nat) (none : Option Nat))), (2, (.I .i64 i_2)), (4, (.fn (.func 23) [] [(.ptr 1 (0 : Nat) 0)])), (14, (.I .i64 i_14)), (15, (.I .i64 i_15))]) [⟨[.ints .i64 xs_m_0_0, .ints .i64 xs_m_0_1, .ints .i64 xs_m_0_2], 47, false, false⟩, ⟨[.vals [(.fn (.func 21) [] [])]], 54, false, false⟩] K =
    HL100_15  (fun (i_14 : Int) (i_15 : Int) => cround 2 [0, 2, 4, 14, 15] [0, 2, 14] (fun ρ m K => cexec Tryz.prog C1 (fun _ => none) 2 1000 XL100_15 ρ m K) n (selE 220 [(0, (.sl 0 (0 : Nat) (none : Option Nat) (none : Option Nat))), (2, (.I .i64 i_2)), (4, (.fn (.func 23) [] [(.ptr 1 (0 : Nat) 0)])), (14, (.I .i64 i_14)), (15, (.I .i64 i_15))]) [⟨[.ints .i64 xs_m_0_0, .ints .i64 xs_m_0_1, .ints .i64 xs_m_0_2], 47, false, false⟩, ⟨[.vals [(.fn (.func 21) [] [])]], 54, false, false⟩] K) i_2 i_14 i_15 xs_m_0_0 xs_m_0_1 xs_m_0_2 (fun (u0 : Int) => K (.exit 4) (selE 220 [(0, (.sl 0 (0 : Nat) (none : Option Nat) (none : Option Nat))), (2, (.I .i64 i_2)), (14, (.I .i64 u0))]) [⟨[.ints .i64 xs_m_0_0, .ints .i64 xs_m_0_1, .ints .i64 xs_m_0_2], 47, false, false⟩, ⟨[.vals [(.fn (.func 21) [] [])]], 54, false, false⟩]) := by kernel_rfl
theorem RL100_15_ok  (K : Ex → Env → Mem → Prop) : ∀ (n : Nat) (i_2 : Int) (i_14 : Int) (i_15 : Int) (xs_m_0_0 : List Int) (xs_m_0_1 : List Int) (xs_m_0_2 : List Int), cround 2 [0, 2, 4, 14, 15] [0, 2, 14] (fun ρ m K => cexec Tryz.prog C1 (fun _ => none) 2 1000 XL100_15 ρ m K) n (selE 220 [(0, (.sl 0 (0 : Nat) (none : Option Nat) (none : Option Nat))), (2, (.I .i64 i_2)), (4, (.fn (.func 23) [] [(.ptr 1 (0 : Nat) 0)])), (14, (.I .i64 i_14)), (15, (.I .i64 i_15))]) [⟨[.ints .i64 xs_m_0_0, .ints .i64 xs_m_0_1, .ints .i64 xs_m_0_2], 47, false, false⟩, ⟨[.vals [(.fn (.func 21) [] [])]], 54, false, false⟩] K = RL100_15  n i_2 i_14 i_15 xs_m_0_0 xs_m_0_1 xs_m_0_2 (fun (u0 : Int) => K (.exit 4) (selE 220 [(0, (.sl 0 (0 : Nat) (none : Option Nat) (none : Option Nat))), (2, (.I .i64 i_2)), (14, (.I .i64 u0))]) [⟨[.ints .i64 xs_m_0_0, .ints .i64 xs_m_0_1, .ints .i64 xs_m_0_2], 47, false, false⟩, ⟨[.vals [(.fn (.func 21) [] [])]], 54, false, false⟩])
  | 0, i_2, i_14, i_15, xs_m_0_0, xs_m_0_1, xs_m_0_2 => rfl
  | n + 1, i_2, i_14, i_15, xs_m_0_0, xs_m_0_1, xs_m_0_2 => by
    have ih := RL100_15_ok  K n
    rw [HL100_15_ok  n i_2 i_14 i_15 xs_m_0_0 xs_m_0_1 xs_m_0_2 K]
    show HL100_15  _ i_2 i_14 i_15 xs_m_0_0 xs_m_0_1 xs_m_0_2 (fun (u0 : Int) => K (.exit 4) (selE 220 [(0, (.sl 0 (0 : Nat) (none : Option Nat) (none : Option Nat))), (2, (.I .i64 i_2)), (14, (.I .i64 u0))]) [⟨[.ints .i64 xs_m_0_0, .ints .i64 xs_m_0_1, .ints .i64 xs_m_0_2], 47, false, false⟩, ⟨[.vals [(.fn (.func 21) [] [])]], 54, false, false⟩]) = HL100_15  _ i_2 i_14 i_15 xs_m_0_0 xs_m_0_1 xs_m_0_2 (fun (u0 : Int) => K (.exit 4) (selE 220 [(0, (.sl 0 (0 : Nat) (none : Option Nat) (none : Option Nat))), (2, (.I .i64 i_2)), (14, (.I .i64 u0))]) [⟨[.ints .i64 xs_m_0_0, .ints .i64 xs_m_0_1, .ints .i64 xs_m_0_2], 47, false, false⟩, ⟨[.vals [(.fn (.func 21) [] [])]], 54, false, false⟩])
    refine congrArg (fun r => HL100_15  r i_2 i_14 i_15 xs_m_0_0 xs_m_0_1 xs_m_0_2 (fun (u0 : Int) => K (.exit 4) (selE 220 [(0, (.sl 0 (0 : Nat) (none : Option Nat) (none : Option Nat))), (2, (.I .i64 i_2)), (14, (.I .i64 u0))]) [⟨[.ints .i64 xs_m_0_0, .ints .i64 xs_m_0_1, .ints .i64 xs_m_0_2], 47, false, false⟩, ⟨[.vals [(.fn (.func 21) [] [])]], 54, false, false⟩])) ?_
    funext i_14 i_15
    exact ih i_2 i_14 i_15 xs_m_0_0 xs_m_0_1 xs_m_0_2
def GL100_15 : YL100_15 := fun x i_2 i_14 i_15 xs_m_0_0 xs_m_0_1 xs_m_0_2 k1 => x = XL100_15 ∧ ∃ n, RL100_15  n i_2 i_14 i_15 xs_m_0_0 xs_m_0_1 xs_m_0_2 k1
def VL100_15 (l : YL100_15) (F : Prop) (x : Code) (ρ : Env) (m : Mem) (K : Ex → Env → Mem → Prop) : Prop :=
  match ρ.has (220 - 1) with
  | true => (seeV (.sl 0 (0 : Nat) (none : Option Nat) (none : Option Nat)) (ρ.get 0) F (seeI .i64 (ρ.get 2) F fun i_2 => (seeV (.fn (.func 23) [] [(.ptr 1 (0 : Nat) 0)]) (ρ.get 4) F (seeI .i64 (ρ.get 14) F fun i_14 => (seeI .i64 (ρ.get 15) F fun i_15 => (seeCons m F fun a6 q7 => (seeBlk 47 false false a6 F fun cs8 => (seeCons cs8 F fun a9 q10 => (seeInts .i64 a9 F fun xs_m_0_0 => (seeCons q10 F fun a11 q12 => (seeInts .i64 a11 F fun xs_m_0_1 => (seeCons q12 F fun a13 q14 => (seeInts .i64 a13 F fun xs_m_0_2 => (seeNil q14 F (seeCons q7 F fun a15 q16 => (seeBlk 54 false false a15 F fun cs17 => (seeCons cs17 F fun a18 q19 => (seeVals a18 F fun xs20 => (seeCons xs20 F fun a21 q22 => (seeV (.fn (.func 21) [] []) a21 F (seeNil q22 F (seeNil q19 F (seeNil q16 F (l x i_2 i_14 i_15 xs_m_0_0 xs_m_0_1 xs_m_0_2 (fun (u0 : Int) => K (.exit 4) (selE 220 [(0, (.sl 0 (0 : Nat) (none : Option Nat) (none : Option Nat))), (2, (.I .i64 i_2)), (14, (.I .i64 u0))]) [⟨[.ints .i64 xs_m_0_0, .ints .i64 xs_m_0_1, .ints .i64 xs_m_0_2], 47, false, false⟩, ⟨[.vals [(.fn (.func 21) [] [])]], 54, false, false⟩])))))))))))))))))))))))))
  | false => False
def WL100_15 (l : YL100_15) (W : Masks) : Masks := fun r =>
  match Nat.beq r 15 with
  | true => some fun x ρ m K => VL100_15 l (match W r with | some lf => lf x ρ m K | none => False) x (tidyE 2 [0, 2, 4, 14, 15] ρ m) (tidyM 2 [0, 2, 4, 14, 15] ρ m) K
  | false => W r
set_option maxRecDepth 100000 in
theorem WL100_15_ok {W : Masks} (hW : LoopsOk Tryz.prog 2 W) : LoopsOk Tryz.prog 2 (WL100_15 GL100_15 W) := by
  intro r lf h
  unfold WL100_15 at h
  split at h
  · cases h
    intro x E0 m0 w0 J hS0 ha hJ ρ m K E a w Q hS hρ hd h hQ
    have fb : (match W r with | some lf => lf x ρ m K | none => False) → (Code.loop x).wp Tryz.prog Q a w := fun h => by
      split at h
      · rename_i lf hlf
        exact hW r lf hlf x hS0 ha hJ ρ m K E a w Q hS hρ hd h hQ
      · cases h
    obtain ⟨E2, hS2, hρ2⟩ := tidy_rel hS0 hS hρ [0, 2, 4, 14, 15]
    rw [ha] at hS2 hρ2
    unfold VL100_15 at h
    split at h
    · rename_i hlen
      replace h := seeV_use h
      rcases h with h | ⟨e1, h⟩
      · exact fb h
      replace h := seeI_use h
      rcases h with h | ⟨i_2, e2, h⟩
      · exact fb h
      replace h := seeV_use h
      rcases h with h | ⟨e3, h⟩
      · exact fb h
      replace h := seeI_use h
      rcases h with h | ⟨i_14, e4, h⟩
      · exact fb h
      replace h := seeI_use h
      rcases h with h | ⟨i_15, e5, h⟩
      · exact fb h
      replace h := seeCons_use h
      rcases h with h | ⟨a6, q7, eqm, h⟩
      · exact fb h
      replace h := seeBlk_use h
      rcases h with h | ⟨cs8, rfl, h⟩
      · exact fb h
      replace h := seeCons_use h
      rcases h with h | ⟨a9, q10, rfl, h⟩
      · exact fb h
      replace h := seeInts_use h
      rcases h with h | ⟨xs_m_0_0, rfl, h⟩
      · exact fb h
      replace h := seeCons_use h
      rcases h with h | ⟨a11, q12, rfl, h⟩
      · exact fb h
      replace h := seeInts_use h
      rcases h with h | ⟨xs_m_0_1, rfl, h⟩
      · exact fb h
      replace h := seeCons_use h
      rcases h with h | ⟨a13, q14, rfl, h⟩
      · exact fb h
      replace h := seeInts_use h
      rcases h with h | ⟨xs_m_0_2, rfl, h⟩
      · exact fb h
      replace h := seeNil_use h
      rcases h with h | ⟨rfl, h⟩
      · exact fb h
      replace h := seeCons_use h
      rcases h with h | ⟨a15, q16, rfl, h⟩
      · exact fb h
      replace h := seeBlk_use h
      rcases h with h | ⟨cs17, rfl, h⟩
      · exact fb h
      replace h := seeCons_use h
      rcases h with h | ⟨a18, q19, rfl, h⟩
      · exact fb h
      replace h := seeVals_use h
      rcases h with h | ⟨xs20, rfl, h⟩
      · exact fb h
      replace h := seeCons_use h
      rcases h with h | ⟨a21, q22, rfl, h⟩
      · exact fb h
      replace h := seeV_use h
      rcases h with h | ⟨rfl, h⟩
      · exact fb h
      replace h := seeNil_use h
      rcases h with h | ⟨rfl, h⟩
      · exact fb h
      replace h := seeNil_use h
      rcases h with h | ⟨rfl, h⟩
      · exact fb h
      replace h := seeNil_use h
      rcases h with h | ⟨rfl, h⟩
      · exact fb h
      obtain ⟨rfl, n, h⟩ := h
      exact loop_use named C1_ok (LoopsOk.none _ _) (RL100_15_ok  K n _ _ _ _ _ _) h hS0 ha hJ hlen ⟨e1, e2, e3, e4, e5, trivial⟩ (eqm ▸ hS2) hρ2 hd hQ
    · cases h
  · exact hW r lf h
abbrev YL100_21 : Type := Code → Int → Int → List Int → List Int → List Int → (List Int → List Int → List Int → Prop) → Prop
set_option maxHeartbeats 4000000 in
set_option maxRecDepth 100000 in
def HL100_21  (rec : Int → List Int → List Int → List Int → Prop) (i_14 : Int) (i_17 : Int) (xs_m_0_0 : List Int) (xs_m_0_1 : List Int) (xs_m_0_2 : List Int) (k1 : List Int → List Int → List Int → Prop) : Prop :=
  (bif (decide (i_17 > i_14)) then (bif ((decide ((0 : Int) ≤ (IntKind.wrap .i64 (i_17 - (1 : Int))))) && (decide ((IntKind.wrap .i64 (i_17 - (1 : Int))) < ((((List.length xs_m_0_0) - (0 : Nat)) : Nat) : Int)))) then (bif ((decide ((0 : Int) ≤ i_17)) && (decide (i_17 < ((((List.length xs_m_0_0) - (0 : Nat)) : Nat) : Int)))) then (bif ((decide ((0 : Int) ≤ i_17)) && (decide (i_17 < ((((List.length xs_m_0_0) - (0 : Nat)) : Nat) : Int)))) then (bif (((IntKind.wrap .i64 (i_17 - (1 : Int))) == (IntKind.wrap .i64 (i_17 - (1 : Int)))) && ((i_17 == i_17) && true)) then (bif ((decide ((0 : Int) ≤ (IntKind.wrap .i64 (i_17 - (1 : Int))))) && (decide ((IntKind.wrap .i64 (i_17 - (1 : Int))) < ((((List.length (List.set xs_m_0_0 (Int.toNat i_17) (List.getD xs_m_0_0 (Int.toNat (IntKind.wrap .i64 (i_17 - (1 : Int)))) (0 : Int)))) - (0 : Nat)) : Nat) : Int)))) then (rec (IntKind.wrap .i64 (i_17 - (1 : Int))) (List.set (List.set xs_m_0_0 (Int.toNat i_17) (List.getD xs_m_0_0 (Int.toNat (IntKind.wrap .i64 (i_17 - (1 : Int)))) (0 : Int))) (Int.toNat (IntKind.wrap .i64 (i_17 - (1 : Int)))) (List.getD xs_m_0_0 (Int.toNat i_17) (0 : Int))) (List.set (List.set xs_m_0_1 (Int.toNat i_17) (List.getD xs_m_0_1 (Int.toNat (IntKind.wrap .i64 (i_17 - (1 : Int)))) (0 : Int))) (Int.toNat (IntKind.wrap .i64 (i_17 - (1 : Int)))) (List.getD xs_m_0_1 (Int.toNat i_17) (0 : Int))) (List.set (List.set xs_m_0_2 (Int.toNat i_17) (List.getD xs_m_0_2 (Int.toNat (IntKind.wrap .i64 (i_17 - (1 : Int)))) (0 : Int))) (Int.toNat (IntKind.wrap .i64 (i_17 - (1 : Int)))) (List.getD xs_m_0_2 (Int.toNat i_17) (0 : Int)))) else False) else False) else False) else False) else False) else (k1 xs_m_0_0 xs_m_0_1 xs_m_0_2))
def RL100_21  : Nat → Int → Int → List Int → List Int → List Int → (List Int → List Int → List Int → Prop) → Prop
  | 0, _, _, _, _, _, _ => False
  | n + 1, i_14, i_17, xs_m_0_0, xs_m_0_1, xs_m_0_2, k1 => HL100_21  (fun (i_17 : Int) (xs_m_0_0 : List Int) (xs_m_0_1 : List Int) (xs_m_0_2 : List Int) => RL100_21  n i_14 i_17 xs_m_0_0 xs_m_0_1 xs_m_0_2 k1) i_14 i_17 xs_m_0_0 xs_m_0_1 xs_m_0_2 k1
noncomputable def XL100_21 : Code := sub [true, false, true, false, true, true, true, false, true, false, false] (bodyOf Tryz.prog 100)
theorem HL100_21_ok  (n : Nat) (i_14 : Int) (i_17 : Int) (xs_m_0_0 : List Int) (xs_m_0_1 : List Int) (xs_m_0_2 : List Int) (K : Ex → Env → Mem → Prop) : cround 2 [0, 14, 17] [] (fun ρ m K => cexec Tryz.prog C1 (fun _ => none) 2 1000 XL100_21 ρ m K) (n + 1) (selE 220 [(0, (.sl 0 (0 : Nat) (none : Option Nat) (none : Option Nat))), (14, (.I .i64 i_14)), (17, (.I .i64 i_17))]) [⟨[.ints .i64 xs_m_0_0, .ints .i64 xs_m_0_1, .ints .i64 xs_m_0_2], 47, false, false⟩, ⟨[.vals [(.fn (.func 21) [] [])]], 54, false, false⟩] K =
    HL100_21  (fun (i_17 : Int) (xs_m_0_0 : List Int) (xs_m_0_1 : List Int) (xs_m_0_2 : List Int) => cround 2 [0, 14, 17] [] (fun ρ m K => cexec Tryz.prog C1 (fun _ => none) 2 1000 XL100_21 ρ m K) n (selE 220 [(0, (.sl 0 (0 : Nat) (none : Option Nat) (none : Option Nat))), (14, (.I .i64 i_14)), (17, (.I .i64 i_17))]) [⟨[.ints .i64 xs_m_0_0, .ints .i64 xs_m_0_1, .ints .i64 xs_m_0_2], 47, false, false⟩, ⟨[.vals [(.fn (.func 21) [] [])]], 54, false, false⟩] K) i_14 i_17 xs_m_0_0 xs_m_0_1 xs_m_0_2 (fun (u0 : List Int) (u1 : List Int) (u2 : List Int) => K (.exit 6) (selE 220 []) [⟨[.ints .i64 u0, .ints .i64 u1, .ints .i64 u2], 47, false, false⟩, ⟨[.vals [(.fn (.func 21) [] [])]], 54, false, false⟩]) := by kernel_rfl
theorem RL100_21_ok  (K : Ex → Env → Mem → Prop) : ∀ (n : Nat) (i_14 : Int) (i_17 : Int) (xs_m_0_0 : List Int) (xs_m_0_1 : List Int) (xs_m_0_2 : List Int), cround 2 [0, 14, 17] [] (fun ρ m K => cexec Tryz.prog C1 (fun _ => none) 2 1000 XL100_21 ρ m K) n (selE 220 [(0, (.sl 0 (0 : Nat) (none : Option Nat) (none : Option Nat))), (14, (.I .i64 i_14)), (17, (.I .i64 i_17))]) [⟨[.ints .i64 xs_m_0_0, .ints .i64 xs_m_0_1, .ints .i64 xs_m_0_2], 47, false, false⟩, ⟨[.vals [(.fn (.func 21) [] [])]], 54, false, false⟩] K = RL100_21  n i_14 i_17 xs_m_0_0 xs_m_0_1 xs_m_0_2 (fun (u0 : List Int) (u1 : List Int) (u2 : List Int) => K (.exit 6) (selE 220 []) [⟨[.ints .i64 u0, .ints .i64 u1, .ints .i64 u2], 47, false, false⟩, ⟨[.vals [(.fn (.func 21) [] [])]], 54, false, false⟩])
  | 0, i_14, i_17, xs_m_0_0, xs_m_0_1, xs_m_0_2 => rfl
  | n + 1, i_14, i_17, xs_m_0_0, xs_m_0_1, xs_m_0_2 => by
    have ih := RL100_21_ok  K n
    rw [HL100_21_ok  n i_14 i_17 xs_m_0_0 xs_m_0_1 xs_m_0_2 K]
    show HL100_21  _ i_14 i_17 xs_m_0_0 xs_m_0_1 xs_m_0_2 (fun (u0 : List Int) (u1 : List Int) (u2 : List Int) => K (.exit 6) (selE 220 []) [⟨[.ints .i64 u0, .ints .i64 u1, .ints .i64 u2], 47, false, false⟩, ⟨[.vals [(.fn (.func 21) [] [])]], 54, false, false⟩]) = HL100_21  _ i_14 i_17 xs_m_0_0 xs_m_0_1 xs_m_0_2 (fun (u0 : List Int) (u1 : List Int) (u2 : List Int) => K (.exit 6) (selE 220 []) [⟨[.ints .i64 u0, .ints .i64 u1, .ints .i64 u2], 47, false, false⟩, ⟨[.vals [(.fn (.func 21) [] [])]], 54, false, false⟩])
    refine congrArg (fun r => HL100_21  r i_14 i_17 xs_m_0_0 xs_m_0_1 xs_m_0_2 (fun (u0 : List Int) (u1 : List Int) (u2 : List Int) => K (.exit 6) (selE 220 []) [⟨[.ints .i64 u0, .ints .i64 u1, .ints .i64 u2], 47, false, false⟩, ⟨[.vals [(.fn (.func 21) [] [])]], 54, false, false⟩])) ?_
    funext i_17 xs_m_0_0 xs_m_0_1 xs_m_0_2
    exact ih i_14 i_17 xs_m_0_0 xs_m_0_1 xs_m_0_2
def GL100_21 : YL100_21 := fun x i_14 i_17 xs_m_0_0 xs_m_0_1 xs_m_0_2 k1 => x = XL100_21 ∧ ∃ n, RL100_21  n i_14 i_17 xs_m_0_0 xs_m_0_1 xs_m_0_2 k1
def VL100_21 (l : YL100_21) (F : Prop) (x : Code) (ρ : Env) (m : Mem) (K : Ex → Env → Mem → Prop) : Prop :=
  match ρ.has (220 - 1) with
  | true => (seeV (.sl 0 (0 : Nat) (none : Option Nat) (none : Option Nat)) (ρ.get 0) F (seeI .i64 (ρ.get 14) F fun i_14 => (seeI .i64 (ρ.get 17) F fun i_17 => (seeCons m F fun a4 q5 => (seeBlk 47 false false a4 F fun cs6 => (seeCons cs6 F fun a7 q8 => (seeInts .i64 a7 F fun xs_m_0_0 => (seeCons q8 F fun a9 q10 => (seeInts .i64 a9 F fun xs_m_0_1 => (seeCons q10 F fun a11 q12 => (seeInts .i64 a11 F fun xs_m_0_2 => (seeNil q12 F (seeCons q5 F fun a13 q14 => (seeBlk 54 false false a13 F fun cs15 => (seeCons cs15 F fun a16 q17 => (seeVals a16 F fun xs18 => (seeCons xs18 F fun a19 q20 => (seeV (.fn (.func 21) [] []) a19 F (seeNil q20 F (seeNil q17 F (seeNil q14 F (l x i_14 i_17 xs_m_0_0 xs_m_0_1 xs_m_0_2 (fun (u0 : List Int) (u1 : List Int) (u2 : List Int) => K (.exit 6) (selE 220 []) [⟨[.ints .i64 u0, .ints .i64 u1, .ints .i64 u2], 47, false, false⟩, ⟨[.vals [(.fn (.func 21) [] [])]], 54, false, false⟩])))))))))))))))))))))))
  | false => False
def WL100_21 (l : YL100_21) (W : Masks) : Masks := fun r =>
  match Nat.beq r 21 with
  | true => some fun x ρ m K => VL100_21 l (match W r with | some lf => lf x ρ m K | none => False) x (tidyE 2 [0, 14, 17] ρ m) (tidyM 2 [0, 14, 17] ρ m) K
  | false => W r
set_option maxRecDepth 100000 in
theorem WL100_21_ok {W : Masks} (hW : LoopsOk Tryz.prog 2 W) : LoopsOk Tryz.prog 2 (WL100_21 GL100_21 W) := by
  intro r lf h
  unfold WL100_21 at h
  split at h
  · cases h
    intro x E0 m0 w0 J hS0 ha hJ ρ m K E a w Q hS hρ hd h hQ
    have fb : (match W r with | some lf => lf x ρ m K | none => False) → (Code.loop x).wp Tryz.prog Q a w := fun h => by
      split at h
      · rename_i lf hlf
        exact hW r lf hlf x hS0 ha hJ ρ m K E a w Q hS hρ hd h hQ
      · cases h
    obtain ⟨E2, hS2, hρ2⟩ := tidy_rel hS0 hS hρ [0, 14, 17]
    rw [ha] at hS2 hρ2
    unfold VL100_21 at h
    split at h
    · rename_i hlen
      replace h := seeV_use h
      rcases h with h | ⟨e1, h⟩
      · exact fb h
      replace h := seeI_use h
      rcases h with h | ⟨i_14, e2, h⟩
      · exact fb h
      replace h := seeI_use h
      rcases h with h | ⟨i_17, e3, h⟩
      · exact fb h
      replace h := seeCons_use h
      rcases h with h | ⟨a4, q5, eqm, h⟩
      · exact fb h
      replace h := seeBlk_use h
      rcases h with h | ⟨cs6, rfl, h⟩
      · exact fb h
      replace h := seeCons_use h
      rcases h with h | ⟨a7, q8, rfl, h⟩
      · exact fb h
      replace h := seeInts_use h
      rcases h with h | ⟨xs_m_0_0, rfl, h⟩
      · exact fb h
      replace h := seeCons_use h
      rcases h with h | ⟨a9, q10, rfl, h⟩
      · exact fb h
      replace h := seeInts_use h
      rcases h with h | ⟨xs_m_0_1, rfl, h⟩
      · exact fb h
      replace h := seeCons_use h
      rcases h with h | ⟨a11, q12, rfl, h⟩
      · exact fb h
      replace h := seeInts_use h
      rcases h with h | ⟨xs_m_0_2, rfl, h⟩
      · exact fb h
      replace h := seeNil_use h
      rcases h with h | ⟨rfl, h⟩
      · exact fb h
      replace h := seeCons_use h
      rcases h with h | ⟨a13, q14, rfl, h⟩
      · exact fb h
      replace h := seeBlk_use h
      rcases h with h | ⟨cs15, rfl, h⟩
      · exact fb h
      replace h := seeCons_use h
      rcases h with h | ⟨a16, q17, rfl, h⟩
      · exact fb h
      replace h := seeVals_use h
      rcases h with h | ⟨xs18, rfl, h⟩
      · exact fb h
      replace h := seeCons_use h
      rcases h with h | ⟨a19, q20, rfl, h⟩
      · exact fb h
      replace h := seeV_use h
      rcases h with h | ⟨rfl, h⟩
      · exact fb h
      replace h := seeNil_use h
      rcases h with h | ⟨rfl, h⟩
      · exact fb h
      replace h := seeNil_use h
      rcases h with h | ⟨rfl, h⟩
      · exact fb h
      replace h := seeNil_use h
      rcases h with h | ⟨rfl, h⟩
      · exact fb h
      obtain ⟨rfl, n, h⟩ := h
      exact loop_use named C1_ok (LoopsOk.none _ _) (RL100_21_ok  K n _ _ _ _ _) h hS0 ha hJ hlen ⟨e1, e2, e3, trivial⟩ (eqm ▸ hS2) hρ2 hd hQ
    · cases h
  · exact hW r lf h
abbrev YL100_33 : Type := Code → Int → Int → Int → Int → Int → Int → Int → Int → List Int → List Int → List Int → (Int → Prop) → Prop
set_option maxHeartbeats 4000000 in
set_option maxRecDepth 100000 in
def HL100_33  (rec : Int → Int → Prop) (i_1 : Int) (i_2 : Int) (i_3 : Int) (i_18 : Int) (i_19 : Int) (i_20 : Int) (i_21 : Int) (i_22 : Int) (xs_m_0_0 : List Int) (xs_m_0_1 : List Int) (xs_m_0_2 : List Int) (k1 : Int → Prop) : Prop :=
  (bif (decide (i_20 < i_21)) then (bif ((decide ((0 : Int) ≤ (IntKind.wrap .i64 (i_22 - (IntKind.wrap .i64 (Int.fdiv (IntKind.wrap .u64 (IntKind.wrap .i64 (i_20 + i_21))) (2 ^ 1))))))) && (decide ((IntKind.wrap .i64 (i_22 - (IntKind.wrap .i64 (Int.fdiv (IntKind.wrap .u64 (IntKind.wrap .i64 (i_20 + i_21))) (2 ^ 1))))) < ((((List.length xs_m_0_0) - (0 : Nat)) : Nat) : Int)))) then (bif ((decide ((0 : Int) ≤ (IntKind.wrap .i64 (Int.fdiv (IntKind.wrap .u64 (IntKind.wrap .i64 (i_20 + i_21))) (2 ^ 1))))) && (decide ((IntKind.wrap .i64 (Int.fdiv (IntKind.wrap .u64 (IntKind.wrap .i64 (i_20 + i_21))) (2 ^ 1))) < ((((List.length xs_m_0_0) - (0 : Nat)) : Nat) : Int)))) then (bif (!(decide ((cmpF (List.getD xs_m_0_0 (Int.toNat (IntKind.wrap .i64 (i_22 - (IntKind.wrap .i64 (Int.fdiv (IntKind.wrap .u64 (IntKind.wrap .i64 (i_20 + i_21))) (2 ^ 1)))))) (0 : Int)) (List.getD xs_m_0_1 (Int.toNat (IntKind.wrap .i64 (i_22 - (IntKind.wrap .i64 (Int.fdiv (IntKind.wrap .u64 (IntKind.wrap .i64 (i_20 + i_21))) (2 ^ 1)))))) (0 : Int)) (List.getD xs_m_0_0 (Int.toNat (IntKind.wrap .i64 (Int.fdiv (IntKind.wrap .u64 (IntKind.wrap .i64 (i_20 + i_21))) (2 ^ 1)))) (0 : Int)) (List.getD xs_m_0_1 (Int.toNat (IntKind.wrap .i64 (Int.fdiv (IntKind.wrap .u64 (IntKind.wrap .i64 (i_20 + i_21))) (2 ^ 1)))) (0 : Int))) < (0 : Int)))) then (rec (IntKind.wrap .i64 ((IntKind.wrap .i64 (Int.fdiv (IntKind.wrap .u64 (IntKind.wrap .i64 (i_20 + i_21))) (2 ^ 1))) + (1 : Int))) i_21) else (rec i_20 (IntKind.wrap .i64 (Int.fdiv (IntKind.wrap .u64 (IntKind.wrap .i64 (i_20 + i_21))) (2 ^ 1))))) else False) else False) else (k1 i_20))
def RL100_33  : Nat → Int → Int → Int → Int → Int → Int → Int → Int → List Int → List Int → List Int → (Int → Prop) → Prop
  | 0, _, _, _, _, _, _, _, _, _, _, _, _ => False
  | n + 1, i_1, i_2, i_3, i_18, i_19, i_20, i_21, i_22, xs_m_0_0, xs_m_0_1, xs_m_0_2, k1 => HL100_33  (fun (i_20 : Int) (i_21 : Int) => RL100_33  n i_1 i_2 i_3 i_18 i_19 i_20 i_21 i_22 xs_m_0_0 xs_m_0_1 xs_m_0_2 k1) i_1 i_2 i_3 i_18 i_19 i_20 i_21 i_22 xs_m_0_0 xs_m_0_1 xs_m_0_2 k1
noncomputable def XL100_33 : Code := sub [true, true, true, true, true, true, true, false, false, false] (bodyOf Tryz.prog 100)
theorem HL100_33_ok  (n : Nat) (i_1 : Int) (i_2 : Int) (i_3 : Int) (i_18 : Int) (i_19 : Int) (i_20 : Int) (i_21 : Int) (i_22 : Int) (xs_m_0_0 : List Int) (xs_m_0_1 : List Int) (xs_m_0_2 : List Int) (K : Ex → Env → Mem → Prop) : cround 2 [0, 1, 2, 3, 4, 18, 19, 20, 21, 22] [0, 1, 2, 3, 4, 18, 19, 20] (fun ρ m K => cexec Tryz.prog C1 (fun _ => none) 2 1000 XL100_33 ρ m K) (n + 1) (selE 220 [(0, (.sl 0 (0 : Nat) (none : Option Nat) (none : Option Nat))), (1, (.I .i64 i_1)), (2, (.I .i64 i_2)), (3, (.I .i64 i_3)), (4, (.fn (.func 23) [] [(.ptr 1 (0 : Nat) 0)])), (18, (.I .i64 i_18)), (19, (.I .i64 i_19)), (20, (.I .i64 i_20)), (21, (.I .i64 i_21)), (22, (.I .i64 i_22))]) [⟨[.ints .i64 xs_m_0_0, .ints .i64 xs_m_0_1, .ints .i64 xs_m_0_2], 47, false, false⟩, ⟨[.vals [(.fn (.func 21) [] [])]], 54, false, false⟩] K =
    HL100_33  (fun (i_20 : Int) (i_21 : Int) => cround 2 [0, 1, 2, 3, 4, 18, 19, 20, 21, 22] [0, 1, 2, 3, 4, 18, 19, 20] (fun ρ m K => cexec Tryz.prog C1 (fun _ => none) 2 1000 XL100_33 ρ m K) n (selE 220 [(0, (.sl 0 (0 : Nat) (none : Option Nat) (none : Option Nat))), (1, (.I .i64 i_1)), (2, (.I .i64 i_2)), (3, (.I .i64 i_3)), (4, (.fn (.func 23) [] [(.ptr 1 (0 : Nat) 0)])), (18, (.I .i64 i_18)), (19, (.I .i64 i_19)), (20, (.I .i64 i_20)), (21, (.I .i64 i_21)), (22, (.I .i64 i_22))]) [⟨[.ints .i64 xs_m_0_0, .ints .i64 xs_m_0_1, .ints .i64 xs_m_0_2], 47, false, false⟩, ⟨[.vals [(.fn (.func 21) [] [])]], 54, false, false⟩] K) i_1 i_2 i_3 i_18 i_19 i_20 i_21 i_22 xs_m_0_0 xs_m_0_1 xs_m_0_2 (fun (u0 : Int) => K (.exit 8) (selE 220 [(0, (.sl 0 (0 : Nat) (none : Option Nat) (none : Option Nat))), (1, (.I .i64 i_1)), (2, (.I .i64 i_2)), (3, (.I .i64 i_3)), (4, (.fn (.func 23) [] [(.ptr 1 (0 : Nat) 0)])), (18, (.I .i64 i_18)), (19, (.I .i64 i_19)), (20, (.I .i64 u0))]) [⟨[.ints .i64 xs_m_0_0, .ints .i64 xs_m_0_1, .ints .i64 xs_m_0_2], 47, false, false⟩, ⟨[.vals [(.fn (.func 21) [] [])]], 54, false, false⟩]) := by kernel_rfl
theorem RL100_33_ok  (K : Ex → Env → Mem → Prop) : ∀ (n : Nat) (i_1 : Int) (i_2 : Int) (i_3 : Int) (i_18 : Int) (i_19 : Int) (i_20 : Int) (i_21 : Int) (i_22 : Int) (xs_m_0_0 : List Int) (xs_m_0_1 : List Int) (xs_m_0_2 : List Int), cround 2 [0, 1, 2, 3, 4, 18, 19, 20, 21, 22] [0, 1, 2, 3, 4, 18, 19, 20] (fun ρ m K => cexec Tryz.prog C1 (fun _ => none) 2 1000 XL100_33 ρ m K) n (selE 220 [(0, (.sl 0 (0 : Nat) (none : Option Nat) (none : Option Nat))), (1, (.I .i64 i_1)), (2, (.I .i64 i_2)), (3, (.I .i64 i_3)), (4, (.fn (.func 23) [] [(.ptr 1 (0 : Nat) 0)])), (18, (.I .i64 i_18)), (19, (.I .i64 i_19)), (20, (.I .i64 i_20)), (21, (.I .i64 i_21)), (22, (.I .i64 i_22))]) [⟨[.ints .i64 xs_m_0_0, .ints .i64 xs_m_0_1, .ints .i64 xs_m_0_2], 47, false, false⟩, ⟨[.vals [(.fn (.func 21) [] [])]], 54, false, false⟩] K = RL100_33  n i_1 i_2 i_3 i_18 i_19 i_20 i_21 i_22 xs_m_0_0 xs_m_0_1 xs_m_0_2 (fun (u0 : Int) => K (.exit 8) (selE 220 [(0, (.sl 0 (0 : Nat) (none : Option Nat) (none : Option Nat))), (1, (.I .i64 i_1)), (2, (.I .i64 i_2)), (3, (.I .i64 i_3)), (4, (.fn (.func 23) [] [(.ptr 1 (0 : Nat) 0)])), (18, (.I .i64 i_18)), (19, (.I .i64 i_19)), (20, (.I .i64 u0))]) [⟨[.ints .i64 xs_m_0_0, .ints .i64 xs_m_0_1, .ints .i64 xs_m_0_2], 47, false, false⟩, ⟨[.vals [(.fn (.func 21) [] [])]], 54, false, false⟩])
  | 0, i_1, i_2, i_3, i_18, i_19, i_20, i_21, i_22, xs_m_0_0, xs_m_0_1, xs_m_0_2 => rfl
  | n + 1, i_1, i_2, i_3, i_18, i_19, i_20, i_21, i_22, xs_m_0_0, xs_m_0_1, xs_m_0_2 => by
    have ih := RL100_33_ok  K n
    rw [HL100_33_ok  n i_1 i_2 i_3 i_18 i_19 i_20 i_21 i_22 xs_m_0_0 xs_m_0_1 xs_m_0_2 K]
    show HL100_33  _ i_1 i_2 i_3 i_18 i_19 i_20 i_21 i_22 xs_m_0_0 xs_m_0_1 xs_m_0_2 (fun (u0 : Int) => K (.exit 8) (selE 220 [(0, (.sl 0 (0 : Nat) (none : Option Nat) (none : Option Nat))), (1, (.I .i64 i_1)), (2, (.I .i64 i_2)), (3, (.I .i64 i_3)), (4, (.fn (.func 23) [] [(.ptr 1 (0 : Nat) 0)])), (18, (.I .i64 i_18)), (19, (.I .i64 i_19)), (20, (.I .i64 u0))]) [⟨[.ints .i64 xs_m_0_0, .ints .i64 xs_m_0_1, .ints .i64 xs_m_0_2], 47, false, false⟩, ⟨[.vals [(.fn (.func 21) [] [])]], 54, false, false⟩]) = HL100_33  _ i_1 i_2 i_3 i_18 i_19 i_20 i_21 i_22 xs_m_0_0 xs_m_0_1 xs_m_0_2 (fun (u0 : Int) => K (.exit 8) (selE 220 [(0, (.sl 0 (0 : Nat) (none : Option Nat) (none : Option Nat))), (1, (.I .i64 i_1)), (2, (.I .i64 i_2)), (3, (.I .i64 i_3)), (4, (.fn (.func 23) [] [(.ptr 1 (0 : Nat) 0)])), (18, (.I .i64 i_18)), (19, (.I .i64 i_19)), (20, (.I .i64 u0))]) [⟨[.ints .i64 xs_m_0_0, .ints .i64 xs_m_0_1, .ints .i64 xs_m_0_2], 47, false, false⟩, ⟨[.vals [(.fn (.func 21) [] [])]], 54, false, false⟩])
    refine congrArg (fun r => HL100_33  r i_1 i_2 i_3 i_18 i_19 i_20 i_21 i_22 xs_m_0_0 xs_m_0_1 xs_m_0_2 (fun (u0 : Int) => K (.exit 8) (selE 220 [(0, (.sl 0 (0 : Nat) (none : Option Nat) (none : Option Nat))), (1, (.I .i64 i_1)), (2, (.I .i64 i_2)), (3, (.I .i64 i_3)), (4, (.fn (.func 23) [] [(.ptr 1 (0 : Nat) 0)])), (18, (.I .i64 i_18)), (19, (.I .i64 i_19)), (20, (.I .i64 u0))]) [⟨[.ints .i64 xs_m_0_0, .ints .i64 xs_m_0_1, .ints .i64 xs_m_0_2], 47, false, false⟩, ⟨[.vals [(.fn (.func 21) [] [])]], 54, false, false⟩])) ?_
    funext i_20 i_21
    exact ih i_1 i_2 i_3 i_18 i_19 i_20 i_21 i_22 xs_m_0_0 xs_m_0_1 xs_m_0_2
def GL100_33 : YL100_33 := fun x i_1 i_2 i_3 i_18 i_19 i_20 i_21 i_22 xs_m_0_0 xs_m_0_1 xs_m_0_2 k1 => x = XL100_33 ∧ ∃ n, RL100_33  n i_1 i_2 i_3 i_18 i_19 i_20 i_21 i_22 xs_m_0_0 xs_m_0_1 xs_m_0_2 k1
def VL100_33 (l : YL100_33) (F : Prop) (x : Code) (ρ : Env) (m : Mem) (K : Ex → Env → Mem → Prop) : Prop :=
  match ρ.has (220 - 1) with
  | true => (seeV (.sl 0 (0 : Nat) (none : Option Nat) (none : Option Nat)) (ρ.get 0) F (seeI .i64 (ρ.get 1) F fun i_1 => (seeI .i64 (ρ.get 2) F fun i_2 => (seeI .i64 (ρ.get 3) F fun i_3 => (seeV (.fn (.func 23) [] [(.ptr 1 (0 : Nat) 0)]) (ρ.get 4) F (seeI .i64 (ρ.get 18) F fun i_18 => (seeI .i64 (ρ.get 19) F fun i_19 => (seeI .i64 (ρ.get 20) F fun i_20 => (seeI .i64 (ρ.get 21) F fun i_21 => (seeI .i64 (ρ.get 22) F fun i_22 => (seeCons m F fun a11 q12 => (seeBlk 47 false false a11 F fun cs13 => (seeCons cs13 F fun a14 q15 => (seeInts .i64 a14 F fun xs_m_0_0 => (seeCons q15 F fun a16 q17 => (seeInts .i64 a16 F fun xs_m_0_1 => (seeCons q17 F fun a18 q19 => (seeInts .i64 a18 F fun xs_m_0_2 => (seeNil q19 F (seeCons q12 F fun a20 q21 => (seeBlk 54 false false a20 F fun cs22 => (seeCons cs22 F fun a23 q24 => (seeVals a23 F fun xs25 => (seeCons xs25 F fun a26 q27 => (seeV (.fn (.func 21) [] []) a26 F (seeNil q27 F (seeNil q24 F (seeNil q21 F (l x i_1 i_2 i_3 i_18 i_19 i_20 i_21 i_22 xs_m_0_0 xs_m_0_1 xs_m_0_2 (fun (u0 : Int) => K (.exit 8) (selE 220 [(0, (.sl 0 (0 : Nat) (none : Option Nat) (none : Option Nat))), (1, (.I .i64 i_1)), (2, (.I .i64 i_2)), (3, (.I .i64 i_3)), (4, (.fn (.func 23) [] [(.ptr 1 (0 : Nat) 0)])), (18, (.I .i64 i_18)), (19, (.I .i64 i_19)), (20, (.I .i64 u0))]) [⟨[.ints .i64 xs_m_0_0, .ints .i64 xs_m_0_1, .ints .i64 xs_m_0_2], 47, false, false⟩, ⟨[.vals [(.fn (.func 21) [] [])]], 54, false, false⟩]))))))))))))))))))))))))))))))
  | false => False
def WL100_33 (l : YL100_33) (W : Masks) : Masks := fun r =>
  match Nat.beq r 33 with
  | true => some fun x ρ m K => VL100_33 l (match W r with | some lf => lf x ρ m K | none => False) x (tidyE 2 [0, 1, 2, 3, 4, 18, 19, 20, 21, 22] ρ m) (tidyM 2 [0, 1, 2, 3, 4, 18, 19, 20, 21, 22] ρ m) K
  | false => W r
set_option maxRecDepth 100000 in
theorem WL100_33_ok {W : Masks} (hW : LoopsOk Tryz.prog 2 W) : LoopsOk Tryz.prog 2 (WL100_33 GL100_33 W) := by
  intro r lf h
  unfold WL100_33 at h
  split at h
  · cases h
    intro x E0 m0 w0 J hS0 ha hJ ρ m K E a w Q hS hρ hd h hQ
    have fb : (match W r with | some lf => lf x ρ m K | none => False) → (Code.loop x).wp Tryz.prog Q a w := fun h => by
      split at h
      · rename_i lf hlf
        exact hW r lf hlf x hS0 ha hJ ρ m K E a w Q hS hρ hd h hQ
      · cases h
    obtain ⟨E2, hS2, hρ2⟩ := tidy_rel hS0 hS hρ [0, 1, 2, 3, 4, 18, 19, 20, 21, 22]
    rw [ha] at hS2 hρ2
    unfold VL100_33 at h
    split at h
    · rename_i hlen
      replace h := seeV_use h
      rcases h with h | ⟨e1, h⟩
      · exact fb h
      replace h := seeI_use h
      rcases h with h | ⟨i_1, e2, h⟩
      · exact fb h
      replace h := seeI_use h
      rcases h with h | ⟨i_2, e3, h⟩
      · exact fb h
      replace h := seeI_use h
      rcases h with h | ⟨i_3, e4, h⟩
      · exact fb h
      replace h := seeV_use h
      rcases h with h | ⟨e5, h⟩
      · exact fb h
      replace h := seeI_use h
      rcases h with h | ⟨i_18, e6, h⟩
      · exact fb h
      replace h := seeI_use h
      rcases h with h | ⟨i_19, e7, h⟩
      · exact fb h
      replace h := seeI_use h
      rcases h with h | ⟨i_20, e8, h⟩
      · exact fb h
      replace h := seeI_use h
      rcases h with h | ⟨i_21, e9, h⟩
      · exact fb h
      replace h := seeI_use h
      rcases h with h | ⟨i_22, e10, h⟩
      · exact fb h
      replace h := seeCons_use h
      rcases h with h | ⟨a11, q12, eqm, h⟩
      · exact fb h
      replace h := seeBlk_use h
      rcases h with h | ⟨cs13, rfl, h⟩
      · exact fb h
      replace h := seeCons_use h
      rcases h with h | ⟨a14, q15, rfl, h⟩
      · exact fb h
      replace h := seeInts_use h
      rcases h with h | ⟨xs_m_0_0, rfl, h⟩
      · exact fb h
      replace h := seeCons_use h
      rcases h with h | ⟨a16, q17, rfl, h⟩
      · exact fb h
      replace h := seeInts_use h
      rcases h with h | ⟨xs_m_0_1, rfl, h⟩
      · exact fb h
      replace h := seeCons_use h
      rcases h with h | ⟨a18, q19, rfl, h⟩
      · exact fb h
      replace h := seeInts_use h
      rcases h with h | ⟨xs_m_0_2, rfl, h⟩
      · exact fb h
      replace h := seeNil_use h
      rcases h with h | ⟨rfl, h⟩
      · exact fb h
      replace h := seeCons_use h
      rcases h with h | ⟨a20, q21, rfl, h⟩
      · exact fb h
      replace h := seeBlk_use h
      rcases h with h | ⟨cs22, rfl, h⟩
      · exact fb h
      replace h := seeCons_use h
      rcases h with h | ⟨a23, q24, rfl, h⟩
      · exact fb h
      replace h := seeVals_use h
      rcases h with h | ⟨xs25, rfl, h⟩
      · exact fb h
      replace h := seeCons_use h
      rcases h with h | ⟨a26, q27, rfl, h⟩
      · exact fb h
      replace h := seeV_use h
      rcases h with h | ⟨rfl, h⟩
      · exact fb h
      replace h := seeNil_use h
      rcases h with h | ⟨rfl, h⟩
      · exact fb h
      replace h := seeNil_use h
      rcases h with h | ⟨rfl, h⟩
      · exact fb h
      replace h := seeNil_use h
      rcases h with h | ⟨rfl, h⟩
      · exact fb h
      obtain ⟨rfl, n, h⟩ := h
      exact loop_use named C1_ok (LoopsOk.none _ _) (RL100_33_ok  K n _ _ _ _ _ _ _ _ _ _ _) h hS0 ha hJ hlen ⟨e1, e2, e3, e4, e5, e6, e7, e8, e9, e10, trivial⟩ (eqm ▸ hS2) hρ2 hd hQ
    · cases h
  · exact hW r lf h
def primsM (N : Nat) : Prims := fun f =>
  match Nat.beq f 150 with
  | true => some (p3 rotS)
  | false =>
  match Nat.beq f 100 with
  | true => some (p3 (mrgN N))
  | false => prims1 f
theorem primsM_ok (N : Nat) (h : PrimOk Tryz.prog 100 (p3 (mrgN N))) : PrimsOk Tryz.prog (primsM N) := by
  intro f g hg
  unfold primsM at hg
  split at hg
  · rename_i hf
    obtain rfl := Nat.eq_of_beq_eq_true hf
    cases hg
    exact P150_ok
  · skip
    split at hg
    · rename_i hf
      obtain rfl := Nat.eq_of_beq_eq_true hf
      cases hg
      exact h
    · skip
      exact prims1_ok f g hg
def CM (N : Nat) : CC := call Tryz.prog (primsM N) 1000
theorem CM_ok (N : Nat) (h : PrimOk Tryz.prog 100 (p3 (mrgN N))) : CallsOk Tryz.prog (CM N) := call_sound named (primsM_ok N h) 1000
theorem at100 : Tryz.prog.funcs[100]? = some (fnOf Tryz.prog 100) := by kernel_rfl
abbrev Y100 : Type := Int → Int → Int → List Int → List Int → List Int → (List Int → List Int → List Int → Prop) → (Prop) → Prop
set_option maxHeartbeats 4000000 in
set_option maxRecDepth 100000 in
def F100 (N : Nat) (l100_3 : YL100_3) (l100_9 : YL100_9) (l100_15 : YL100_15) (l100_21 : YL100_21) (l100_33 : YL100_33) (a : Int) (b : Int) (c : Int) (xs : List Int) (ts : List Int) (ns : List Int) (k1 : List Int → List Int → List Int → Prop) (k2 : Prop) : Prop :=
  (bif ((IntKind.wrap .i64 (b - a)) == (1 : Int)) then (l100_3 XL100_3 a b c xs ts ns (fun (n1 : Int) => (l100_9 XL100_9 n1 a xs ts ns (fun (xs2 : List Int) (xs3 : List Int) (xs4 : List Int) => (k1 xs2 xs3 xs4))))) else (bif ((IntKind.wrap .i64 (c - b)) == (1 : Int)) then (l100_15 XL100_15 b a b xs ts ns (fun (n5 : Int) => (l100_21 XL100_21 n5 b xs ts ns (fun (xs6 : List Int) (xs7 : List Int) (xs8 : List Int) => (k1 xs6 xs7 xs8))))) else (bif (decide (b > (IntKind.wrap .i64 (Int.fdiv (IntKind.wrap .u64 (IntKind.wrap .i64 (a + c))) (2 ^ 1))))) then (l100_33 XL100_33 a b c (IntKind.wrap .i64 (Int.fdiv (IntKind.wrap .u64 (IntKind.wrap .i64 (a + c))) (2 ^ 1))) (IntKind.wrap .i64 ((IntKind.wrap .i64 (Int.fdiv (IntKind.wrap .u64 (IntKind.wrap .i64 (a + c))) (2 ^ 1))) + b)) (IntKind.wrap .i64 ((IntKind.wrap .i64 ((IntKind.wrap .i64 (Int.fdiv (IntKind.wrap .u64 (IntKind.wrap .i64 (a + c))) (2 ^ 1))) + b)) - c)) (IntKind.wrap .i64 (Int.fdiv (IntKind.wrap .u64 (IntKind.wrap .i64 (a + c))) (2 ^ 1))) (IntKind.wrap .i64 ((IntKind.wrap .i64 ((IntKind.wrap .i64 (Int.fdiv (IntKind.wrap .u64 (IntKind.wrap .i64 (a + c))) (2 ^ 1))) + b)) - (1 : Int))) xs ts ns (fun (n9 : Int) => (bif (decide (n9 < b)) then (bif (decide (b < (IntKind.wrap .i64 ((IntKind.wrap .i64 ((IntKind.wrap .i64 (Int.fdiv (IntKind.wrap .u64 (IntKind.wrap .i64 (a + c))) (2 ^ 1))) + b)) - n9)))) then (rotS n9 b (IntKind.wrap .i64 ((IntKind.wrap .i64 ((IntKind.wrap .i64 (Int.fdiv (IntKind.wrap .u64 (IntKind.wrap .i64 (a + c))) (2 ^ 1))) + b)) - n9)) xs ts ns (fun (sx10 : List Int) (st11 : List Int) (sn12 : List Int) => (bif (decide (a < n9)) then (bif (decide (n9 < (IntKind.wrap .i64 (Int.fdiv (IntKind.wrap .u64 (IntKind.wrap .i64 (a + c))) (2 ^ 1))))) then (mrgN N a n9 (IntKind.wrap .i64 (Int.fdiv (IntKind.wrap .u64 (IntKind.wrap .i64 (a + c))) (2 ^ 1))) sx10 st11 sn12 (fun (sx13 : List Int) (st14 : List Int) (sn15 : List Int) => (bif (decide ((IntKind.wrap .i64 (Int.fdiv (IntKind.wrap .u64 (IntKind.wrap .i64 (a + c))) (2 ^ 1))) < (IntKind.wrap .i64 ((IntKind.wrap .i64 ((IntKind.wrap .i64 (Int.fdiv (IntKind.wrap .u64 (IntKind.wrap .i64 (a + c))) (2 ^ 1))) + b)) - n9)))) then (bif (decide ((IntKind.wrap .i64 ((IntKind.wrap .i64 ((IntKind.wrap .i64 (Int.fdiv (IntKind.wrap .u64 (IntKind.wrap .i64 (a + c))) (2 ^ 1))) + b)) - n9)) < c)) then (mrgN N (IntKind.wrap .i64 (Int.fdiv (IntKind.wrap .u64 (IntKind.wrap .i64 (a + c))) (2 ^ 1))) (IntKind.wrap .i64 ((IntKind.wrap .i64 ((IntKind.wrap .i64 (Int.fdiv (IntKind.wrap .u64 (IntKind.wrap .i64 (a + c))) (2 ^ 1))) + b)) - n9)) c sx13 st14 sn15 (fun (sx16 : List Int) (st17 : List Int) (sn18 : List Int) => (k1 sx16 st17 sn18))) else (k1 sx13 st14 sn15)) else (k1 sx13 st14 sn15)))) else (bif (decide ((IntKind.wrap .i64 (Int.fdiv (IntKind.wrap .u64 (IntKind.wrap .i64 (a + c))) (2 ^ 1))) < (IntKind.wrap .i64 ((IntKind.wrap .i64 ((IntKind.wrap .i64 (Int.fdiv (IntKind.wrap .u64 (IntKind.wrap .i64 (a + c))) (2 ^ 1))) + b)) - n9)))) then (bif (decide ((IntKind.wrap .i64 ((IntKind.wrap .i64 ((IntKind.wrap .i64 (Int.fdiv (IntKind.wrap .u64 (IntKind.wrap .i64 (a + c))) (2 ^ 1))) + b)) - n9)) < c)) then (mrgN N (IntKind.wrap .i64 (Int.fdiv (IntKind.wrap .u64 (IntKind.wrap .i64 (a + c))) (2 ^ 1))) (IntKind.wrap .i64 ((IntKind.wrap .i64 ((IntKind.wrap .i64 (Int.fdiv (IntKind.wrap .u64 (IntKind.wrap .i64 (a + c))) (2 ^ 1))) + b)) - n9)) c sx10 st11 sn12 (fun (sx19 : List Int) (st20 : List Int) (sn21 : List Int) => (k1 sx19 st20 sn21))) else (k1 sx10 st11 sn12)) else (k1 sx10 st11 sn12))) else (bif (decide ((IntKind.wrap .i64 (Int.fdiv (IntKind.wrap .u64 (IntKind.wrap .i64 (a + c))) (2 ^ 1))) < (IntKind.wrap .i64 ((IntKind.wrap .i64 ((IntKind.wrap .i64 (Int.fdiv (IntKind.wrap .u64 (IntKind.wrap .i64 (a + c))) (2 ^ 1))) + b)) - n9)))) then (bif (decide ((IntKind.wrap .i64 ((IntKind.wrap .i64 ((IntKind.wrap .i64 (Int.fdiv (IntKind.wrap .u64 (IntKind.wrap .i64 (a + c))) (2 ^ 1))) + b)) - n9)) < c)) then (mrgN N (IntKind.wrap .i64 (Int.fdiv (IntKind.wrap .u64 (IntKind.wrap .i64 (a + c))) (2 ^ 1))) (IntKind.wrap .i64 ((IntKind.wrap .i64 ((IntKind.wrap .i64 (Int.fdiv (IntKind.wrap .u64 (IntKind.wrap .i64 (a + c))) (2 ^ 1))) + b)) - n9)) c sx10 st11 sn12 (fun (sx22 : List Int) (st23 : List Int) (sn24 : List Int) => (k1 sx22 st23 sn24))) else (k1 sx10 st11 sn12)) else (k1 sx10 st11 sn12))))) else (bif (decide (a < n9)) then (bif (decide (n9 < (IntKind.wrap .i64 (Int.fdiv (IntKind.wrap .u64 (IntKind.wrap .i64 (a + c))) (2 ^ 1))))) then (mrgN N a n9 (IntKind.wrap .i64 (Int.fdiv (IntKind.wrap .u64 (IntKind.wrap .i64 (a + c))) (2 ^ 1))) xs ts ns (fun (sx25 : List Int) (st26 : List Int) (sn27 : List Int) => (bif (decide ((IntKind.wrap .i64 (Int.fdiv (IntKind.wrap .u64 (IntKind.wrap .i64 (a + c))) (2 ^ 1))) < (IntKind.wrap .i64 ((IntKind.wrap .i64 ((IntKind.wrap .i64 (Int.fdiv (IntKind.wrap .u64 (IntKind.wrap .i64 (a + c))) (2 ^ 1))) + b)) - n9)))) then (bif (decide ((IntKind.wrap .i64 ((IntKind.wrap .i64 ((IntKind.wrap .i64 (Int.fdiv (IntKind.wrap .u64 (IntKind.wrap .i64 (a + c))) (2 ^ 1))) + b)) - n9)) < c)) then (mrgN N (IntKind.wrap .i64 (Int.fdiv (IntKind.wrap .u64 (IntKind.wrap .i64 (a + c))) (2 ^ 1))) (IntKind.wrap .i64 ((IntKind.wrap .i64 ((IntKind.wrap .i64 (Int.fdiv (IntKind.wrap .u64 (IntKind.wrap .i64 (a + c))) (2 ^ 1))) + b)) - n9)) c sx25 st26 sn27 (fun (sx28 : List Int) (st29 : List Int) (sn30 : List Int) => (k1 sx28 st29 sn30))) else (k1 sx25 st26 sn27)) else (k1 sx25 st26 sn27)))) else (bif (decide ((IntKind.wrap .i64 (Int.fdiv (IntKind.wrap .u64 (IntKind.wrap .i64 (a + c))) (2 ^ 1))) < (IntKind.wrap .i64 ((IntKind.wrap .i64 ((IntKind.wrap .i64 (Int.fdiv (IntKind.wrap .u64 (IntKind.wrap .i64 (a + c))) (2 ^ 1))) + b)) - n9)))) then (bif (decide ((IntKind.wrap .i64 ((IntKind.wrap .i64 ((IntKind.wrap .i64 (Int.fdiv (IntKind.wrap .u64 (IntKind.wrap .i64 (a + c))) (2 ^ 1))) + b)) - n9)) < c)) then (mrgN N (IntKind.wrap .i64 (Int.fdiv (IntKind.wrap .u64 (IntKind.wrap .i64 (a + c))) (2 ^ 1))) (IntKind.wrap .i64 ((IntKind.wrap .i64 ((IntKind.wrap .i64 (Int.fdiv (IntKind.wrap .u64 (IntKind.wrap .i64 (a + c))) (2 ^ 1))) + b)) - n9)) c xs ts ns (fun (sx31 : List Int) (st32 : List Int) (sn33 : List Int) => (k1 sx31 st32 sn33))) else (k2)) else (k2))) else (bif (decide ((IntKind.wrap .i64 (Int.fdiv (IntKind.wrap .u64 (IntKind.wrap .i64 (a + c))) (2 ^ 1))) < (IntKind.wrap .i64 ((IntKind.wrap .i64 ((IntKind.wrap .i64 (Int.fdiv (IntKind.wrap .u64 (IntKind.wrap .i64 (a + c))) (2 ^ 1))) + b)) - n9)))) then (bif (decide ((IntKind.wrap .i64 ((IntKind.wrap .i64 ((IntKind.wrap .i64 (Int.fdiv (IntKind.wrap .u64 (IntKind.wrap .i64 (a + c))) (2 ^ 1))) + b)) - n9)) < c)) then (mrgN N (IntKind.wrap .i64 (Int.fdiv (IntKind.wrap .u64 (IntKind.wrap .i64 (a + c))) (2 ^ 1))) (IntKind.wrap .i64 ((IntKind.wrap .i64 ((IntKind.wrap .i64 (Int.fdiv (IntKind.wrap .u64 (IntKind.wrap .i64 (a + c))) (2 ^ 1))) + b)) - n9)) c xs ts ns (fun (sx34 : List Int) (st35 : List Int) (sn36 : List Int) => (k1 sx34 st35 sn36))) else (k2)) else (k2)))) else (bif (decide (a < n9)) then (bif (decide (n9 < (IntKind.wrap .i64 (Int.fdiv (IntKind.wrap .u64 (IntKind.wrap .i64 (a + c))) (2 ^ 1))))) then (mrgN N a n9 (IntKind.wrap .i64 (Int.fdiv (IntKind.wrap .u64 (IntKind.wrap .i64 (a + c))) (2 ^ 1))) xs ts ns (fun (sx37 : List Int) (st38 : List Int) (sn39 : List Int) => (bif (decide ((IntKind.wrap .i64 (Int.fdiv (IntKind.wrap .u64 (IntKind.wrap .i64 (a + c))) (2 ^ 1))) < (IntKind.wrap .i64 ((IntKind.wrap .i64 ((IntKind.wrap .i64 (Int.fdiv (IntKind.wrap .u64 (IntKind.wrap .i64 (a + c))) (2 ^ 1))) + b)) - n9)))) then (bif (decide ((IntKind.wrap .i64 ((IntKind.wrap .i64 ((IntKind.wrap .i64 (Int.fdiv (IntKind.wrap .u64 (IntKind.wrap .i64 (a + c))) (2 ^ 1))) + b)) - n9)) < c)) then (mrgN N (IntKind.wrap .i64 (Int.fdiv (IntKind.wrap .u64 (IntKind.wrap .i64 (a + c))) (2 ^ 1))) (IntKind.wrap .i64 ((IntKind.wrap .i64 ((IntKind.wrap .i64 (Int.fdiv (IntKind.wrap .u64 (IntKind.wrap .i64 (a + c))) (2 ^ 1))) + b)) - n9)) c sx37 st38 sn39 (fun (sx40 : List Int) (st41 : List Int) (sn42 : List Int) => (k1 sx40 st41 sn42))) else (k1 sx37 st38 sn39)) else (k1 sx37 st38 sn39)))) else (bif (decide ((IntKind.wrap .i64 (Int.fdiv (IntKind.wrap .u64 (IntKind.wrap .i64 (a + c))) (2 ^ 1))) < (IntKind.wrap .i64 ((IntKind.wrap .i64 ((IntKind.wrap .i64 (Int.fdiv (IntKind.wrap .u64 (IntKind.wrap .i64 (a + c))) (2 ^ 1))) + b)) - n9)))) then (bif (decide ((IntKind.wrap .i64 ((IntKind.wrap .i64 ((IntKind.wrap .i64 (Int.fdiv (IntKind.wrap .u64 (IntKind.wrap .i64 (a + c))) (2 ^ 1))) + b)) - n9)) < c)) then (mrgN N (IntKind.wrap .i64 (Int.fdiv (IntKind.wrap .u64 (IntKind.wrap .i64 (a + c))) (2 ^ 1))) (IntKind.wrap .i64 ((IntKind.wrap .i64 ((IntKind.wrap .i64 (Int.fdiv (IntKind.wrap .u64 (IntKind.wrap .i64 (a + c))) (2 ^ 1))) + b)) - n9)) c xs ts ns (fun (sx43 : List Int) (st44 : List Int) (sn45 : List Int) => (k1 sx43 st44 sn45))) else (k2)) else (k2))) else (bif (decide ((IntKind.wrap .i64 (Int.fdiv (IntKind.wrap .u64 (IntKind.wrap .i64 (a + c))) (2 ^ 1))) < (IntKind.wrap .i64 ((IntKind.wrap .i64 ((IntKind.wrap .i64 (Int.fdiv (IntKind.wrap .u64 (IntKind.wrap .i64 (a + c))) (2 ^ 1))) + b)) - n9)))) then (bif (decide ((IntKind.wrap .i64 ((IntKind.wrap .i64 ((IntKind.wrap .i64 (Int.fdiv (IntKind.wrap .u64 (IntKind.wrap .i64 (a + c))) (2 ^ 1))) + b)) - n9)) < c)) then (mrgN N (IntKind.wrap .i64 (Int.fdiv (IntKind.wrap .u64 (IntKind.wrap .i64 (a + c))) (2 ^ 1))) (IntKind.wrap .i64 ((IntKind.wrap .i64 ((IntKind.wrap .i64 (Int.fdiv (IntKind.wrap .u64 (IntKind.wrap .i64 (a + c))) (2 ^ 1))) + b)) - n9)) c xs ts ns (fun (sx46 : List Int) (st47 : List Int) (sn48 : List Int) => (k1 sx46 st47 sn48))) else (k2)) else (k2)))))) else (l100_33 XL100_33 a b c (IntKind.wrap .i64 (Int.fdiv (IntKind.wrap .u64 (IntKind.wrap .i64 (a + c))) (2 ^ 1))) (IntKind.wrap .i64 ((IntKind.wrap .i64 (Int.fdiv (IntKind.wrap .u64 (IntKind.wrap .i64 (a + c))) (2 ^ 1))) + b)) a b (IntKind.wrap .i64 ((IntKind.wrap .i64 ((IntKind.wrap .i64 (Int.fdiv (IntKind.wrap .u64 (IntKind.wrap .i64 (a + c))) (2 ^ 1))) + b)) - (1 : Int))) xs ts ns (fun (n49 : Int) => (bif (decide (n49 < b)) then (bif (decide (b < (IntKind.wrap .i64 ((IntKind.wrap .i64 ((IntKind.wrap .i64 (Int.fdiv (IntKind.wrap .u64 (IntKind.wrap .i64 (a + c))) (2 ^ 1))) + b)) - n49)))) then (rotS n49 b (IntKind.wrap .i64 ((IntKind.wrap .i64 ((IntKind.wrap .i64 (Int.fdiv (IntKind.wrap .u64 (IntKind.wrap .i64 (a + c))) (2 ^ 1))) + b)) - n49)) xs ts ns (fun (sx50 : List Int) (st51 : List Int) (sn52 : List Int) => (bif (decide (a < n49)) then (bif (decide (n49 < (IntKind.wrap .i64 (Int.fdiv (IntKind.wrap .u64 (IntKind.wrap .i64 (a + c))) (2 ^ 1))))) then (mrgN N a n49 (IntKind.wrap .i64 (Int.fdiv (IntKind.wrap .u64 (IntKind.wrap .i64 (a + c))) (2 ^ 1))) sx50 st51 sn52 (fun (sx53 : List Int) (st54 : List Int) (sn55 : List Int) => (bif (decide ((IntKind.wrap .i64 (Int.fdiv (IntKind.wrap .u64 (IntKind.wrap .i64 (a + c))) (2 ^ 1))) < (IntKind.wrap .i64 ((IntKind.wrap .i64 ((IntKind.wrap .i64 (Int.fdiv (IntKind.wrap .u64 (IntKind.wrap .i64 (a + c))) (2 ^ 1))) + b)) - n49)))) then (bif (decide ((IntKind.wrap .i64 ((IntKind.wrap .i64 ((IntKind.wrap .i64 (Int.fdiv (IntKind.wrap .u64 (IntKind.wrap .i64 (a + c))) (2 ^ 1))) + b)) - n49)) < c)) then (mrgN N (IntKind.wrap .i64 (Int.fdiv (IntKind.wrap .u64 (IntKind.wrap .i64 (a + c))) (2 ^ 1))) (IntKind.wrap .i64 ((IntKind.wrap .i64 ((IntKind.wrap .i64 (Int.fdiv (IntKind.wrap .u64 (IntKind.wrap .i64 (a + c))) (2 ^ 1))) + b)) - n49)) c sx53 st54 sn55 (fun (sx56 : List Int) (st57 : List Int) (sn58 : List Int) => (k1 sx56 st57 sn58))) else (k1 sx53 st54 sn55)) else (k1 sx53 st54 sn55)))) else (bif (decide ((IntKind.wrap .i64 (Int.fdiv (IntKind.wrap .u64 (IntKind.wrap .i64 (a + c))) (2 ^ 1))) < (IntKind.wrap .i64 ((IntKind.wrap .i64 ((IntKind.wrap .i64 (Int.fdiv (IntKind.wrap .u64 (IntKind.wrap .i64 (a + c))) (2 ^ 1))) + b)) - n49)))) then (bif (decide ((IntKind.wrap .i64 ((IntKind.wrap .i64 ((IntKind.wrap .i64 (Int.fdiv (IntKind.wrap .u64 (IntKind.wrap .i64 (a + c))) (2 ^ 1))) + b)) - n49)) < c)) then (mrgN N (IntKind.wrap .i64 (Int.fdiv (IntKind.wrap .u64 (IntKind.wrap .i64 (a + c))) (2 ^ 1))) (IntKind.wrap .i64 ((IntKind.wrap .i64 ((IntKind.wrap .i64 (Int.fdiv (IntKind.wrap .u64 (IntKind.wrap .i64 (a + c))) (2 ^ 1))) + b)) - n49)) c sx50 st51 sn52 (fun (sx59 : List Int) (st60 : List Int) (sn61 : List Int) => (k1 sx59 st60 sn61))) else (k1 sx50 st51 sn52)) else (k1 sx50 st51 sn52))) else (bif (decide ((IntKind.wrap .i64 (Int.fdiv (IntKind.wrap .u64 (IntKind.wrap .i64 (a + c))) (2 ^ 1))) < (IntKind.wrap .i64 ((IntKind.wrap .i64 ((IntKind.wrap .i64 (Int.fdiv (IntKind.wrap .u64 (IntKind.wrap .i64 (a + c))) (2 ^ 1))) + b)) - n49)))) then (bif (decide ((IntKind.wrap .i64 ((IntKind.wrap .i64 ((IntKind.wrap .i64 (Int.fdiv (IntKind.wrap .u64 (IntKind.wrap .i64 (a + c))) (2 ^ 1))) + b)) - n49)) < c)) then (mrgN N (IntKind.wrap .i64 (Int.fdiv (IntKind.wrap .u64 (IntKind.wrap .i64 (a + c))) (2 ^ 1))) (IntKind.wrap .i64 ((IntKind.wrap .i64 ((IntKind.wrap .i64 (Int.fdiv (IntKind.wrap .u64 (IntKind.wrap .i64 (a + c))) (2 ^ 1))) + b)) - n49)) c sx50 st51 sn52 (fun (sx62 : List Int) (st63 : List Int) (sn64 : List Int) => (k1 sx62 st63 sn64))) else (k1 sx50 st51 sn52)) else (k1 sx50 st51 sn52))))) else (bif (decide (a < n49)) then (bif (decide (n49 < (IntKind.wrap .i64 (Int.fdiv (IntKind.wrap .u64 (IntKind.wrap .i64 (a + c))) (2 ^ 1))))) then (mrgN N a n49 (IntKind.wrap .i64 (Int.fdiv (IntKind.wrap .u64 (IntKind.wrap .i64 (a + c))) (2 ^ 1))) xs ts ns (fun (sx65 : List Int) (st66 : List Int) (sn67 : List Int) => (bif (decide ((IntKind.wrap .i64 (Int.fdiv (IntKind.wrap .u64 (IntKind.wrap .i64 (a + c))) (2 ^ 1))) < (IntKind.wrap .i64 ((IntKind.wrap .i64 ((IntKind.wrap .i64 (Int.fdiv (IntKind.wrap .u64 (IntKind.wrap .i64 (a + c))) (2 ^ 1))) + b)) - n49)))) then (bif (decide ((IntKind.wrap .i64 ((IntKind.wrap .i64 ((IntKind.wrap .i64 (Int.fdiv (IntKind.wrap .u64 (IntKind.wrap .i64 (a + c))) (2 ^ 1))) + b)) - n49)) < c)) then (mrgN N (IntKind.wrap .i64 (Int.fdiv (IntKind.wrap .u64 (IntKind.wrap .i64 (a + c))) (2 ^ 1))) (IntKind.wrap .i64 ((IntKind.wrap .i64 ((IntKind.wrap .i64 (Int.fdiv (IntKind.wrap .u64 (IntKind.wrap .i64 (a + c))) (2 ^ 1))) + b)) - n49)) c sx65 st66 sn67 (fun (sx68 : List Int) (st69 : List Int) (sn70 : List Int) => (k1 sx68 st69 sn70))) else (k1 sx65 st66 sn67)) else (k1 sx65 st66 sn67)))) else (bif (decide ((IntKind.wrap .i64 (Int.fdiv (IntKind.wrap .u64 (IntKind.wrap .i64 (a + c))) (2 ^ 1))) < (IntKind.wrap .i64 ((IntKind.wrap .i64 ((IntKind.wrap .i64 (Int.fdiv (IntKind.wrap .u64 (IntKind.wrap .i64 (a + c))) (2 ^ 1))) + b)) - n49)))) then (bif (decide ((IntKind.wrap .i64 ((IntKind.wrap .i64 ((IntKind.wrap .i64 (Int.fdiv (IntKind.wrap .u64 (IntKind.wrap .i64 (a + c))) (2 ^ 1))) + b)) - n49)) < c)) then (mrgN N (IntKind.wrap .i64 (Int.fdiv (IntKind.wrap .u64 (IntKind.wrap .i64 (a + c))) (2 ^ 1))) (IntKind.wrap .i64 ((IntKind.wrap .i64 ((IntKind.wrap .i64 (Int.fdiv (IntKind.wrap .u64 (IntKind.wrap .i64 (a + c))) (2 ^ 1))) + b)) - n49)) c xs ts ns (fun (sx71 : List Int) (st72 : List Int) (sn73 : List Int) => (k1 sx71 st72 sn73))) else (k2)) else (k2))) else (bif (decide ((IntKind.wrap .i64 (Int.fdiv (IntKind.wrap .u64 (IntKind.wrap .i64 (a + c))) (2 ^ 1))) < (IntKind.wrap .i64 ((IntKind.wrap .i64 ((IntKind.wrap .i64 (Int.fdiv (IntKind.wrap .u64 (IntKind.wrap .i64 (a + c))) (2 ^ 1))) + b)) - n49)))) then (bif (decide ((IntKind.wrap .i64 ((IntKind.wrap .i64 ((IntKind.wrap .i64 (Int.fdiv (IntKind.wrap .u64 (IntKind.wrap .i64 (a + c))) (2 ^ 1))) + b)) - n49)) < c)) then (mrgN N (IntKind.wrap .i64 (Int.fdiv (IntKind.wrap .u64 (IntKind.wrap .i64 (a + c))) (2 ^ 1))) (IntKind.wrap .i64 ((IntKind.wrap .i64 ((IntKind.wrap .i64 (Int.fdiv (IntKind.wrap .u64 (IntKind.wrap .i64 (a + c))) (2 ^ 1))) + b)) - n49)) c xs ts ns (fun (sx74 : List Int) (st75 : List Int) (sn76 : List Int) => (k1 sx74 st75 sn76))) else (k2)) else (k2)))) else (bif (decide (a < n49)) then (bif (decide (n49 < (IntKind.wrap .i64 (Int.fdiv (IntKind.wrap .u64 (IntKind.wrap .i64 (a + c))) (2 ^ 1))))) then (mrgN N a n49 (IntKind.wrap .i64 (Int.fdiv (IntKind.wrap .u64 (IntKind.wrap .i64 (a + c))) (2 ^ 1))) xs ts ns (fun (sx77 : List Int) (st78 : List Int) (sn79 : List Int) => (bif (decide ((IntKind.wrap .i64 (Int.fdiv (IntKind.wrap .u64 (IntKind.wrap .i64 (a + c))) (2 ^ 1))) < (IntKind.wrap .i64 ((IntKind.wrap .i64 ((IntKind.wrap .i64 (Int.fdiv (IntKind.wrap .u64 (IntKind.wrap .i64 (a + c))) (2 ^ 1))) + b)) - n49)))) then (bif (decide ((IntKind.wrap .i64 ((IntKind.wrap .i64 ((IntKind.wrap .i64 (Int.fdiv (IntKind.wrap .u64 (IntKind.wrap .i64 (a + c))) (2 ^ 1))) + b)) - n49)) < c)) then (mrgN N (IntKind.wrap .i64 (Int.fdiv (IntKind.wrap .u64 (IntKind.wrap .i64 (a + c))) (2 ^ 1))) (IntKind.wrap .i64 ((IntKind.wrap .i64 ((IntKind.wrap .i64 (Int.fdiv (IntKind.wrap .u64 (IntKind.wrap .i64 (a + c))) (2 ^ 1))) + b)) - n49)) c sx77 st78 sn79 (fun (sx80 : List Int) (st81 : List Int) (sn82 : List Int) => (k1 sx80 st81 sn82))) else (k1 sx77 st78 sn79)) else (k1 sx77 st78 sn79)))) else (bif (decide ((IntKind.wrap .i64 (Int.fdiv (IntKind.wrap .u64 (IntKind.wrap .i64 (a + c))) (2 ^ 1))) < (IntKind.wrap .i64 ((IntKind.wrap .i64 ((IntKind.wrap .i64 (Int.fdiv (IntKind.wrap .u64 (IntKind.wrap .i64 (a + c))) (2 ^ 1))) + b)) - n49)))) then (bif (decide ((IntKind.wrap .i64 ((IntKind.wrap .i64 ((IntKind.wrap .i64 (Int.fdiv (IntKind.wrap .u64 (IntKind.wrap .i64 (a + c))) (2 ^ 1))) + b)) - n49)) < c)) then (mrgN N (IntKind.wrap .i64 (Int.fdiv (IntKind.wrap .u64 (IntKind.wrap .i64 (a + c))) (2 ^ 1))) (IntKind.wrap .i64 ((IntKind.wrap .i64 ((IntKind.wrap .i64 (Int.fdiv (IntKind.wrap .u64 (IntKind.wrap .i64 (a + c))) (2 ^ 1))) + b)) - n49)) c xs ts ns (fun (sx83 : List Int) (st84 : List Int) (sn85 : List Int) => (k1 sx83 st84 sn85))) else (k2)) else (k2))) else (bif (decide ((IntKind.wrap .i64 (Int.fdiv (IntKind.wrap .u64 (IntKind.wrap .i64 (a + c))) (2 ^ 1))) < (IntKind.wrap .i64 ((IntKind.wrap .i64 ((IntKind.wrap .i64 (Int.fdiv (IntKind.wrap .u64 (IntKind.wrap .i64 (a + c))) (2 ^ 1))) + b)) - n49)))) then (bif (decide ((IntKind.wrap .i64 ((IntKind.wrap .i64 ((IntKind.wrap .i64 (Int.fdiv (IntKind.wrap .u64 (IntKind.wrap .i64 (a + c))) (2 ^ 1))) + b)) - n49)) < c)) then (mrgN N (IntKind.wrap .i64 (Int.fdiv (IntKind.wrap .u64 (IntKind.wrap .i64 (a + c))) (2 ^ 1))) (IntKind.wrap .i64 ((IntKind.wrap .i64 ((IntKind.wrap .i64 (Int.fdiv (IntKind.wrap .u64 (IntKind.wrap .i64 (a + c))) (2 ^ 1))) + b)) - n49)) c xs ts ns (fun (sx86 : List Int) (st87 : List Int) (sn88 : List Int) => (k1 sx86 st87 sn88))) else (k2)) else (k2)))))))))
theorem F100_ok (N : Nat) (l100_3 : YL100_3) (l100_9 : YL100_9) (l100_15 : YL100_15) (l100_21 : YL100_21) (l100_33 : YL100_33) (a : Int) (b : Int) (c : Int) (xs : List Int) (ts : List Int) (ns : List Int) (K : V → Mem → Prop) : cbody Tryz.prog (CM N) (WL100_3 l100_3 (WL100_9 l100_9 (WL100_15 l100_15 (WL100_21 l100_21 (WL100_33 l100_33 (fun _ => none)))))) 1000 (fnOf Tryz.prog 100) [(.sl 0 (0 : Nat) (none : Option Nat) (none : Option Nat)), (.I .i64 a), (.I .i64 b), (.I .i64 c), (.fn (.func 23) [] [(.ptr 1 (0 : Nat) 0)])] [⟨[.ints .i64 xs, .ints .i64 ts, .ints .i64 ns], 47, false, false⟩, ⟨[.vals [(.fn (.func 21) [] [])]], 54, false, false⟩] K =
    F100 N l100_3 l100_9 l100_15 l100_21 l100_33 a b c xs ts ns (fun (u0 : List Int) (u1 : List Int) (u2 : List Int) => K (.tup []) [⟨[.ints .i64 u0, .ints .i64 u1, .ints .i64 u2], 47, false, false⟩, ⟨[.vals [(.fn (.func 21) [] [])]], 54, false, false⟩]) (K (.tup []) [⟨[.ints .i64 xs, .ints .i64 ts, .ints .i64 ns], 47, false, false⟩, ⟨[.vals [(.fn (.func 21) [] [])]], 54, false, false⟩]) := by kernel_rfl
/-! ### Merging -/
theorem getD_map0 (f : R → Int) (hf : f (0, 0, 0) = 0) (L : List R) (i : Nat) : List.getD (L.map f) i 0 = f (L.getD i (0, 0, 0)) := by
  simp only [List.getD_eq_getElem?_getD, List.getElem?_map]
  cases L[i]? with
  | none => simp [hf]
  | some x => simp
theorem getD0_is {L A B : List R} {x : R} {i : Nat} (h : L = A ++ x :: B) (hi : i = A.length) : L.getD i (0, 0, 0) = x := by
  subst h; subst hi; simp [List.getD_eq_getElem?_getD]
def nth (L : List R) (i : Nat) : R := L.getD i (0, 0, 0)
theorem cmp_nth (L : List R) (i j : Nat) : cmpF (List.getD (L.map f1) i 0) (List.getD (L.map f2) i 0) (List.getD (L.map f1) j 0) (List.getD (L.map f2) j 0) = cmpF (nth L i).1 (nth L i).2.1 (nth L j).1 (nth L j).2.1 := by
  rw [getD_map0 f1 rfl, getD_map0 f2 rfl, getD_map0 f1 rfl, getD_map0 f2 rfl]; rfl
theorem bif_not {q A B : Prop} {d : Decidable q} (h1 : q → B) (h2 : ¬ q → A) : bif (!(@decide q d)) then A else B := by
  cases d with
  | isTrue h => exact h1 h
  | isFalse h => exact h2 h
/-- A place found by halving: on its left the last one goes on, on its right the next one stops. -/
def Found (pr : Nat → Prop) (lo hi : Nat) (s : Nat) : Prop := lo ≤ s ∧ s ≤ hi ∧ (s = lo ∨ pr (s - 1)) ∧ (s = hi ∨ ¬ pr s)
theorem bs_3 (L : List R) (x lo0 hi0 : Nat) (hx : x < L.length) (hL : small L.length) (h0 : hi0 ≤ L.length) (k : Int → Prop)
    (hk : ∀ s, Found (fun c => ltR (nth L c) (nth L x) = true) lo0 hi0 s → k ((s : Nat) : Int)) :
    ∀ (n lo hi : Nat), hi - lo ≤ n → lo ≤ hi → lo0 ≤ lo → hi ≤ hi0 → (lo = lo0 ∨ ltR (nth L (lo - 1)) (nth L x) = true) → (hi = hi0 ∨ ¬ ltR (nth L hi) (nth L x) = true) →
      RL100_3 (n + 1) ((x : Nat) : Int) ((lo : Nat) : Int) ((hi : Nat) : Int) (L.map f1) (L.map f2) (L.map f3) k := by
  unfold small at hL
  intro n
  induction n with
  | zero =>
    intro lo hi hn hle h1 h2 h3 h4
    show HL100_3 _ _ _ _ _ _ _ _
    unfold HL100_3
    rw [decide_eq_false (by omega : ¬ ((lo : Nat) : Int) < ((hi : Nat) : Int))]
    exact hk lo ⟨h1, by omega, h3, by have : lo = hi := by omega
                                      subst this; exact h4⟩
  | succ n ih =>
    intro lo hi hn hle h1 h2 h3 h4
    show HL100_3 _ _ _ _ _ _ _ _
    unfold HL100_3
    by_cases hlt : lo < hi
    · rw [decide_eq_true (by omega : ((lo : Nat) : Int) < ((hi : Nat) : Int)), mid_eq (by omega)]
      simp only [Int.toNat_natCast]
      have em : IntKind.wrap .i64 ((((lo + hi) / 2 : Nat) : Int) + 1) = (((lo + hi) / 2 + 1 : Nat) : Int) := by rw [w64 (by omega) (by omega)]; omega
      rw [em, inb (by omega), inb hx]
      simp only [cond_true, cmp_nth]
      refine bif_dec (fun hc => ?_) (fun hc => ?_)
      · exact ih _ _ (by omega) (by omega) (by omega) h2 (.inr (by rw [Nat.add_sub_cancel]; exact decide_eq_true hc)) h4
      · exact ih _ _ (by omega) (by omega) h1 (by omega) h3 (.inr (fun h => hc (of_decide_eq_true h)))
    · rw [decide_eq_false (by omega : ¬ ((lo : Nat) : Int) < ((hi : Nat) : Int))]
      exact hk lo ⟨h1, by omega, h3, by have : lo = hi := by omega
                                        subst this; exact h4⟩
theorem bs_15 (L : List R) (x lo0 hi0 : Nat) (hx : x < L.length) (hL : small L.length) (h0 : hi0 ≤ L.length) (k : Int → Prop)
    (hk : ∀ s, Found (fun c => ¬ ltR (nth L x) (nth L c) = true) lo0 hi0 s → k ((s : Nat) : Int)) :
    ∀ (n lo hi : Nat), hi - lo ≤ n → lo ≤ hi → lo0 ≤ lo → hi ≤ hi0 → (lo = lo0 ∨ ¬ ltR (nth L x) (nth L (lo - 1)) = true) → (hi = hi0 ∨ ¬ ¬ ltR (nth L x) (nth L hi) = true) →
      RL100_15 (n + 1) ((x : Nat) : Int) ((lo : Nat) : Int) ((hi : Nat) : Int) (L.map f1) (L.map f2) (L.map f3) k := by
  unfold small at hL
  intro n
  induction n with
  | zero =>
    intro lo hi hn hle h1 h2 h3 h4
    show HL100_15 _ _ _ _ _ _ _ _
    unfold HL100_15
    rw [decide_eq_false (by omega : ¬ ((lo : Nat) : Int) < ((hi : Nat) : Int))]
    exact hk lo ⟨h1, by omega, h3, by have : lo = hi := by omega
                                      subst this; exact h4⟩
  | succ n ih =>
    intro lo hi hn hle h1 h2 h3 h4
    show HL100_15 _ _ _ _ _ _ _ _
    unfold HL100_15
    by_cases hlt : lo < hi
    · rw [decide_eq_true (by omega : ((lo : Nat) : Int) < ((hi : Nat) : Int)), mid_eq (by omega)]
      simp only [Int.toNat_natCast]
      have em : IntKind.wrap .i64 ((((lo + hi) / 2 : Nat) : Int) + 1) = (((lo + hi) / 2 + 1 : Nat) : Int) := by rw [w64 (by omega) (by omega)]; omega
      rw [em, inb hx, inb (by omega)]
      simp only [cond_true, cmp_nth]
      refine bif_not (fun hc => ?_) (fun hc => ?_)
      · exact ih _ _ (by omega) (by omega) h1 (by omega) h3 (.inr (fun h => h (decide_eq_true hc)))
      · exact ih _ _ (by omega) (by omega) (by omega) h2 (.inr (by rw [Nat.add_sub_cancel]; exact fun h => hc (of_decide_eq_true h))) h4
    · rw [decide_eq_false (by omega : ¬ ((lo : Nat) : Int) < ((hi : Nat) : Int))]
      exact hk lo ⟨h1, by omega, h3, by have : lo = hi := by omega
                                        subst this; exact h4⟩
theorem bs_33 (L : List R) (z1 z2 z3 z4 z5 : Int) (p lo0 hi0 : Nat) (hL : small L.length) (h0 : hi0 ≤ L.length) (hp : ∀ c, lo0 ≤ c → c < hi0 → c ≤ p ∧ p - c < L.length) (hpl : p ≤ 2 * L.length) (k : Int → Prop)
    (hk : ∀ s, Found (fun c => ¬ ltR (nth L (p - c)) (nth L c) = true) lo0 hi0 s → k ((s : Nat) : Int)) :
    ∀ (n lo hi : Nat), hi - lo ≤ n → lo ≤ hi → lo0 ≤ lo → hi ≤ hi0 → (lo = lo0 ∨ ¬ ltR (nth L (p - (lo - 1))) (nth L (lo - 1)) = true) → (hi = hi0 ∨ ¬ ¬ ltR (nth L (p - hi)) (nth L hi) = true) →
      RL100_33 (n + 1) z1 z2 z3 z4 z5 ((lo : Nat) : Int) ((hi : Nat) : Int) ((p : Nat) : Int) (L.map f1) (L.map f2) (L.map f3) k := by
  unfold small at hL
  intro n
  induction n with
  | zero =>
    intro lo hi hn hle h1 h2 h3 h4
    show HL100_33 _ _ _ _ _ _ _ _ _ _ _ _ _
    unfold HL100_33
    rw [decide_eq_false (by omega : ¬ ((lo : Nat) : Int) < ((hi : Nat) : Int))]
    exact hk lo ⟨h1, by omega, h3, by have : lo = hi := by omega
                                      subst this; exact h4⟩
  | succ n ih =>
    intro lo hi hn hle h1 h2 h3 h4
    show HL100_33 _ _ _ _ _ _ _ _ _ _ _ _ _
    unfold HL100_33
    by_cases hlt : lo < hi
    · rw [decide_eq_true (by omega : ((lo : Nat) : Int) < ((hi : Nat) : Int)), mid_eq (by omega)]
      obtain ⟨hq1, hq2⟩ := hp ((lo + hi) / 2) (by omega) (by omega)
      have ep : IntKind.wrap .i64 (((p : Nat) : Int) - (((lo + hi) / 2 : Nat) : Int)) = ((p - (lo + hi) / 2 : Nat) : Int) := by rw [w64 (by omega) (by omega)]; omega
      have em : IntKind.wrap .i64 ((((lo + hi) / 2 : Nat) : Int) + 1) = (((lo + hi) / 2 + 1 : Nat) : Int) := by rw [w64 (by omega) (by omega)]; omega
      rw [ep, em, inb hq2, inb (by omega)]
      simp only [Int.toNat_natCast, cond_true, cmp_nth]
      refine bif_not (fun hc => ?_) (fun hc => ?_)
      · exact ih _ _ (by omega) (by omega) h1 (by omega) h3 (.inr (fun h => h (decide_eq_true hc)))
      · exact ih _ _ (by omega) (by omega) (by omega) h2 (.inr (by rw [Nat.add_sub_cancel]; exact fun h => hc (of_decide_eq_true h))) h4
    · rw [decide_eq_false (by omega : ¬ ((lo : Nat) : Int) < ((hi : Nat) : Int))]
      exact hk lo ⟨h1, by omega, h3, by have : lo = hi := by omega
                                        subst this; exact h4⟩
/-- A record goes behind others, one by one. -/
theorem mv_9 (T : List R) (x : R) (k : KK) : ∀ (V U : List R), small (U ++ (x :: (V ++ T))).length → put3 k (U ++ (V ++ x :: T)) →
    RL100_9 (V.length + 1) ((U.length + V.length + 1 : Nat) : Int) ((U.length : Nat) : Int) ((U ++ (x :: (V ++ T))).map f1) ((U ++ (x :: (V ++ T))).map f2) ((U ++ (x :: (V ++ T))).map f3) k
  | [], U, hs, hk => by
    have hs' : U.length + T.length + 1 ≤ 1152921504606846976 := by have := hs; unfold small at this; simp at this; omega
    show HL100_9 _ _ _ _ _ _ _
    unfold HL100_9
    have e : IntKind.wrap .i64 (((U.length + ([] : List R).length + 1 : Nat) : Int) - 1) = ((U.length : Nat) : Int) := by rw [w64 (by simp <;> omega) (by simp <;> omega)]; simp
    rw [e, decide_eq_false (by omega : ¬ ((U.length : Nat) : Int) < ((U.length : Nat) : Int))]
    exact hk
  | y :: V, U, hs, hk => by
    have hs' : U.length + (V.length + T.length) + 2 ≤ 1152921504606846976 := by have := hs; unfold small at this; simp at this; omega
    have ih := mv_9 T x k V (U ++ [y]) (by unfold small; simp; omega) (by simpa using hk)
    show HL100_9 _ _ _ _ _ _ _
    unfold HL100_9
    have e : IntKind.wrap .i64 (((U.length + (y :: V).length + 1 : Nat) : Int) - 1) = ((U.length + V.length + 1 : Nat) : Int) := by rw [w64 (by simp; omega) (by simp; omega)]; simp <;> omega
    have ek : IntKind.wrap .i64 (((U.length : Nat) : Int) + 1) = ((U.length + 1 + ([] : List R).length : Nat) : Int) := by rw [w64 (by omega) (by omega)]; simp
    have hL : U ++ (x :: (y :: V ++ T)) = U ++ x :: ([] ++ y :: (V ++ T)) := by simp
    rw [e, ek, decide_eq_true (by omega : ((U.length : Nat) : Int) < ((U.length + V.length + 1 : Nat) : Int)), hL]
    simp only [Int.toNat_natCast]
    rw [inb (by simp <;> omega), inb (by simp <;> omega), inb_set (by simp <;> omega), swap2 rfl rfl rfl, swap2 rfl rfl rfl, swap2 rfl rfl rfl]
    simp only [beq_self_eq_true, Bool.and_true, cond_true]
    have e1 : U ++ y :: ([] ++ x :: (V ++ T)) = U ++ [y] ++ (x :: (V ++ T)) := by simp
    have e2 : ((U.length + (y :: V).length + 1 : Nat) : Int) = (((U ++ [y]).length + V.length + 1 : Nat) : Int) := by simp; omega
    have e3 : ((U.length + 1 + ([] : List R).length : Nat) : Int) = (((U ++ [y]).length : Nat) : Int) := by simp
    rw [e1, e2, e3]
    exact ih
theorem mv_21 (S : List R) (y : R) (k : KK) : ∀ (n : Nat) (V T : List R), V.length = n → small (S ++ (V ++ y :: T)).length → put3 k (S ++ (y :: (V ++ T))) →
    RL100_21 (n + 1) ((S.length : Nat) : Int) ((S.length + V.length : Nat) : Int) ((S ++ (V ++ y :: T)).map f1) ((S ++ (V ++ y :: T)).map f2) ((S ++ (V ++ y :: T)).map f3) k := by
  intro n
  induction n with
  | zero =>
    intro V T hn hs hk
    obtain rfl := List.eq_nil_of_length_eq_zero hn
    show HL100_21 _ _ _ _ _ _ _
    unfold HL100_21
    rw [decide_eq_false (by simp : ¬ ((S.length + ([] : List R).length : Nat) : Int) > ((S.length : Nat) : Int))]
    exact hk
  | succ n ih =>
    intro V T hn hs hk
    rcases List.eq_nil_or_concat V with rfl | ⟨V', z, rfl⟩
    · simp at hn
    rw [List.concat_eq_append] at *
    have hn' : V'.length = n := by simpa using hn
    have hs' : S.length + V'.length + T.length + 2 ≤ 1152921504606846976 := by have := hs; unfold small at this; simp at this; omega
    have ih := ih V' (z :: T) hn' (by unfold small; simp; omega) (by simpa using hk)
    have hL : S ++ (V' ++ [z] ++ y :: T) = (S ++ V') ++ z :: ([] ++ y :: T) := by simp
    have e0 : ((S.length + (V' ++ [z]).length : Nat) : Int) = (((S ++ V').length + 1 + ([] : List R).length : Nat) : Int) := by simp; omega
    have e1 : IntKind.wrap .i64 ((((S ++ V').length + 1 + ([] : List R).length : Nat) : Int) - 1) = (((S ++ V').length : Nat) : Int) := by rw [w64 (by simp; omega) (by simp; omega)]; simp
    show HL100_21 _ _ _ _ _ _ _
    unfold HL100_21
    rw [e0, e1, decide_eq_true (by simp; omega : (((S ++ V').length + 1 + ([] : List R).length : Nat) : Int) > ((S.length : Nat) : Int)), hL]
    simp only [Int.toNat_natCast]
    rw [inb (by simp <;> omega), inb (by simp <;> omega), inb_set (by simp <;> omega), swap2' rfl rfl rfl, swap2' rfl rfl rfl, swap2' rfl rfl rfl]
    simp only [beq_self_eq_true, Bool.and_true, cond_true]
    have e2 : S ++ V' ++ y :: ([] ++ z :: T) = S ++ (V' ++ y :: (z :: T)) := by simp
    have e3 : (((S ++ V').length : Nat) : Int) = ((S.length + V'.length : Nat) : Int) := by simp
    rw [e2, e3]
    exact ih
/-! The rest of the merging, behind the search. -/
def step2 (N : Nat) (M E c : Int) (xs ts ns : List Int) (k : KK) (kk : Prop) : Prop := bif (decide (M < E)) then (bif (decide (E < c)) then (mrgN N M E c xs ts ns (fun x y z => k x y z)) else kk) else kk
def step1 (N : Nat) (a s M E c : Int) (xs ts ns : List Int) (k : KK) (kk : Prop) : Prop :=
  bif (decide (a < s)) then (bif (decide (s < M)) then (mrgN N a s M xs ts ns (fun x y z => step2 N M E c x y z k (k x y z))) else step2 N M E c xs ts ns k kk) else step2 N M E c xs ts ns k kk
def tailF (N : Nat) (a b c s M E : Int) (xs ts ns : List Int) (k : KK) (kk : Prop) : Prop :=
  bif (decide (s < b)) then (bif (decide (b < E)) then (rotS s b E xs ts ns (fun x y z => step1 N a s M E c x y z k (k x y z))) else step1 N a s M E c xs ts ns k kk) else step1 N a s M E c xs ts ns k kk
theorem srt_left {x y : List R} (h : Srt ltR (x ++ y)) : Srt ltR x := (srt_app.1 h).1
theorem srt_right {x y : List R} (h : Srt ltR (x ++ y)) : Srt ltR y := (srt_app.1 h).2.1
theorem step2_of {N : Nat} {P A B Q : List R} {k : KK} (hs : small (P ++ (A ++ (B ++ Q))).length) (hA : Srt ltR A) (hB : Srt ltR B) (hN : A.length + B.length ≤ N)
    (hk : ∀ Y, Srt ltR Y → Same ltR (A ++ B) Y → put3 k (P ++ (Y ++ Q))) :
    step2 N ((P.length : Nat) : Int) ((P.length + A.length : Nat) : Int) ((P.length + A.length + B.length : Nat) : Int) ((P ++ (A ++ (B ++ Q))).map f1) ((P ++ (A ++ (B ++ Q))).map f2) ((P ++ (A ++ (B ++ Q))).map f3) k (put3 k (P ++ (A ++ (B ++ Q)))) := by
  unfold step2
  by_cases ha : A = []
  · subst ha
    rw [decide_eq_false (by simp : ¬ ((P.length : Nat) : Int) < ((P.length + ([] : List R).length : Nat) : Int))]
    have := hk B hB (Same.refl _)
    exact this
  · have hap := List.length_pos_iff.2 ha
    rw [decide_eq_true (by omega : ((P.length : Nat) : Int) < ((P.length + A.length : Nat) : Int))]
    by_cases hb : B = []
    · subst hb
      rw [decide_eq_false (by simp : ¬ ((P.length + A.length : Nat) : Int) < ((P.length + A.length + ([] : List R).length : Nat) : Int))]
      have := hk A hA (by simpa using Same.refl (lt := ltR) A)
      exact this
    · have hbp := List.length_pos_iff.2 hb
      rw [decide_eq_true (by omega : ((P.length + A.length : Nat) : Int) < ((P.length + A.length + B.length : Nat) : Int))]
      exact ⟨P, A, B, Q, ⟨rfl, rfl, rfl⟩, hs, rfl, rfl, rfl, ha, hb, hN, hA, hB, fun s' h1 h2 => hk s' h1 h2⟩
theorem step1_of {N : Nat} {P A1 B1 A2 B2 Q : List R} {k : KK} {s M E c : Int} (hs : small (P ++ (A1 ++ (B1 ++ (A2 ++ (B2 ++ Q))))).length) (hA1 : Srt ltR A1) (hB1 : Srt ltR B1) (hA2 : Srt ltR A2) (hB2 : Srt ltR B2) (hN1 : A1.length + B1.length ≤ N) (hN2 : A2.length + B2.length ≤ N)
    (es : s = ((P.length + A1.length : Nat) : Int)) (eM : M = ((P.length + A1.length + B1.length : Nat) : Int)) (eE : E = ((P.length + A1.length + B1.length + A2.length : Nat) : Int)) (ec : c = ((P.length + A1.length + B1.length + A2.length + B2.length : Nat) : Int))
    (hk : ∀ X Y, Srt ltR X → Same ltR (A1 ++ B1) X → Srt ltR Y → Same ltR (A2 ++ B2) Y → put3 k (P ++ (X ++ (Y ++ Q)))) :
    step1 N ((P.length : Nat) : Int) s M E c ((P ++ (A1 ++ (B1 ++ (A2 ++ (B2 ++ Q))))).map f1) ((P ++ (A1 ++ (B1 ++ (A2 ++ (B2 ++ Q))))).map f2) ((P ++ (A1 ++ (B1 ++ (A2 ++ (B2 ++ Q))))).map f3) k (put3 k (P ++ (A1 ++ (B1 ++ (A2 ++ (B2 ++ Q)))))) := by
  have hs' : P.length + (A1.length + (B1.length + (A2.length + (B2.length + Q.length)))) ≤ 1152921504606846976 := by have := hs; unfold small at this; simpa using this
  have two : ∀ X : List R, Srt ltR X → Same ltR (A1 ++ B1) X → step2 N M E c ((P ++ (X ++ (A2 ++ (B2 ++ Q)))).map f1) ((P ++ (X ++ (A2 ++ (B2 ++ Q)))).map f2) ((P ++ (X ++ (A2 ++ (B2 ++ Q)))).map f3) k (put3 k (P ++ (X ++ (A2 ++ (B2 ++ Q))))) := by
    intro X hX hXs
    have hl : X.length = A1.length + B1.length := by have := hXs.perm_length ordR; simp at this; omega
    have := step2_of (N := N) (P := P ++ X) (A := A2) (B := B2) (Q := Q) (k := k) (by unfold small; simp; omega) hA2 hB2 hN2 (fun Y h1 h2 => by have := hk X Y hX hXs h1 h2; simpa using this)
    have e1 : M = (((P ++ X).length : Nat) : Int) := by rw [eM]; simp; omega
    have e2 : E = (((P ++ X).length + A2.length : Nat) : Int) := by rw [eE]; simp; omega
    have e3 : c = (((P ++ X).length + A2.length + B2.length : Nat) : Int) := by rw [ec]; simp; omega
    have e4 : P ++ (X ++ (A2 ++ (B2 ++ Q))) = P ++ X ++ (A2 ++ (B2 ++ Q)) := by simp
    rw [e1, e2, e3, e4]
    exact this
  have flat : P ++ (A1 ++ (B1 ++ (A2 ++ (B2 ++ Q)))) = P ++ ((A1 ++ B1) ++ (A2 ++ (B2 ++ Q))) := by simp
  unfold step1
  by_cases ha : A1 = []
  · rw [decide_eq_false (by rw [es, ha]; simp : ¬ ((P.length : Nat) : Int) < s)]
    rw [flat]
    refine two _ ?_ (Same.refl _)
    rw [ha]; exact hB1
  · have hap := List.length_pos_iff.2 ha
    rw [decide_eq_true (by omega : ((P.length : Nat) : Int) < s)]
    by_cases hb : B1 = []
    · rw [decide_eq_false (by rw [es, eM, hb]; simp : ¬ s < M)]
      rw [flat]
      refine two _ ?_ (Same.refl _)
      rw [hb]; simpa using hA1
    · have hbp := List.length_pos_iff.2 hb
      rw [decide_eq_true (by omega : s < M)]
      refine ⟨P, A1, B1, A2 ++ (B2 ++ Q), ⟨rfl, rfl, rfl⟩, hs, rfl, es, eM, ha, hb, hN1, hA1, hB1, fun s' h1 h2 => two s' h1 h2⟩
theorem tail_of {N : Nat} {P A1 A2 B1 B2 Q : List R} {k : KK} {b s M E c : Int} (hs : small (P ++ (A1 ++ A2 ++ (B1 ++ B2 ++ Q))).length) (hA : Srt ltR (A1 ++ A2)) (hB : Srt ltR (B1 ++ B2)) (hN1 : A1.length + B1.length ≤ N) (hN2 : A2.length + B2.length ≤ N)
    (eb : b = ((P.length + A1.length + A2.length : Nat) : Int)) (es : s = ((P.length + A1.length : Nat) : Int)) (eM : M = ((P.length + A1.length + B1.length : Nat) : Int)) (eE : E = ((P.length + A1.length + B1.length + A2.length : Nat) : Int)) (ec : c = ((P.length + A1.length + B1.length + A2.length + B2.length : Nat) : Int))
    (h1 : ∀ a b, A1.getLast? = some a → B2.head? = some b → ltR b a = false) (h2 : ∀ a b, B1.getLast? = some b → A2.head? = some a → ltR b a = true)
    (hk : ∀ Z, Srt ltR Z → Same ltR ((A1 ++ A2) ++ (B1 ++ B2)) Z → put3 k (P ++ (Z ++ Q))) :
    tailF N ((P.length : Nat) : Int) b c s M E ((P ++ (A1 ++ A2 ++ (B1 ++ B2 ++ Q))).map f1) ((P ++ (A1 ++ A2 ++ (B1 ++ B2 ++ Q))).map f2) ((P ++ (A1 ++ A2 ++ (B1 ++ B2 ++ Q))).map f3) k (put3 k (P ++ (A1 ++ A2 ++ (B1 ++ B2 ++ Q)))) := by
  have hs' : P.length + (A1.length + A2.length + (B1.length + B2.length + Q.length)) ≤ 1152921504606846976 := by have := hs; unfold small at this; simpa [Nat.add_assoc] using this
  have one := step1_of (N := N) (P := P) (A1 := A1) (B1 := B1) (A2 := A2) (B2 := B2) (Q := Q) (k := k) (s := s) (M := M) (E := E) (c := c) (by unfold small; simp; omega) (srt_left hA) (srt_left hB) (srt_right hA) (srt_right hB) hN1 hN2 es eM eE ec
    (fun X Y a1 a2 a3 a4 => by
      obtain ⟨q1, q2⟩ := srt_halves ordR hA hB h1 h2 a1 a2 a3 a4
      have := hk _ q1 q2
      simpa using this)
  unfold tailF
  by_cases ha : A2 = []
  · rw [decide_eq_false (by rw [es, eb, ha]; simp : ¬ s < b)]
    have e : P ++ (A1 ++ A2 ++ (B1 ++ B2 ++ Q)) = P ++ (A1 ++ (B1 ++ (A2 ++ (B2 ++ Q)))) := by rw [ha]; simp
    rw [e]
    exact one
  · have hap := List.length_pos_iff.2 ha
    rw [decide_eq_true (by omega : s < b)]
    by_cases hb : B1 = []
    · rw [decide_eq_false (by rw [eE, eb, hb]; simp <;> omega : ¬ b < E)]
      have e : P ++ (A1 ++ A2 ++ (B1 ++ B2 ++ Q)) = P ++ (A1 ++ (B1 ++ (A2 ++ (B2 ++ Q)))) := by rw [hb]; simp
      rw [e]
      exact one
    · have hbp := List.length_pos_iff.2 hb
      rw [decide_eq_true (by omega : b < E)]
      refine ⟨P ++ A1, A2, B1, B2 ++ Q, ⟨by simp, by simp, by simp⟩, by unfold small; simp; omega, by rw [es]; simp, by rw [eb]; simp, by rw [eE]; simp; omega, ha, hb, ?_⟩
      have e : P ++ A1 ++ (B1 ++ (A2 ++ (B2 ++ Q))) = P ++ (A1 ++ (B1 ++ (A2 ++ (B2 ++ Q)))) := by simp
      unfold put3
      rw [e]
      exact one
/-! The three cases. -/
theorem srt_snoc {A : List R} {y : R} (h : Srt ltR A) (hl : ∀ a, A.getLast? = some a → ltR y a = false) : Srt ltR (A ++ [y]) := by
  have := srt_put (P := A) (Q := []) (x := y) ordR (by simpa using h) (by simp) hl
  exact this
theorem srt_head {B : List R} {x : R} (h : Srt ltR B) (hl : ∀ b, B.head? = some b → ltR b x = false) : Srt ltR (x :: B) := by
  refine List.pairwise_cons.2 ⟨fun b hb => ?_, h⟩
  cases B with
  | nil => cases hb
  | cons z t =>
    have hz := hl z rfl
    rcases List.mem_cons.1 hb with rfl | hb
    · exact hz
    · exact ordR.neg b z x ((List.pairwise_cons.1 h).1 b hb) hz
theorem one_left {P B Q : List R} {x : R} {k : KK} (hs : small (P ++ (x :: (B ++ Q))).length) (hB : Srt ltR B) (hk : ∀ Z, Srt ltR Z → Same ltR (x :: B) Z → put3 k (P ++ (Z ++ Q))) (c : Int) (hc : c = ((P.length + 1 + B.length : Nat) : Int)) :
    GL100_3 XL100_3 ((P.length : Nat) : Int) ((P.length + 1 : Nat) : Int) c ((P ++ (x :: (B ++ Q))).map f1) ((P ++ (x :: (B ++ Q))).map f2) ((P ++ (x :: (B ++ Q))).map f3)
      (fun n1 => GL100_9 XL100_9 n1 ((P.length : Nat) : Int) ((P ++ (x :: (B ++ Q))).map f1) ((P ++ (x :: (B ++ Q))).map f2) ((P ++ (x :: (B ++ Q))).map f3) k) := by
  subst hc
  refine ⟨rfl, B.length + 1, bs_3 (P ++ (x :: (B ++ Q))) P.length (P.length + 1) (P.length + 1 + B.length) (by simp) hs (by simp; omega) _ ?_ B.length _ _ (by omega) (by omega) (Nat.le_refl _) (Nat.le_refl _) (.inl rfl) (.inl rfl)⟩
  intro s ⟨g1, g2, g3, g4⟩
  dsimp only at g3 g4
  have hB' : B = B.take (s - (P.length + 1)) ++ B.drop (s - (P.length + 1)) := (List.take_append_drop _ _).symm
  have l1 : (B.take (s - (P.length + 1))).length = s - (P.length + 1) := by simp; omega
  generalize B.take (s - (P.length + 1)) = B1 at hB' l1
  generalize B.drop (s - (P.length + 1)) = B2 at hB'
  subst hB'
  have nx : nth (P ++ (x :: (B1 ++ B2 ++ Q))) P.length = x := getD0_is rfl rfl
  rw [nx] at g3 g4
  refine ⟨rfl, B1.length + 1, ?_⟩
  have e1 : ((s : Nat) : Int) = ((P.length + B1.length + 1 : Nat) : Int) := by omega
  have e2 : P ++ (x :: (B1 ++ B2 ++ Q)) = P ++ (x :: (B1 ++ (B2 ++ Q))) := by simp
  rw [e1, e2]
  refine mv_9 (B2 ++ Q) x k B1 P (by rw [← e2]; exact hs) ?_
  have hr := srt_halves ordR (A1 := []) (A2 := [x]) (B1 := B1) (B2 := B2) (x := B1) (y := x :: B2) (by simp [Srt]) hB (by simp) (by
      intro a b hb1 ha
      simp at ha; subst ha
      rcases g3 with g3 | g3
      · have : B1 = [] := List.eq_nil_of_length_eq_zero (by omega)
        subst this; simp at hb1
      · rcases List.eq_nil_or_concat B1 with rfl | ⟨B', z, rfl⟩
        · simp at hb1
        · rw [List.concat_eq_append] at *
          simp at hb1; subst hb1
          have : nth (P ++ (x :: (B' ++ [z] ++ B2 ++ Q))) (s - 1) = z := getD0_is (A := P ++ x :: B') (B := B2 ++ Q) (by simp) (by simp at l1 ⊢; omega)
          rw [this] at g3; exact g3) (srt_left hB) (Same.refl _) (srt_head (srt_right hB) (by
      intro b hb
      cases B2 with
      | nil => cases hb
      | cons z t =>
        simp at hb; subst hb
        rcases g4 with g4 | g4
        · simp at g4 l1; omega
        · have : nth (P ++ (x :: (B1 ++ z :: t ++ Q))) s = z := getD0_is (A := P ++ x :: B1) (B := t ++ Q) (by simp) (by simp; omega)
          rw [this] at g4
          simpa using g4)) (Same.refl _)
  have := hk _ hr.1 (by simpa using hr.2)
  simpa using this
theorem one_right {P A Q : List R} {y : R} {k : KK} (hs : small (P ++ (A ++ (y :: Q))).length) (hA : Srt ltR A) (hk : ∀ Z, Srt ltR Z → Same ltR (A ++ [y]) Z → put3 k (P ++ (Z ++ Q))) :
    GL100_15 XL100_15 ((P.length + A.length : Nat) : Int) ((P.length : Nat) : Int) ((P.length + A.length : Nat) : Int) ((P ++ (A ++ (y :: Q))).map f1) ((P ++ (A ++ (y :: Q))).map f2) ((P ++ (A ++ (y :: Q))).map f3)
      (fun n1 => GL100_21 XL100_21 n1 ((P.length + A.length : Nat) : Int) ((P ++ (A ++ (y :: Q))).map f1) ((P ++ (A ++ (y :: Q))).map f2) ((P ++ (A ++ (y :: Q))).map f3) k) := by
  refine ⟨rfl, A.length + 1, bs_15 (P ++ (A ++ (y :: Q))) (P.length + A.length) P.length (P.length + A.length) (by simp) hs (by simp <;> omega) _ ?_ A.length _ _ (by omega) (by omega) (Nat.le_refl _) (Nat.le_refl _) (.inl rfl) (.inl rfl)⟩
  intro s ⟨g1, g2, g3, g4⟩
  dsimp only at g3 g4
  have hA' : A = A.take (s - P.length) ++ A.drop (s - P.length) := (List.take_append_drop _ _).symm
  have l1 : (A.take (s - P.length)).length = s - P.length := by simp; omega
  generalize A.take (s - P.length) = A1 at hA' l1
  generalize A.drop (s - P.length) = A2 at hA'
  subst hA'
  have ny : nth (P ++ (A1 ++ A2 ++ (y :: Q))) (P.length + (A1 ++ A2).length) = y := getD0_is (A := P ++ (A1 ++ A2)) (B := Q) (by simp) (by simp)
  rw [ny] at g3 g4
  refine ⟨rfl, A2.length + 1, ?_⟩
  have e1 : ((s : Nat) : Int) = (((P ++ A1).length : Nat) : Int) := by simp; omega
  have e2 : P ++ (A1 ++ A2 ++ (y :: Q)) = P ++ A1 ++ (A2 ++ y :: Q) := by simp
  have e3 : ((P.length + (A1 ++ A2).length : Nat) : Int) = (((P ++ A1).length + A2.length : Nat) : Int) := by simp; omega
  rw [e1, e2, e3]
  refine mv_21 (P ++ A1) y k A2.length A2 Q rfl (by rw [← e2]; exact hs) ?_
  have hr := srt_halves ordR (A1 := A1) (A2 := A2) (B1 := [y]) (B2 := []) (x := A1 ++ [y]) (y := A2) hA (by simp [Srt]) (by simp) (by
      intro a b hb1 ha
      simp at hb1; subst hb1
      cases A2 with
      | nil => cases ha
      | cons z t =>
        simp at ha; subst ha
        rcases g4 with g4 | g4
        · simp at g4 l1; omega
        · have : nth (P ++ (A1 ++ z :: t ++ (y :: Q))) s = z := getD0_is (A := P ++ A1) (B := t ++ (y :: Q)) (by simp) (by simp; omega)
          rw [this] at g4
          simpa using g4) (srt_snoc (srt_left hA) (by
      intro a ha
      rcases g3 with g3 | g3
      · have : A1 = [] := List.eq_nil_of_length_eq_zero (by omega)
        subst this; simp at ha
      · rcases List.eq_nil_or_concat A1 with rfl | ⟨A', z, rfl⟩
        · simp at ha
        · rw [List.concat_eq_append] at *
          simp at ha; subst ha
          have : nth (P ++ (A' ++ [z] ++ A2 ++ (y :: Q))) (s - 1) = z := getD0_is (A := P ++ A') (B := A2 ++ (y :: Q)) (by simp) (by simp at l1 ⊢; omega)
          rw [this] at g3
          simpa using g3)) (Same.refl _) (srt_right hA) (by simpa using Same.refl (lt := ltR) A2)
  have := hk _ hr.1 (by simpa using hr.2)
  simpa using this
/-- What a place that was found says of the four parts. -/
theorem split_of {P A B Q : List R} {lo hi s : Nat} (hs : small (P ++ (A ++ (B ++ Q))).length) (mid : Nat) (hmid : mid = (P.length + (P.length + A.length + B.length)) / 2)
    (hf : Found (fun c => ¬ ltR (nth (P ++ (A ++ (B ++ Q))) (mid + (P.length + A.length) - 1 - c)) (nth (P ++ (A ++ (B ++ Q))) c) = true) lo hi s)
    (hlo : (lo = P.length ∨ lo + (P.length + A.length + B.length) = mid + (P.length + A.length)) ∧ P.length ≤ lo ∧ mid + (P.length + A.length) ≤ lo + (P.length + A.length + B.length)) (hhi : (hi = P.length + A.length ∨ hi = mid) ∧ hi ≤ P.length + A.length ∧ hi ≤ mid) (hA2 : 2 ≤ A.length + B.length) :
    ∃ A1 A2 B1 B2 : List R, A = A1 ++ A2 ∧ B = B1 ++ B2 ∧ s = P.length + A1.length ∧ mid = P.length + A1.length + B1.length ∧
      (∀ a b, A1.getLast? = some a → B2.head? = some b → ltR b a = false) ∧ (∀ a b, B1.getLast? = some b → A2.head? = some a → ltR b a = true) := by
  obtain ⟨g1, g2, g3, g4⟩ := hf
  dsimp only at g3 g4
  obtain ⟨hlo1, hlo2, hlo3⟩ := hlo
  obtain ⟨hhi1, hhi2, hhi3⟩ := hhi
  have hA' : A = A.take (s - P.length) ++ A.drop (s - P.length) := (List.take_append_drop _ _).symm
  have l1 : (A.take (s - P.length)).length = s - P.length := by simp; omega
  have hB' : B = B.take (mid - s) ++ B.drop (mid - s) := (List.take_append_drop _ _).symm
  have l2 : (B.take (mid - s)).length = mid - s := by simp; omega
  generalize A.take (s - P.length) = A1 at hA' l1
  generalize A.drop (s - P.length) = A2 at hA'
  generalize B.take (mid - s) = B1 at hB' l2
  generalize B.drop (mid - s) = B2 at hB'
  subst hA'
  subst hB'
  refine ⟨A1, A2, B1, B2, rfl, rfl, by omega, by omega, ?_, ?_⟩
  · intro a b ha hb
    rcases List.eq_nil_or_concat A1 with rfl | ⟨A', z, rfl⟩
    · simp at ha
    rw [List.concat_eq_append] at *
    simp at ha; subst ha
    cases B2 with
    | nil => cases hb
    | cons w t =>
      simp at hb; subst hb
      simp only [List.length_append, List.length_cons, List.length_nil] at *
      rcases g3 with g3 | g3
      · omega
      · have n1 : nth (P ++ (A' ++ [z] ++ A2 ++ (B1 ++ w :: t ++ Q))) (s - 1) = z := getD0_is (A := P ++ A') (B := A2 ++ (B1 ++ w :: t ++ Q)) (by simp) (by simp; omega)
        have n2 : nth (P ++ (A' ++ [z] ++ A2 ++ (B1 ++ w :: t ++ Q))) (mid + (P.length + (A'.length + (0 + 1) + A2.length)) - 1 - (s - 1)) = w := getD0_is (A := P ++ (A' ++ [z] ++ A2 ++ B1)) (B := t ++ Q) (by simp) (by simp; omega)
        rw [n1, n2] at g3
        simpa using g3
  · intro a b hb ha
    rcases List.eq_nil_or_concat B1 with rfl | ⟨B', z, rfl⟩
    · simp at hb
    rw [List.concat_eq_append] at *
    simp at hb; subst hb
    cases A2 with
    | nil => cases ha
    | cons w t =>
      simp at ha; subst ha
      simp only [List.length_append, List.length_cons, List.length_nil] at *
      rcases g4 with g4 | g4
      · omega
      · have n1 : nth (P ++ (A1 ++ w :: t ++ (B' ++ [z] ++ B2 ++ Q))) s = w := getD0_is (A := P ++ A1) (B := t ++ (B' ++ [z] ++ B2 ++ Q)) (by simp) (by simp; omega)
        have n2 : nth (P ++ (A1 ++ w :: t ++ (B' ++ [z] ++ B2 ++ Q))) (mid + (P.length + (A1.length + (t.length + 1))) - 1 - s) = z := getD0_is (A := P ++ (A1 ++ w :: t ++ B')) (B := B2 ++ Q) (by simp) (by simp; omega)
        rw [n1, n2] at g4
        simpa using g4
theorem h100 {N : Nat} {a b c : Int} {xs ts ns : List Int} {k : KK} (h : mrgN (N + 1) a b c xs ts ns k) : F100 N GL100_3 GL100_9 GL100_15 GL100_21 GL100_33 a b c xs ts ns k (k xs ts ns) := by
  obtain ⟨P, A, B, Q, ⟨rfl, rfl, rfl⟩, hs, rfl, rfl, rfl, hA0, hB0, hN, hA, hB, hk⟩ := h
  have hs' : P.length + (A.length + (B.length + Q.length)) ≤ 1152921504606846976 := by have := hs; unfold small at this; simpa using this
  have hAp := List.length_pos_iff.2 hA0
  have hBp := List.length_pos_iff.2 hB0
  have e1 : IntKind.wrap .i64 (((P.length + A.length : Nat) : Int) - ((P.length : Nat) : Int)) = ((A.length : Nat) : Int) := by rw [w64 (by omega) (by omega)]; omega
  have e2 : IntKind.wrap .i64 (((P.length + A.length + B.length : Nat) : Int) - ((P.length + A.length : Nat) : Int)) = ((B.length : Nat) : Int) := by rw [w64 (by omega) (by omega)]; omega
  unfold F100
  rw [e1, e2]
  by_cases c1 : A.length = 1
  · rw [(by simp; omega : (((A.length : Nat) : Int) == 1) = true)]
    obtain ⟨x, rfl⟩ : ∃ x, A = [x] := List.length_eq_one_iff.1 c1
    exact one_left (P := P) (x := x) (B := B) (Q := Q) hs hB hk _ rfl
  rw [(by simp; omega : (((A.length : Nat) : Int) == 1) = false)]
  simp only [cond_false]
  by_cases c2 : B.length = 1
  · rw [(by simp; omega : (((B.length : Nat) : Int) == 1) = true)]
    obtain ⟨y, rfl⟩ : ∃ y, B = [y] := List.length_eq_one_iff.1 c2
    exact one_right (P := P) (A := A) (y := y) (Q := Q) hs hA hk
  rw [(by simp; omega : (((B.length : Nat) : Int) == 1) = false)]
  simp only [cond_false]
  generalize hmid : (P.length + (P.length + A.length + B.length)) / 2 = mid
  have em : IntKind.wrap .i64 (Int.fdiv (IntKind.wrap .u64 (IntKind.wrap .i64 (((P.length : Nat) : Int) + ((P.length + A.length + B.length : Nat) : Int)))) (2 ^ 1)) = ((mid : Nat) : Int) := by rw [mid_eq (by omega), hmid]
  have en : IntKind.wrap .i64 (((mid : Nat) : Int) + ((P.length + A.length : Nat) : Int)) = ((mid + (P.length + A.length) : Nat) : Int) := by rw [w64 (by omega) (by omega)]; omega
  have ep : IntKind.wrap .i64 (((mid + (P.length + A.length) : Nat) : Int) - 1) = ((mid + (P.length + A.length) - 1 : Nat) : Int) := by rw [w64 (by omega) (by omega)]; omega
  have el : ((P ++ (A ++ (B ++ Q))).length) = P.length + (A.length + (B.length + Q.length)) := by simp
  have fin : ∀ (lo hi s : Nat), Found (fun c => ¬ ltR (nth (P ++ (A ++ (B ++ Q))) (mid + (P.length + A.length) - 1 - c)) (nth (P ++ (A ++ (B ++ Q))) c) = true) lo hi s →
      ((lo = P.length ∨ lo + (P.length + A.length + B.length) = mid + (P.length + A.length)) ∧ P.length ≤ lo ∧ mid + (P.length + A.length) ≤ lo + (P.length + A.length + B.length)) → ((hi = P.length + A.length ∨ hi = mid) ∧ hi ≤ P.length + A.length ∧ hi ≤ mid) →
      tailF N ((P.length : Nat) : Int) ((P.length + A.length : Nat) : Int) ((P.length + A.length + B.length : Nat) : Int) ((s : Nat) : Int) ((mid : Nat) : Int) (IntKind.wrap .i64 (((mid + (P.length + A.length) : Nat) : Int) - ((s : Nat) : Int)))
        ((P ++ (A ++ (B ++ Q))).map f1) ((P ++ (A ++ (B ++ Q))).map f2) ((P ++ (A ++ (B ++ Q))).map f3) k (put3 k (P ++ (A ++ (B ++ Q)))) := by
    intro lo hi s hf hl hh
    obtain ⟨A1, A2, B1, B2, rfl, rfl, rfl, rfl, h1, h2⟩ := split_of hs mid hmid.symm hf hl hh (by omega)
    simp only [List.length_append] at *
    refine tail_of (by unfold small at *; simp; omega) hA hB (by omega) (by omega) (by omega) rfl rfl ?_ (by omega) h1 h2 hk
    rw [w64 (by omega) (by omega)]; omega
  rw [em, en, ep]
  by_cases c3 : mid < P.length + A.length
  · rw [decide_eq_true (by omega : ((P.length + A.length : Nat) : Int) > ((mid : Nat) : Int))]
    have elo : IntKind.wrap .i64 (((mid + (P.length + A.length) : Nat) : Int) - ((P.length + A.length + B.length : Nat) : Int)) = ((mid + (P.length + A.length) - (P.length + A.length + B.length) : Nat) : Int) := by rw [w64 (by omega) (by omega)]; omega
    rw [elo]
    refine ⟨rfl, P.length + A.length + B.length + 1, bs_33 (P ++ (A ++ (B ++ Q))) _ _ _ _ _ (mid + (P.length + A.length) - 1) (mid + (P.length + A.length) - (P.length + A.length + B.length)) mid hs (by omega) (fun c h1 h2 => ⟨by omega, by omega⟩) (by omega) _ ?_ (P.length + A.length + B.length) _ _ (by omega) (by omega) (Nat.le_refl _) (Nat.le_refl _) (.inl rfl) (.inl rfl)⟩
    intro s hf
    exact fin _ _ s hf ⟨.inr (by omega), by omega, by omega⟩ ⟨.inr rfl, by omega, Nat.le_refl _⟩
  · rw [decide_eq_false (by omega : ¬ ((P.length + A.length : Nat) : Int) > ((mid : Nat) : Int))]
    refine ⟨rfl, P.length + A.length + B.length + 1, bs_33 (P ++ (A ++ (B ++ Q))) _ _ _ _ _ (mid + (P.length + A.length) - 1) P.length (P.length + A.length) hs (by omega) (fun c h1 h2 => ⟨by omega, by omega⟩) (by omega) _ ?_ (P.length + A.length + B.length) _ _ (by omega) (by omega) (Nat.le_refl _) (Nat.le_refl _) (.inl rfl) (.inl rfl)⟩
    intro s hf
    exact fin _ _ s hf ⟨.inl rfl, Nat.le_refl _, by omega⟩ ⟨.inl rfl, Nat.le_refl _, by omega⟩
theorem M100_ok : ∀ N : Nat, PrimOk Tryz.prog 100 (p3 (mrgN N))
  | 0 => by
    intro args m K E w cargs hS ha h
    unfold p3 at h
    split at h
    · split at h
      · obtain ⟨p, u, v, q, _, _, _, _, _, hu, _, hn, _⟩ := h
        have := List.length_pos_iff.2 hu
        omega
      · cases h
    · cases h
  | N + 1 => by
    have ih := M100_ok N
    intro args m K E w cargs hS ha h
    unfold p3 at h
    split at h
    · rename_i a b' c f xs ts ns e b
      split at h
      · rename_i hb
        obtain ⟨rfl, rfl, rfl⟩ := okD_eq hb
        exact cbody_use named (CM_ok N ih) at100 (l := 2) rfl (WL100_3_ok (WL100_9_ok (WL100_15_ok (WL100_21_ok (WL100_33_ok (LoopsOk.none _ _)))))) (F100_ok N GL100_3 GL100_9 GL100_15 GL100_21 GL100_33 a b' c xs ts ns K) hS ha (h100 h)
      · cases h
    · cases h
theorem P100_ok : PrimOk Tryz.prog 100 (p3 mrgS) := by
  intro args m K E w cargs hS ha h
  unfold p3 at h
  split at h
  · split at h
    · rename_i hb
      obtain ⟨N, h⟩ := h
      refine M100_ok N _ _ K E w cargs hS ha ?_
      unfold p3
      simp only [hb]
      exact h
    · cases h
  · cases h
end Go.Proofs.YtgflbmcmkjkmmaaGreat.so
