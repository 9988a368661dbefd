import Derived.Test.YtgflbmcmkjkmmaaGreatSo0
set_option linter.unusedVariables false
set_option linter.unusedSimpArgs false
set_option maxHeartbeats 4000000
set_option maxRecDepth 100000
namespace Go.Proofs.YtgflbmcmkjkmmaaGreat.so
open Go Go.Ab Go.So
abbrev YL99_4 : Type := Code → Int → Int → Int → Int → List Int → List Int → List Int → (List Int → List Int → List Int → Prop) → Prop
set_option maxHeartbeats 4000000 in
set_option maxRecDepth 100000 in
def HL99_4  (rec : Int → List Int → List Int → List Int → Prop) (i_1 : Int) (i_2 : Int) (i_8 : Int) (i_9 : Int) (xs_m_0_0 : List Int) (xs_m_0_1 : List Int) (xs_m_0_2 : List Int) (k1 : List Int → List Int → List Int → Prop) : Prop :=
  (bif (decide (i_9 > i_1)) then (bif ((decide ((0 : Int) ≤ i_9)) && (decide (i_9 < ((((List.length xs_m_0_0) - (0 : Nat)) : Nat) : Int)))) then (bif ((decide ((0 : Int) ≤ (IntKind.wrap .i64 (i_9 - (1 : Int))))) && (decide ((IntKind.wrap .i64 (i_9 - (1 : Int))) < ((((List.length xs_m_0_0) - (0 : Nat)) : Nat) : Int)))) then (bif (decide ((cmpF (List.getD xs_m_0_0 (Int.toNat i_9) (0 : Int)) (List.getD xs_m_0_1 (Int.toNat i_9) (0 : Int)) (List.getD xs_m_0_0 (Int.toNat (IntKind.wrap .i64 (i_9 - (1 : Int)))) (0 : Int)) (List.getD xs_m_0_1 (Int.toNat (IntKind.wrap .i64 (i_9 - (1 : Int)))) (0 : Int))) < (0 : Int))) then (bif ((decide ((0 : Int) ≤ (IntKind.wrap .i64 (i_9 - (1 : Int))))) && (decide ((IntKind.wrap .i64 (i_9 - (1 : Int))) < ((((List.length xs_m_0_0) - (0 : Nat)) : Nat) : Int)))) then (bif ((decide ((0 : Int) ≤ i_9)) && (decide (i_9 < ((((List.length xs_m_0_0) - (0 : Nat)) : Nat) : Int)))) then (bif ((decide ((0 : Int) ≤ i_9)) && (decide (i_9 < ((((List.length xs_m_0_0) - (0 : Nat)) : Nat) : Int)))) then (bif (((IntKind.wrap .i64 (i_9 - (1 : Int))) == (IntKind.wrap .i64 (i_9 - (1 : Int)))) && ((i_9 == i_9) && true)) then (bif ((decide ((0 : Int) ≤ (IntKind.wrap .i64 (i_9 - (1 : Int))))) && (decide ((IntKind.wrap .i64 (i_9 - (1 : Int))) < ((((List.length (List.set xs_m_0_0 (Int.toNat i_9) (List.getD xs_m_0_0 (Int.toNat (IntKind.wrap .i64 (i_9 - (1 : Int)))) (0 : Int)))) - (0 : Nat)) : Nat) : Int)))) then (rec (IntKind.wrap .i64 (i_9 - (1 : Int))) (List.set (List.set xs_m_0_0 (Int.toNat i_9) (List.getD xs_m_0_0 (Int.toNat (IntKind.wrap .i64 (i_9 - (1 : Int)))) (0 : Int))) (Int.toNat (IntKind.wrap .i64 (i_9 - (1 : Int)))) (List.getD xs_m_0_0 (Int.toNat i_9) (0 : Int))) (List.set (List.set xs_m_0_1 (Int.toNat i_9) (List.getD xs_m_0_1 (Int.toNat (IntKind.wrap .i64 (i_9 - (1 : Int)))) (0 : Int))) (Int.toNat (IntKind.wrap .i64 (i_9 - (1 : Int)))) (List.getD xs_m_0_1 (Int.toNat i_9) (0 : Int))) (List.set (List.set xs_m_0_2 (Int.toNat i_9) (List.getD xs_m_0_2 (Int.toNat (IntKind.wrap .i64 (i_9 - (1 : Int)))) (0 : Int))) (Int.toNat (IntKind.wrap .i64 (i_9 - (1 : Int)))) (List.getD xs_m_0_2 (Int.toNat i_9) (0 : Int)))) else False) else False) else False) else False) else False) else (k1 xs_m_0_0 xs_m_0_1 xs_m_0_2)) else False) else False) else (k1 xs_m_0_0 xs_m_0_1 xs_m_0_2))
def RL99_4  : Nat → Int → Int → Int → Int → List Int → List Int → List Int → (List Int → List Int → List Int → Prop) → Prop
  | 0, _, _, _, _, _, _, _, _ => False
  | n + 1, i_1, i_2, i_8, i_9, xs_m_0_0, xs_m_0_1, xs_m_0_2, k1 => HL99_4  (fun (i_9 : Int) (xs_m_0_0 : List Int) (xs_m_0_1 : List Int) (xs_m_0_2 : List Int) => RL99_4  n i_1 i_2 i_8 i_9 xs_m_0_0 xs_m_0_1 xs_m_0_2 k1) i_1 i_2 i_8 i_9 xs_m_0_0 xs_m_0_1 xs_m_0_2 k1
noncomputable def XL99_4 : Code := sub [true, false, false, true, false, false, true, false, false] (bodyOf Tryz.prog 99)
theorem HL99_4_ok  (n : Nat) (i_1 : Int) (i_2 : Int) (i_8 : Int) (i_9 : Int) (xs_m_0_0 : List Int) (xs_m_0_1 : List Int) (xs_m_0_2 : List Int) (K : Ex → Env → Mem → Prop) : cround 2 [0, 1, 2, 3, 8, 9] [0, 1, 2, 3, 8] (fun ρ m K => cexec Tryz.prog C1 (fun _ => none) 2 1000 XL99_4 ρ m K) (n + 1) (selE 53 [(0, (.sl 0 (0 : Nat) (none : Option Nat) (none : Option Nat))), (1, (.I .i64 i_1)), (2, (.I .i64 i_2)), (3, (.fn (.func 23) [] [(.ptr 1 (0 : Nat) 0)])), (8, (.I .i64 i_8)), (9, (.I .i64 i_9))]) [⟨[.ints .i64 xs_m_0_0, .ints .i64 xs_m_0_1, .ints .i64 xs_m_0_2], 47, false, false⟩, ⟨[.vals [(.fn (.func 21) [] [])]], 54, false, false⟩] K =
    HL99_4  (fun (i_9 : Int) (xs_m_0_0 : List Int) (xs_m_0_1 : List Int) (xs_m_0_2 : List Int) => cround 2 [0, 1, 2, 3, 8, 9] [0, 1, 2, 3, 8] (fun ρ m K => cexec Tryz.prog C1 (fun _ => none) 2 1000 XL99_4 ρ m K) n (selE 53 [(0, (.sl 0 (0 : Nat) (none : Option Nat) (none : Option Nat))), (1, (.I .i64 i_1)), (2, (.I .i64 i_2)), (3, (.fn (.func 23) [] [(.ptr 1 (0 : Nat) 0)])), (8, (.I .i64 i_8)), (9, (.I .i64 i_9))]) [⟨[.ints .i64 xs_m_0_0, .ints .i64 xs_m_0_1, .ints .i64 xs_m_0_2], 47, false, false⟩, ⟨[.vals [(.fn (.func 21) [] [])]], 54, false, false⟩] K) i_1 i_2 i_8 i_9 xs_m_0_0 xs_m_0_1 xs_m_0_2 (fun (u0 : List Int) (u1 : List Int) (u2 : List Int) => K (.exit 2) (selE 53 [(0, (.sl 0 (0 : Nat) (none : Option Nat) (none : Option Nat))), (1, (.I .i64 i_1)), (2, (.I .i64 i_2)), (3, (.fn (.func 23) [] [(.ptr 1 (0 : Nat) 0)])), (8, (.I .i64 i_8))]) [⟨[.ints .i64 u0, .ints .i64 u1, .ints .i64 u2], 47, false, false⟩, ⟨[.vals [(.fn (.func 21) [] [])]], 54, false, false⟩]) := by kernel_rfl
theorem RL99_4_ok  (K : Ex → Env → Mem → Prop) : ∀ (n : Nat) (i_1 : Int) (i_2 : Int) (i_8 : Int) (i_9 : Int) (xs_m_0_0 : List Int) (xs_m_0_1 : List Int) (xs_m_0_2 : List Int), cround 2 [0, 1, 2, 3, 8, 9] [0, 1, 2, 3, 8] (fun ρ m K => cexec Tryz.prog C1 (fun _ => none) 2 1000 XL99_4 ρ m K) n (selE 53 [(0, (.sl 0 (0 : Nat) (none : Option Nat) (none : Option Nat))), (1, (.I .i64 i_1)), (2, (.I .i64 i_2)), (3, (.fn (.func 23) [] [(.ptr 1 (0 : Nat) 0)])), (8, (.I .i64 i_8)), (9, (.I .i64 i_9))]) [⟨[.ints .i64 xs_m_0_0, .ints .i64 xs_m_0_1, .ints .i64 xs_m_0_2], 47, false, false⟩, ⟨[.vals [(.fn (.func 21) [] [])]], 54, false, false⟩] K = RL99_4  n i_1 i_2 i_8 i_9 xs_m_0_0 xs_m_0_1 xs_m_0_2 (fun (u0 : List Int) (u1 : List Int) (u2 : List Int) => K (.exit 2) (selE 53 [(0, (.sl 0 (0 : Nat) (none : Option Nat) (none : Option Nat))), (1, (.I .i64 i_1)), (2, (.I .i64 i_2)), (3, (.fn (.func 23) [] [(.ptr 1 (0 : Nat) 0)])), (8, (.I .i64 i_8))]) [⟨[.ints .i64 u0, .ints .i64 u1, .ints .i64 u2], 47, false, false⟩, ⟨[.vals [(.fn (.func 21) [] [])]], 54, false, false⟩])
  | 0, i_1, i_2, i_8, i_9, xs_m_0_0, xs_m_0_1, xs_m_0_2 => rfl
  | n + 1, i_1, i_2, i_8, i_9, xs_m_0_0, xs_m_0_1, xs_m_0_2 => by
    have ih := RL99_4_ok  K n
    rw [HL99_4_ok  n i_1 i_2 i_8 i_9 xs_m_0_0 xs_m_0_1 xs_m_0_2 K]
    show HL99_4  _ i_1 i_2 i_8 i_9 xs_m_0_0 xs_m_0_1 xs_m_0_2 (fun (u0 : List Int) (u1 : List Int) (u2 : List Int) => K (.exit 2) (selE 53 [(0, (.sl 0 (0 : Nat) (none : Option Nat) (none : Option Nat))), (1, (.I .i64 i_1)), (2, (.I .i64 i_2)), (3, (.fn (.func 23) [] [(.ptr 1 (0 : Nat) 0)])), (8, (.I .i64 i_8))]) [⟨[.ints .i64 u0, .ints .i64 u1, .ints .i64 u2], 47, false, false⟩, ⟨[.vals [(.fn (.func 21) [] [])]], 54, false, false⟩]) = HL99_4  _ i_1 i_2 i_8 i_9 xs_m_0_0 xs_m_0_1 xs_m_0_2 (fun (u0 : List Int) (u1 : List Int) (u2 : List Int) => K (.exit 2) (selE 53 [(0, (.sl 0 (0 : Nat) (none : Option Nat) (none : Option Nat))), (1, (.I .i64 i_1)), (2, (.I .i64 i_2)), (3, (.fn (.func 23) [] [(.ptr 1 (0 : Nat) 0)])), (8, (.I .i64 i_8))]) [⟨[.ints .i64 u0, .ints .i64 u1, .ints .i64 u2], 47, false, false⟩, ⟨[.vals [(.fn (.func 21) [] [])]], 54, false, false⟩])
    refine congrArg (fun r => HL99_4  r i_1 i_2 i_8 i_9 xs_m_0_0 xs_m_0_1 xs_m_0_2 (fun (u0 : List Int) (u1 : List Int) (u2 : List Int) => K (.exit 2) (selE 53 [(0, (.sl 0 (0 : Nat) (none : Option Nat) (none : Option Nat))), (1, (.I .i64 i_1)), (2, (.I .i64 i_2)), (3, (.fn (.func 23) [] [(.ptr 1 (0 : Nat) 0)])), (8, (.I .i64 i_8))]) [⟨[.ints .i64 u0, .ints .i64 u1, .ints .i64 u2], 47, false, false⟩, ⟨[.vals [(.fn (.func 21) [] [])]], 54, false, false⟩])) ?_
    funext i_9 xs_m_0_0 xs_m_0_1 xs_m_0_2
    exact ih i_1 i_2 i_8 i_9 xs_m_0_0 xs_m_0_1 xs_m_0_2
def GL99_4 : YL99_4 := fun x i_1 i_2 i_8 i_9 xs_m_0_0 xs_m_0_1 xs_m_0_2 k1 => x = XL99_4 ∧ ∃ n, RL99_4  n i_1 i_2 i_8 i_9 xs_m_0_0 xs_m_0_1 xs_m_0_2 k1
def VL99_4 (l : YL99_4) (F : Prop) (x : Code) (ρ : Env) (m : Mem) (K : Ex → Env → Mem → Prop) : Prop :=
  match ρ.has (53 - 1) with
  | true => (seeV (.sl 0 (0 : Nat) (none : Option Nat) (none : Option Nat)) (ρ.get 0) F (seeI .i64 (ρ.get 1) F fun i_1 => (seeI .i64 (ρ.get 2) F fun i_2 => (seeV (.fn (.func 23) [] [(.ptr 1 (0 : Nat) 0)]) (ρ.get 3) F (seeI .i64 (ρ.get 8) F fun i_8 => (seeI .i64 (ρ.get 9) F fun i_9 => (seeCons m F fun a7 q8 => (seeBlk 47 false false a7 F fun cs9 => (seeCons cs9 F fun a10 q11 => (seeInts .i64 a10 F fun xs_m_0_0 => (seeCons q11 F fun a12 q13 => (seeInts .i64 a12 F fun xs_m_0_1 => (seeCons q13 F fun a14 q15 => (seeInts .i64 a14 F fun xs_m_0_2 => (seeNil q15 F (seeCons q8 F fun a16 q17 => (seeBlk 54 false false a16 F fun cs18 => (seeCons cs18 F fun a19 q20 => (seeVals a19 F fun xs21 => (seeCons xs21 F fun a22 q23 => (seeV (.fn (.func 21) [] []) a22 F (seeNil q23 F (seeNil q20 F (seeNil q17 F (l x i_1 i_2 i_8 i_9 xs_m_0_0 xs_m_0_1 xs_m_0_2 (fun (u0 : List Int) (u1 : List Int) (u2 : List Int) => K (.exit 2) (selE 53 [(0, (.sl 0 (0 : Nat) (none : Option Nat) (none : Option Nat))), (1, (.I .i64 i_1)), (2, (.I .i64 i_2)), (3, (.fn (.func 23) [] [(.ptr 1 (0 : Nat) 0)])), (8, (.I .i64 i_8))]) [⟨[.ints .i64 u0, .ints .i64 u1, .ints .i64 u2], 47, false, false⟩, ⟨[.vals [(.fn (.func 21) [] [])]], 54, false, false⟩]))))))))))))))))))))))))))
  | false => False
def WL99_4 (l : YL99_4) (W : Masks) : Masks := fun r =>
  match Nat.beq r 4 with
  | true => some fun x ρ m K => VL99_4 l (match W r with | some lf => lf x ρ m K | none => False) x (tidyE 2 [0, 1, 2, 3, 8, 9] ρ m) (tidyM 2 [0, 1, 2, 3, 8, 9] ρ m) K
  | false => W r
set_option maxRecDepth 100000 in
theorem WL99_4_ok {W : Masks} (hW : LoopsOk Tryz.prog 2 W) : LoopsOk Tryz.prog 2 (WL99_4 GL99_4 W) := by
  intro r lf h
  unfold WL99_4 at h
  split at h
  · cases h
    intro x E0 m0 w0 J hS0 ha hJ ρ m K E a w Q hS hρ hd h hQ
    have fb : (match W r with | some lf => lf x ρ m K | none => False) → (Code.loop x).wp Tryz.prog Q a w := fun h => by
      split at h
      · rename_i lf hlf
        exact hW r lf hlf x hS0 ha hJ ρ m K E a w Q hS hρ hd h hQ
      · cases h
    obtain ⟨E2, hS2, hρ2⟩ := tidy_rel hS0 hS hρ [0, 1, 2, 3, 8, 9]
    rw [ha] at hS2 hρ2
    unfold VL99_4 at h
    split at h
    · rename_i hlen
      replace h := seeV_use h
      rcases h with h | ⟨e1, h⟩
      · exact fb h
      replace h := seeI_use h
      rcases h with h | ⟨i_1, e2, h⟩
      · exact fb h
      replace h := seeI_use h
      rcases h with h | ⟨i_2, e3, h⟩
      · exact fb h
      replace h := seeV_use h
      rcases h with h | ⟨e4, h⟩
      · exact fb h
      replace h := seeI_use h
      rcases h with h | ⟨i_8, e5, h⟩
      · exact fb h
      replace h := seeI_use h
      rcases h with h | ⟨i_9, e6, h⟩
      · exact fb h
      replace h := seeCons_use h
      rcases h with h | ⟨a7, q8, eqm, h⟩
      · exact fb h
      replace h := seeBlk_use h
      rcases h with h | ⟨cs9, rfl, h⟩
      · exact fb h
      replace h := seeCons_use h
      rcases h with h | ⟨a10, q11, rfl, h⟩
      · exact fb h
      replace h := seeInts_use h
      rcases h with h | ⟨xs_m_0_0, rfl, h⟩
      · exact fb h
      replace h := seeCons_use h
      rcases h with h | ⟨a12, q13, rfl, h⟩
      · exact fb h
      replace h := seeInts_use h
      rcases h with h | ⟨xs_m_0_1, rfl, h⟩
      · exact fb h
      replace h := seeCons_use h
      rcases h with h | ⟨a14, q15, rfl, h⟩
      · exact fb h
      replace h := seeInts_use h
      rcases h with h | ⟨xs_m_0_2, rfl, h⟩
      · exact fb h
      replace h := seeNil_use h
      rcases h with h | ⟨rfl, h⟩
      · exact fb h
      replace h := seeCons_use h
      rcases h with h | ⟨a16, q17, rfl, h⟩
      · exact fb h
      replace h := seeBlk_use h
      rcases h with h | ⟨cs18, rfl, h⟩
      · exact fb h
      replace h := seeCons_use h
      rcases h with h | ⟨a19, q20, rfl, h⟩
      · exact fb h
      replace h := seeVals_use h
      rcases h with h | ⟨xs21, rfl, h⟩
      · exact fb h
      replace h := seeCons_use h
      rcases h with h | ⟨a22, q23, rfl, h⟩
      · exact fb h
      replace h := seeV_use h
      rcases h with h | ⟨rfl, h⟩
      · exact fb h
      replace h := seeNil_use h
      rcases h with h | ⟨rfl, h⟩
      · exact fb h
      replace h := seeNil_use h
      rcases h with h | ⟨rfl, h⟩
      · exact fb h
      replace h := seeNil_use h
      rcases h with h | ⟨rfl, h⟩
      · exact fb h
      obtain ⟨rfl, n, h⟩ := h
      exact loop_use named C1_ok (LoopsOk.none _ _) (RL99_4_ok  K n _ _ _ _ _ _ _) h hS0 ha hJ hlen ⟨e1, e2, e3, e4, e5, e6, trivial⟩ (eqm ▸ hS2) hρ2 hd hQ
    · cases h
  · exact hW r lf h
abbrev YL99_1 : Type := Code → Int → Int → Int → List Int → List Int → List Int → (List Int → List Int → List Int → Prop) → Prop
set_option maxHeartbeats 4000000 in
set_option maxRecDepth 100000 in
def HL99_1  (l99_4 : YL99_4) (rec : Int → List Int → List Int → List Int → Prop) (i_1 : Int) (i_2 : Int) (i_8 : Int) (xs_m_0_0 : List Int) (xs_m_0_1 : List Int) (xs_m_0_2 : List Int) (k1 : List Int → List Int → List Int → Prop) : Prop :=
  (bif (decide (i_8 < i_2)) then (l99_4 XL99_4 i_1 i_2 i_8 i_8 xs_m_0_0 xs_m_0_1 xs_m_0_2 (fun (xs4 : List Int) (xs5 : List Int) (xs6 : List Int) => (rec (IntKind.wrap .i64 (i_8 + (1 : Int))) xs4 xs5 xs6))) else (k1 xs_m_0_0 xs_m_0_1 xs_m_0_2))
def RL99_1  (l99_4 : YL99_4) : Nat → Int → Int → Int → List Int → List Int → List Int → (List Int → List Int → List Int → Prop) → Prop
  | 0, _, _, _, _, _, _, _ => False
  | n + 1, i_1, i_2, i_8, xs_m_0_0, xs_m_0_1, xs_m_0_2, k1 => HL99_1  l99_4 (fun (i_8 : Int) (xs_m_0_0 : List Int) (xs_m_0_1 : List Int) (xs_m_0_2 : List Int) => RL99_1  l99_4 n i_1 i_2 i_8 xs_m_0_0 xs_m_0_1 xs_m_0_2 k1) i_1 i_2 i_8 xs_m_0_0 xs_m_0_1 xs_m_0_2 k1
noncomputable def XL99_1 : Code := sub [true, false, false] (bodyOf Tryz.prog 99)
theorem HL99_1_ok  (l99_4 : YL99_4) (n : Nat) (i_1 : Int) (i_2 : Int) (i_8 : Int) (xs_m_0_0 : List Int) (xs_m_0_1 : List Int) (xs_m_0_2 : List Int) (K : Ex → Env → Mem → Prop) : cround 2 [0, 1, 2, 3, 8] [] (fun ρ m K => cexec Tryz.prog C1 (WL99_4 l99_4 (fun _ => none)) 2 1000 XL99_1 ρ m K) (n + 1) (selE 53 [(0, (.sl 0 (0 : Nat) (none : Option Nat) (none : Option Nat))), (1, (.I .i64 i_1)), (2, (.I .i64 i_2)), (3, (.fn (.func 23) [] [(.ptr 1 (0 : Nat) 0)])), (8, (.I .i64 i_8))]) [⟨[.ints .i64 xs_m_0_0, .ints .i64 xs_m_0_1, .ints .i64 xs_m_0_2], 47, false, false⟩, ⟨[.vals [(.fn (.func 21) [] [])]], 54, false, false⟩] K =
    HL99_1  l99_4 (fun (i_8 : Int) (xs_m_0_0 : List Int) (xs_m_0_1 : List Int) (xs_m_0_2 : List Int) => cround 2 [0, 1, 2, 3, 8] [] (fun ρ m K => cexec Tryz.prog C1 (WL99_4 l99_4 (fun _ => none)) 2 1000 XL99_1 ρ m K) n (selE 53 [(0, (.sl 0 (0 : Nat) (none : Option Nat) (none : Option Nat))), (1, (.I .i64 i_1)), (2, (.I .i64 i_2)), (3, (.fn (.func 23) [] [(.ptr 1 (0 : Nat) 0)])), (8, (.I .i64 i_8))]) [⟨[.ints .i64 xs_m_0_0, .ints .i64 xs_m_0_1, .ints .i64 xs_m_0_2], 47, false, false⟩, ⟨[.vals [(.fn (.func 21) [] [])]], 54, false, false⟩] K) i_1 i_2 i_8 xs_m_0_0 xs_m_0_1 xs_m_0_2 (fun (u0 : List Int) (u1 : List Int) (u2 : List Int) => K (.exit 0) (selE 53 []) [⟨[.ints .i64 u0, .ints .i64 u1, .ints .i64 u2], 47, false, false⟩, ⟨[.vals [(.fn (.func 21) [] [])]], 54, false, false⟩]) := by kernel_rfl
theorem RL99_1_ok  (l99_4 : YL99_4) (K : Ex → Env → Mem → Prop) : ∀ (n : Nat) (i_1 : Int) (i_2 : Int) (i_8 : Int) (xs_m_0_0 : List Int) (xs_m_0_1 : List Int) (xs_m_0_2 : List Int), cround 2 [0, 1, 2, 3, 8] [] (fun ρ m K => cexec Tryz.prog C1 (WL99_4 l99_4 (fun _ => none)) 2 1000 XL99_1 ρ m K) n (selE 53 [(0, (.sl 0 (0 : Nat) (none : Option Nat) (none : Option Nat))), (1, (.I .i64 i_1)), (2, (.I .i64 i_2)), (3, (.fn (.func 23) [] [(.ptr 1 (0 : Nat) 0)])), (8, (.I .i64 i_8))]) [⟨[.ints .i64 xs_m_0_0, .ints .i64 xs_m_0_1, .ints .i64 xs_m_0_2], 47, false, false⟩, ⟨[.vals [(.fn (.func 21) [] [])]], 54, false, false⟩] K = RL99_1  l99_4 n i_1 i_2 i_8 xs_m_0_0 xs_m_0_1 xs_m_0_2 (fun (u0 : List Int) (u1 : List Int) (u2 : List Int) => K (.exit 0) (selE 53 []) [⟨[.ints .i64 u0, .ints .i64 u1, .ints .i64 u2], 47, false, false⟩, ⟨[.vals [(.fn (.func 21) [] [])]], 54, false, false⟩])
  | 0, i_1, i_2, i_8, xs_m_0_0, xs_m_0_1, xs_m_0_2 => rfl
  | n + 1, i_1, i_2, i_8, xs_m_0_0, xs_m_0_1, xs_m_0_2 => by
    have ih := RL99_1_ok  l99_4 K n
    rw [HL99_1_ok  l99_4 n i_1 i_2 i_8 xs_m_0_0 xs_m_0_1 xs_m_0_2 K]
    show HL99_1  l99_4 _ i_1 i_2 i_8 xs_m_0_0 xs_m_0_1 xs_m_0_2 (fun (u0 : List Int) (u1 : List Int) (u2 : List Int) => K (.exit 0) (selE 53 []) [⟨[.ints .i64 u0, .ints .i64 u1, .ints .i64 u2], 47, false, false⟩, ⟨[.vals [(.fn (.func 21) [] [])]], 54, false, false⟩]) = HL99_1  l99_4 _ i_1 i_2 i_8 xs_m_0_0 xs_m_0_1 xs_m_0_2 (fun (u0 : List Int) (u1 : List Int) (u2 : List Int) => K (.exit 0) (selE 53 []) [⟨[.ints .i64 u0, .ints .i64 u1, .ints .i64 u2], 47, false, false⟩, ⟨[.vals [(.fn (.func 21) [] [])]], 54, false, false⟩])
    refine congrArg (fun r => HL99_1  l99_4 r i_1 i_2 i_8 xs_m_0_0 xs_m_0_1 xs_m_0_2 (fun (u0 : List Int) (u1 : List Int) (u2 : List Int) => K (.exit 0) (selE 53 []) [⟨[.ints .i64 u0, .ints .i64 u1, .ints .i64 u2], 47, false, false⟩, ⟨[.vals [(.fn (.func 21) [] [])]], 54, false, false⟩])) ?_
    funext i_8 xs_m_0_0 xs_m_0_1 xs_m_0_2
    exact ih i_1 i_2 i_8 xs_m_0_0 xs_m_0_1 xs_m_0_2
def GL99_1 : YL99_1 := fun x i_1 i_2 i_8 xs_m_0_0 xs_m_0_1 xs_m_0_2 k1 => x = XL99_1 ∧ ∃ n, RL99_1  GL99_4 n i_1 i_2 i_8 xs_m_0_0 xs_m_0_1 xs_m_0_2 k1
def VL99_1 (l : YL99_1) (F : Prop) (x : Code) (ρ : Env) (m : Mem) (K : Ex → Env → Mem → Prop) : Prop :=
  match ρ.has (53 - 1) with
  | true => (seeV (.sl 0 (0 : Nat) (none : Option Nat) (none : Option Nat)) (ρ.get 0) F (seeI .i64 (ρ.get 1) F fun i_1 => (seeI .i64 (ρ.get 2) F fun i_2 => (seeV (.fn (.func 23) [] [(.ptr 1 (0 : Nat) 0)]) (ρ.get 3) F (seeI .i64 (ρ.get 8) F fun i_8 => (seeCons m F fun a6 q7 => (seeBlk 47 false false a6 F fun cs8 => (seeCons cs8 F fun a9 q10 => (seeInts .i64 a9 F fun xs_m_0_0 => (seeCons q10 F fun a11 q12 => (seeInts .i64 a11 F fun xs_m_0_1 => (seeCons q12 F fun a13 q14 => (seeInts .i64 a13 F fun xs_m_0_2 => (seeNil q14 F (seeCons q7 F fun a15 q16 => (seeBlk 54 false false a15 F fun cs17 => (seeCons cs17 F fun a18 q19 => (seeVals a18 F fun xs20 => (seeCons xs20 F fun a21 q22 => (seeV (.fn (.func 21) [] []) a21 F (seeNil q22 F (seeNil q19 F (seeNil q16 F (l x i_1 i_2 i_8 xs_m_0_0 xs_m_0_1 xs_m_0_2 (fun (u0 : List Int) (u1 : List Int) (u2 : List Int) => K (.exit 0) (selE 53 []) [⟨[.ints .i64 u0, .ints .i64 u1, .ints .i64 u2], 47, false, false⟩, ⟨[.vals [(.fn (.func 21) [] [])]], 54, false, false⟩])))))))))))))))))))))))))
  | false => False
def WL99_1 (l : YL99_1) (W : Masks) : Masks := fun r =>
  match Nat.beq r 1 with
  | true => some fun x ρ m K => VL99_1 l (match W r with | some lf => lf x ρ m K | none => False) x (tidyE 2 [0, 1, 2, 3, 8] ρ m) (tidyM 2 [0, 1, 2, 3, 8] ρ m) K
  | false => W r
set_option maxRecDepth 100000 in
theorem WL99_1_ok {W : Masks} (hW : LoopsOk Tryz.prog 2 W) : LoopsOk Tryz.prog 2 (WL99_1 GL99_1 W) := by
  intro r lf h
  unfold WL99_1 at h
  split at h
  · cases h
    intro x E0 m0 w0 J hS0 ha hJ ρ m K E a w Q hS hρ hd h hQ
    have fb : (match W r with | some lf => lf x ρ m K | none => False) → (Code.loop x).wp Tryz.prog Q a w := fun h => by
      split at h
      · rename_i lf hlf
        exact hW r lf hlf x hS0 ha hJ ρ m K E a w Q hS hρ hd h hQ
      · cases h
    obtain ⟨E2, hS2, hρ2⟩ := tidy_rel hS0 hS hρ [0, 1, 2, 3, 8]
    rw [ha] at hS2 hρ2
    unfold VL99_1 at h
    split at h
    · rename_i hlen
      replace h := seeV_use h
      rcases h with h | ⟨e1, h⟩
      · exact fb h
      replace h := seeI_use h
      rcases h with h | ⟨i_1, e2, h⟩
      · exact fb h
      replace h := seeI_use h
      rcases h with h | ⟨i_2, e3, h⟩
      · exact fb h
      replace h := seeV_use h
      rcases h with h | ⟨e4, h⟩
      · exact fb h
      replace h := seeI_use h
      rcases h with h | ⟨i_8, e5, h⟩
      · exact fb h
      replace h := seeCons_use h
      rcases h with h | ⟨a6, q7, eqm, h⟩
      · exact fb h
      replace h := seeBlk_use h
      rcases h with h | ⟨cs8, rfl, h⟩
      · exact fb h
      replace h := seeCons_use h
      rcases h with h | ⟨a9, q10, rfl, h⟩
      · exact fb h
      replace h := seeInts_use h
      rcases h with h | ⟨xs_m_0_0, rfl, h⟩
      · exact fb h
      replace h := seeCons_use h
      rcases h with h | ⟨a11, q12, rfl, h⟩
      · exact fb h
      replace h := seeInts_use h
      rcases h with h | ⟨xs_m_0_1, rfl, h⟩
      · exact fb h
      replace h := seeCons_use h
      rcases h with h | ⟨a13, q14, rfl, h⟩
      · exact fb h
      replace h := seeInts_use h
      rcases h with h | ⟨xs_m_0_2, rfl, h⟩
      · exact fb h
      replace h := seeNil_use h
      rcases h with h | ⟨rfl, h⟩
      · exact fb h
      replace h := seeCons_use h
      rcases h with h | ⟨a15, q16, rfl, h⟩
      · exact fb h
      replace h := seeBlk_use h
      rcases h with h | ⟨cs17, rfl, h⟩
      · exact fb h
      replace h := seeCons_use h
      rcases h with h | ⟨a18, q19, rfl, h⟩
      · exact fb h
      replace h := seeVals_use h
      rcases h with h | ⟨xs20, rfl, h⟩
      · exact fb h
      replace h := seeCons_use h
      rcases h with h | ⟨a21, q22, rfl, h⟩
      · exact fb h
      replace h := seeV_use h
      rcases h with h | ⟨rfl, h⟩
      · exact fb h
      replace h := seeNil_use h
      rcases h with h | ⟨rfl, h⟩
      · exact fb h
      replace h := seeNil_use h
      rcases h with h | ⟨rfl, h⟩
      · exact fb h
      replace h := seeNil_use h
      rcases h with h | ⟨rfl, h⟩
      · exact fb h
      obtain ⟨rfl, n, h⟩ := h
      exact loop_use named C1_ok (WL99_4_ok (LoopsOk.none _ _)) (RL99_1_ok  GL99_4 K n _ _ _ _ _ _) h hS0 ha hJ hlen ⟨e1, e2, e3, e4, e5, trivial⟩ (eqm ▸ hS2) hρ2 hd hQ
    · cases h
  · exact hW r lf h
theorem at99 : Tryz.prog.funcs[99]? = some (fnOf Tryz.prog 99) := by kernel_rfl
abbrev Y99 : Type := Int → Int → List Int → List Int → List Int → (List Int → List Int → List Int → Prop) → Prop
set_option maxHeartbeats 4000000 in
set_option maxRecDepth 100000 in
def F99  (l99_1 : YL99_1) (a : Int) (b : Int) (xs : List Int) (ts : List Int) (ns : List Int) (k1 : List Int → List Int → List Int → Prop) : Prop :=
  (l99_1 XL99_1 a b (IntKind.wrap .i64 (a + (1 : Int))) xs ts ns (fun (xs1 : List Int) (xs2 : List Int) (xs3 : List Int) => (k1 xs1 xs2 xs3)))
theorem F99_ok  (l99_1 : YL99_1) (a : Int) (b : Int) (xs : List Int) (ts : List Int) (ns : List Int) (K : V → Mem → Prop) : cbody Tryz.prog C1 (WL99_1 l99_1 (fun _ => none)) 1000 (fnOf Tryz.prog 99) [(.sl 0 (0 : Nat) (none : Option Nat) (none : Option Nat)), (.I .i64 a), (.I .i64 b), (.fn (.func 23) [] [(.ptr 1 (0 : Nat) 0)])] [⟨[.ints .i64 xs, .ints .i64 ts, .ints .i64 ns], 47, false, false⟩, ⟨[.vals [(.fn (.func 21) [] [])]], 54, false, false⟩] K =
    F99  l99_1 a b xs ts ns (fun (u0 : List Int) (u1 : List Int) (u2 : List Int) => K (.tup []) [⟨[.ints .i64 u0, .ints .i64 u1, .ints .i64 u2], 47, false, false⟩, ⟨[.vals [(.fn (.func 21) [] [])]], 54, false, false⟩]) := by kernel_rfl
abbrev YL163_1 : Type := Code → Int → Int → Int → Int → List Int → List Int → List Int → (List Int → List Int → List Int → Prop) → Prop
set_option maxHeartbeats 4000000 in
set_option maxRecDepth 100000 in
def HL163_1  (rec : Int → List Int → List Int → List Int → Prop) (i_1 : Int) (i_2 : Int) (i_3 : Int) (i_10 : Int) (xs_m_0_0 : List Int) (xs_m_0_1 : List Int) (xs_m_0_2 : List Int) (k1 : List Int → List Int → List Int → Prop) : Prop :=
  (bif (decide (i_10 < i_3)) then (bif ((decide ((0 : Int) ≤ (IntKind.wrap .i64 (i_2 + i_10)))) && (decide ((IntKind.wrap .i64 (i_2 + i_10)) < ((((List.length xs_m_0_0) - (0 : Nat)) : Nat) : Int)))) then (bif ((decide ((0 : Int) ≤ (IntKind.wrap .i64 (i_1 + i_10)))) && (decide ((IntKind.wrap .i64 (i_1 + i_10)) < ((((List.length xs_m_0_0) - (0 : Nat)) : Nat) : Int)))) then (bif ((decide ((0 : Int) ≤ (IntKind.wrap .i64 (i_1 + i_10)))) && (decide ((IntKind.wrap .i64 (i_1 + i_10)) < ((((List.length xs_m_0_0) - (0 : Nat)) : Nat) : Int)))) then (bif (((IntKind.wrap .i64 (i_2 + i_10)) == (IntKind.wrap .i64 (i_2 + i_10))) && ((i_10 == i_10) && ((i_2 == i_2) && true))) then (bif ((decide ((0 : Int) ≤ (IntKind.wrap .i64 (i_2 + i_10)))) && (decide ((IntKind.wrap .i64 (i_2 + i_10)) < ((((List.length (List.set xs_m_0_0 (Int.toNat (IntKind.wrap .i64 (i_1 + i_10))) (List.getD xs_m_0_0 (Int.toNat (IntKind.wrap .i64 (i_2 + i_10))) (0 : Int)))) - (0 : Nat)) : Nat) : Int)))) then (rec (IntKind.wrap .i64 (i_10 + (1 : Int))) (List.set (List.set xs_m_0_0 (Int.toNat (IntKind.wrap .i64 (i_1 + i_10))) (List.getD xs_m_0_0 (Int.toNat (IntKind.wrap .i64 (i_2 + i_10))) (0 : Int))) (Int.toNat (IntKind.wrap .i64 (i_2 + i_10))) (List.getD xs_m_0_0 (Int.toNat (IntKind.wrap .i64 (i_1 + i_10))) (0 : Int))) (List.set (List.set xs_m_0_1 (Int.toNat (IntKind.wrap .i64 (i_1 + i_10))) (List.getD xs_m_0_1 (Int.toNat (IntKind.wrap .i64 (i_2 + i_10))) (0 : Int))) (Int.toNat (IntKind.wrap .i64 (i_2 + i_10))) (List.getD xs_m_0_1 (Int.toNat (IntKind.wrap .i64 (i_1 + i_10))) (0 : Int))) (List.set (List.set xs_m_0_2 (Int.toNat (IntKind.wrap .i64 (i_1 + i_10))) (List.getD xs_m_0_2 (Int.toNat (IntKind.wrap .i64 (i_2 + i_10))) (0 : Int))) (Int.toNat (IntKind.wrap .i64 (i_2 + i_10))) (List.getD xs_m_0_2 (Int.toNat (IntKind.wrap .i64 (i_1 + i_10))) (0 : Int)))) else False) else False) else False) else False) else False) else (k1 xs_m_0_0 xs_m_0_1 xs_m_0_2))
def RL163_1  : Nat → Int → Int → Int → Int → List Int → List Int → List Int → (List Int → List Int → List Int → Prop) → Prop
  | 0, _, _, _, _, _, _, _, _ => False
  | n + 1, i_1, i_2, i_3, i_10, xs_m_0_0, xs_m_0_1, xs_m_0_2, k1 => HL163_1  (fun (i_10 : Int) (xs_m_0_0 : List Int) (xs_m_0_1 : List Int) (xs_m_0_2 : List Int) => RL163_1  n i_1 i_2 i_3 i_10 xs_m_0_0 xs_m_0_1 xs_m_0_2 k1) i_1 i_2 i_3 i_10 xs_m_0_0 xs_m_0_1 xs_m_0_2 k1
noncomputable def XL163_1 : Code := sub [true, false, false] (bodyOf Tryz.prog 163)
theorem HL163_1_ok  (n : Nat) (i_1 : Int) (i_2 : Int) (i_3 : Int) (i_10 : Int) (xs_m_0_0 : List Int) (xs_m_0_1 : List Int) (xs_m_0_2 : List Int) (K : Ex → Env → Mem → Prop) : cround 2 [0, 1, 2, 3, 10] [] (fun ρ m K => cexec Tryz.prog C1 (fun _ => none) 2 1000 XL163_1 ρ m K) (n + 1) (selE 38 [(0, (.sl 0 (0 : Nat) (none : Option Nat) (none : Option Nat))), (1, (.I .i64 i_1)), (2, (.I .i64 i_2)), (3, (.I .i64 i_3)), (10, (.I .i64 i_10))]) [⟨[.ints .i64 xs_m_0_0, .ints .i64 xs_m_0_1, .ints .i64 xs_m_0_2], 47, false, false⟩, ⟨[.vals [(.fn (.func 21) [] [])]], 54, false, false⟩] K =
    HL163_1  (fun (i_10 : Int) (xs_m_0_0 : List Int) (xs_m_0_1 : List Int) (xs_m_0_2 : List Int) => cround 2 [0, 1, 2, 3, 10] [] (fun ρ m K => cexec Tryz.prog C1 (fun _ => none) 2 1000 XL163_1 ρ m K) n (selE 38 [(0, (.sl 0 (0 : Nat) (none : Option Nat) (none : Option Nat))), (1, (.I .i64 i_1)), (2, (.I .i64 i_2)), (3, (.I .i64 i_3)), (10, (.I .i64 i_10))]) [⟨[.ints .i64 xs_m_0_0, .ints .i64 xs_m_0_1, .ints .i64 xs_m_0_2], 47, false, false⟩, ⟨[.vals [(.fn (.func 21) [] [])]], 54, false, false⟩] K) i_1 i_2 i_3 i_10 xs_m_0_0 xs_m_0_1 xs_m_0_2 (fun (u0 : List Int) (u1 : List Int) (u2 : List Int) => K (.exit 0) (selE 38 []) [⟨[.ints .i64 u0, .ints .i64 u1, .ints .i64 u2], 47, false, false⟩, ⟨[.vals [(.fn (.func 21) [] [])]], 54, false, false⟩]) := by kernel_rfl
theorem RL163_1_ok  (K : Ex → Env → Mem → Prop) : ∀ (n : Nat) (i_1 : Int) (i_2 : Int) (i_3 : Int) (i_10 : Int) (xs_m_0_0 : List Int) (xs_m_0_1 : List Int) (xs_m_0_2 : List Int), cround 2 [0, 1, 2, 3, 10] [] (fun ρ m K => cexec Tryz.prog C1 (fun _ => none) 2 1000 XL163_1 ρ m K) n (selE 38 [(0, (.sl 0 (0 : Nat) (none : Option Nat) (none : Option Nat))), (1, (.I .i64 i_1)), (2, (.I .i64 i_2)), (3, (.I .i64 i_3)), (10, (.I .i64 i_10))]) [⟨[.ints .i64 xs_m_0_0, .ints .i64 xs_m_0_1, .ints .i64 xs_m_0_2], 47, false, false⟩, ⟨[.vals [(.fn (.func 21) [] [])]], 54, false, false⟩] K = RL163_1  n i_1 i_2 i_3 i_10 xs_m_0_0 xs_m_0_1 xs_m_0_2 (fun (u0 : List Int) (u1 : List Int) (u2 : List Int) => K (.exit 0) (selE 38 []) [⟨[.ints .i64 u0, .ints .i64 u1, .ints .i64 u2], 47, false, false⟩, ⟨[.vals [(.fn (.func 21) [] [])]], 54, false, false⟩])
  | 0, i_1, i_2, i_3, i_10, xs_m_0_0, xs_m_0_1, xs_m_0_2 => rfl
  | n + 1, i_1, i_2, i_3, i_10, xs_m_0_0, xs_m_0_1, xs_m_0_2 => by
    have ih := RL163_1_ok  K n
    rw [HL163_1_ok  n i_1 i_2 i_3 i_10 xs_m_0_0 xs_m_0_1 xs_m_0_2 K]
    show HL163_1  _ i_1 i_2 i_3 i_10 xs_m_0_0 xs_m_0_1 xs_m_0_2 (fun (u0 : List Int) (u1 : List Int) (u2 : List Int) => K (.exit 0) (selE 38 []) [⟨[.ints .i64 u0, .ints .i64 u1, .ints .i64 u2], 47, false, false⟩, ⟨[.vals [(.fn (.func 21) [] [])]], 54, false, false⟩]) = HL163_1  _ i_1 i_2 i_3 i_10 xs_m_0_0 xs_m_0_1 xs_m_0_2 (fun (u0 : List Int) (u1 : List Int) (u2 : List Int) => K (.exit 0) (selE 38 []) [⟨[.ints .i64 u0, .ints .i64 u1, .ints .i64 u2], 47, false, false⟩, ⟨[.vals [(.fn (.func 21) [] [])]], 54, false, false⟩])
    refine congrArg (fun r => HL163_1  r i_1 i_2 i_3 i_10 xs_m_0_0 xs_m_0_1 xs_m_0_2 (fun (u0 : List Int) (u1 : List Int) (u2 : List Int) => K (.exit 0) (selE 38 []) [⟨[.ints .i64 u0, .ints .i64 u1, .ints .i64 u2], 47, false, false⟩, ⟨[.vals [(.fn (.func 21) [] [])]], 54, false, false⟩])) ?_
    funext i_10 xs_m_0_0 xs_m_0_1 xs_m_0_2
    exact ih i_1 i_2 i_3 i_10 xs_m_0_0 xs_m_0_1 xs_m_0_2
def GL163_1 : YL163_1 := fun x i_1 i_2 i_3 i_10 xs_m_0_0 xs_m_0_1 xs_m_0_2 k1 => x = XL163_1 ∧ ∃ n, RL163_1  n i_1 i_2 i_3 i_10 xs_m_0_0 xs_m_0_1 xs_m_0_2 k1
def VL163_1 (l : YL163_1) (F : Prop) (x : Code) (ρ : Env) (m : Mem) (K : Ex → Env → Mem → Prop) : Prop :=
  match ρ.has (38 - 1) with
  | true => (seeV (.sl 0 (0 : Nat) (none : Option Nat) (none : Option Nat)) (ρ.get 0) F (seeI .i64 (ρ.get 1) F fun i_1 => (seeI .i64 (ρ.get 2) F fun i_2 => (seeI .i64 (ρ.get 3) F fun i_3 => (seeI .i64 (ρ.get 10) F fun i_10 => (seeCons m F fun a6 q7 => (seeBlk 47 false false a6 F fun cs8 => (seeCons cs8 F fun a9 q10 => (seeInts .i64 a9 F fun xs_m_0_0 => (seeCons q10 F fun a11 q12 => (seeInts .i64 a11 F fun xs_m_0_1 => (seeCons q12 F fun a13 q14 => (seeInts .i64 a13 F fun xs_m_0_2 => (seeNil q14 F (seeCons q7 F fun a15 q16 => (seeBlk 54 false false a15 F fun cs17 => (seeCons cs17 F fun a18 q19 => (seeVals a18 F fun xs20 => (seeCons xs20 F fun a21 q22 => (seeV (.fn (.func 21) [] []) a21 F (seeNil q22 F (seeNil q19 F (seeNil q16 F (l x i_1 i_2 i_3 i_10 xs_m_0_0 xs_m_0_1 xs_m_0_2 (fun (u0 : List Int) (u1 : List Int) (u2 : List Int) => K (.exit 0) (selE 38 []) [⟨[.ints .i64 u0, .ints .i64 u1, .ints .i64 u2], 47, false, false⟩, ⟨[.vals [(.fn (.func 21) [] [])]], 54, false, false⟩])))))))))))))))))))))))))
  | false => False
def WL163_1 (l : YL163_1) (W : Masks) : Masks := fun r =>
  match Nat.beq r 1 with
  | true => some fun x ρ m K => VL163_1 l (match W r with | some lf => lf x ρ m K | none => False) x (tidyE 2 [0, 1, 2, 3, 10] ρ m) (tidyM 2 [0, 1, 2, 3, 10] ρ m) K
  | false => W r
set_option maxRecDepth 100000 in
theorem WL163_1_ok {W : Masks} (hW : LoopsOk Tryz.prog 2 W) : LoopsOk Tryz.prog 2 (WL163_1 GL163_1 W) := by
  intro r lf h
  unfold WL163_1 at h
  split at h
  · cases h
    intro x E0 m0 w0 J hS0 ha hJ ρ m K E a w Q hS hρ hd h hQ
    have fb : (match W r with | some lf => lf x ρ m K | none => False) → (Code.loop x).wp Tryz.prog Q a w := fun h => by
      split at h
      · rename_i lf hlf
        exact hW r lf hlf x hS0 ha hJ ρ m K E a w Q hS hρ hd h hQ
      · cases h
    obtain ⟨E2, hS2, hρ2⟩ := tidy_rel hS0 hS hρ [0, 1, 2, 3, 10]
    rw [ha] at hS2 hρ2
    unfold VL163_1 at h
    split at h
    · rename_i hlen
      replace h := seeV_use h
      rcases h with h | ⟨e1, h⟩
      · exact fb h
      replace h := seeI_use h
      rcases h with h | ⟨i_1, e2, h⟩
      · exact fb h
      replace h := seeI_use h
      rcases h with h | ⟨i_2, e3, h⟩
      · exact fb h
      replace h := seeI_use h
      rcases h with h | ⟨i_3, e4, h⟩
      · exact fb h
      replace h := seeI_use h
      rcases h with h | ⟨i_10, e5, h⟩
      · exact fb h
      replace h := seeCons_use h
      rcases h with h | ⟨a6, q7, eqm, h⟩
      · exact fb h
      replace h := seeBlk_use h
      rcases h with h | ⟨cs8, rfl, h⟩
      · exact fb h
      replace h := seeCons_use h
      rcases h with h | ⟨a9, q10, rfl, h⟩
      · exact fb h
      replace h := seeInts_use h
      rcases h with h | ⟨xs_m_0_0, rfl, h⟩
      · exact fb h
      replace h := seeCons_use h
      rcases h with h | ⟨a11, q12, rfl, h⟩
      · exact fb h
      replace h := seeInts_use h
      rcases h with h | ⟨xs_m_0_1, rfl, h⟩
      · exact fb h
      replace h := seeCons_use h
      rcases h with h | ⟨a13, q14, rfl, h⟩
      · exact fb h
      replace h := seeInts_use h
      rcases h with h | ⟨xs_m_0_2, rfl, h⟩
      · exact fb h
      replace h := seeNil_use h
      rcases h with h | ⟨rfl, h⟩
      · exact fb h
      replace h := seeCons_use h
      rcases h with h | ⟨a15, q16, rfl, h⟩
      · exact fb h
      replace h := seeBlk_use h
      rcases h with h | ⟨cs17, rfl, h⟩
      · exact fb h
      replace h := seeCons_use h
      rcases h with h | ⟨a18, q19, rfl, h⟩
      · exact fb h
      replace h := seeVals_use h
      rcases h with h | ⟨xs20, rfl, h⟩
      · exact fb h
      replace h := seeCons_use h
      rcases h with h | ⟨a21, q22, rfl, h⟩
      · exact fb h
      replace h := seeV_use h
      rcases h with h | ⟨rfl, h⟩
      · exact fb h
      replace h := seeNil_use h
      rcases h with h | ⟨rfl, h⟩
      · exact fb h
      replace h := seeNil_use h
      rcases h with h | ⟨rfl, h⟩
      · exact fb h
      replace h := seeNil_use h
      rcases h with h | ⟨rfl, h⟩
      · exact fb h
      obtain ⟨rfl, n, h⟩ := h
      exact loop_use named C1_ok (LoopsOk.none _ _) (RL163_1_ok  K n _ _ _ _ _ _ _) h hS0 ha hJ hlen ⟨e1, e2, e3, e4, e5, trivial⟩ (eqm ▸ hS2) hρ2 hd hQ
    · cases h
  · exact hW r lf h
theorem at163 : Tryz.prog.funcs[163]? = some (fnOf Tryz.prog 163) := by kernel_rfl
abbrev Y163 : Type := Int → Int → Int → List Int → List Int → List Int → (List Int → List Int → List Int → Prop) → Prop
set_option maxHeartbeats 4000000 in
set_option maxRecDepth 100000 in
def F163  (l163_1 : YL163_1) (a : Int) (b : Int) (c : Int) (xs : List Int) (ts : List Int) (ns : List Int) (k1 : List Int → List Int → List Int → Prop) : Prop :=
  (l163_1 XL163_1 a b c (0 : Int) xs ts ns (fun (xs1 : List Int) (xs2 : List Int) (xs3 : List Int) => (k1 xs1 xs2 xs3)))
theorem F163_ok  (l163_1 : YL163_1) (a : Int) (b : Int) (c : Int) (xs : List Int) (ts : List Int) (ns : List Int) (K : V → Mem → Prop) : cbody Tryz.prog C1 (WL163_1 l163_1 (fun _ => none)) 1000 (fnOf Tryz.prog 163) [(.sl 0 (0 : Nat) (none : Option Nat) (none : Option Nat)), (.I .i64 a), (.I .i64 b), (.I .i64 c), (.fn (.func 23) [] [(.ptr 1 (0 : Nat) 0)])] [⟨[.ints .i64 xs, .ints .i64 ts, .ints .i64 ns], 47, false, false⟩, ⟨[.vals [(.fn (.func 21) [] [])]], 54, false, false⟩] K =
    F163  l163_1 a b c xs ts ns (fun (u0 : List Int) (u1 : List Int) (u2 : List Int) => K (.tup []) [⟨[.ints .i64 u0, .ints .i64 u1, .ints .i64 u2], 47, false, false⟩, ⟨[.vals [(.fn (.func 21) [] [])]], 54, false, false⟩]) := by kernel_rfl
theorem bif_dec {q A B : Prop} {d : Decidable q} (h1 : q → A) (h2 : ¬ q → B) : bif (@decide q d) then A else B := by
  cases d with
  | isTrue h => exact h1 h
  | isFalse h => exact h2 h
theorem getD_is {f : R → Int} {L A B : List R} {x : R} {i : Nat} (h : L = A ++ x :: B) (hi : i = A.length) : List.getD (L.map f) i 0 = f x := by
  subst h; subst hi; exact getD_at f A x B
theorem set_is {f : R → Int} {L A B : List R} {x y : R} {i : Nat} (h : L = A ++ x :: B) (hi : i = A.length) : List.set (L.map f) i (f y) = (A ++ y :: B).map f := by
  subst h; subst hi; exact set_at f A x y B
theorem swap2 {f : R → Int} {L A B C : List R} {x y : R} {i j : Nat} (h : L = A ++ x :: (B ++ y :: C)) (hi : i = A.length) (hj : j = A.length + 1 + B.length) :
    List.set (List.set (L.map f) i (List.getD (L.map f) j 0)) j (List.getD (L.map f) i 0) = (A ++ y :: (B ++ x :: C)).map f := by
  rw [getD_is (A := A ++ x :: B) (x := y) (B := C) (by rw [h]; simp) (by rw [hj]; simp; omega), getD_is h hi, set_is (y := y) h hi]
  rw [set_is (A := A ++ y :: B) (x := y) (B := C) (y := x) (by simp) (by rw [hj]; simp; omega)]
  simp
theorem swap2' {f : R → Int} {L A B C : List R} {x y : R} {i j : Nat} (h : L = A ++ x :: (B ++ y :: C)) (hi : i = A.length) (hj : j = A.length + 1 + B.length) :
    List.set (List.set (L.map f) j (List.getD (L.map f) i 0)) i (List.getD (L.map f) j 0) = (A ++ y :: (B ++ x :: C)).map f := by
  rw [getD_is (i := j) (A := A ++ x :: B) (x := y) (B := C) (by rw [h]; simp) (by rw [hj]; simp; omega), getD_is (i := i) h hi]
  rw [set_is (L := L) (A := A ++ x :: B) (x := y) (B := C) (y := x) (by rw [h]; simp) (by rw [hj]; simp; omega)]
  rw [set_is (A := A) (x := x) (B := B ++ x :: C) (y := y) (by simp) hi]
theorem inb {f : R → Int} {L : List R} {i : Nat} (h : i < L.length) : (decide ((0 : Int) ≤ (i : Int)) && decide ((i : Int) < (((List.length (L.map f) - (0 : Nat) : Nat)) : Int))) = true := by
  simp; omega
theorem inb_set {f : R → Int} {L : List R} {i j : Nat} {v : Int} (h : i < L.length) : (decide ((0 : Int) ≤ (i : Int)) && decide ((i : Int) < (((List.length (List.set (L.map f) j v) - (0 : Nat) : Nat)) : Int))) = true := by
  simp; omega
/-! ### Ranges that change places -/
theorem swp_in : ∀ (u v P M Q : List R) (a b n : Int) (i : Nat) (k : KK), v.length = u.length → small (P ++ (u ++ (M ++ (v ++ Q)))).length → a + i = P.length → b + i = ((P.length + u.length + M.length : Nat) : Int) → n = ((i + u.length : Nat) : Int) → 0 ≤ a → 0 ≤ b →
    put3 k (P ++ (v ++ (M ++ (u ++ Q)))) → RL163_1 (u.length + 1) a b n i ((P ++ (u ++ (M ++ (v ++ Q)))).map f1) ((P ++ (u ++ (M ++ (v ++ Q)))).map f2) ((P ++ (u ++ (M ++ (v ++ Q)))).map f3) k
  | [], v, P, M, Q, a, b, n, i, k, hv, hs, ha, hb, hn, h0, h1, hk => by
    have : v = [] := List.eq_nil_of_length_eq_zero (by simpa using hv)
    subst this
    show HL163_1 _ _ _ _ _ _ _ _ _
    unfold HL163_1
    rw [decide_eq_false (by simp at hn; omega : ¬ ((i : Nat) : Int) < n)]
    exact hk
  | x :: u, [], P, M, Q, a, b, n, i, k, hv, hs, ha, hb, hn, h0, h1, hk => by simp at hv
  | x :: u, y :: v, P, M, Q, a, b, n, i, k, hv, hs, ha, hb, hn, h0, h1, hk => by
    have hv' : v.length = u.length := by simpa using hv
    have hs' : small (P.length + (u.length + 1 + (M.length + (v.length + 1 + Q.length)))) := by simpa [Nat.add_comm, Nat.add_left_comm, Nat.add_assoc] using hs
    unfold small at hs'
    simp only [List.length_cons] at hb hn
    have ea : IntKind.wrap .i64 (a + ((i : Nat) : Int)) = ((P.length : Nat) : Int) := by rw [w64 (by omega) (by omega)]; omega
    have eb : IntKind.wrap .i64 (b + ((i : Nat) : Int)) = ((P.length + 1 + (u ++ M).length : Nat) : Int) := by rw [w64 (by omega) (by omega)]; simp; omega
    have ei : IntKind.wrap .i64 (((i : Nat) : Int) + 1) = ((i + 1 : Nat) : Int) := by rw [w64 (by omega) (by omega)]; omega
    have hL : P ++ (x :: u ++ (M ++ (y :: v ++ Q))) = P ++ x :: ((u ++ M) ++ y :: (v ++ Q)) := by simp
    have ih := swp_in u v (P ++ [y]) (M ++ [x]) Q a b n (i + 1) k hv' (by unfold small; simp; omega) (by simp; omega) (by simp; omega) (by rw [hn]; congr 1; omega) h0 h1 (by simpa using hk)
    show HL163_1 _ _ _ _ _ _ _ _ _
    unfold HL163_1
    rw [decide_eq_true (by omega : ((i : Nat) : Int) < n), ea, eb, ei, hL]
    simp only [Int.toNat_natCast]
    rw [inb (by simp; omega), inb (by simp), inb_set (by simp; omega), swap2 rfl rfl rfl, swap2 rfl rfl rfl, swap2 rfl rfl rfl]
    simp only [beq_self_eq_true, Bool.and_true, cond_true]
    have e : P ++ y :: (u ++ M ++ x :: (v ++ Q)) = P ++ [y] ++ (u ++ (M ++ [x] ++ (v ++ Q))) := by simp
    rw [e]
    exact ih
theorem h163 {a b n : Int} {xs ts ns : List Int} {k : KK} (h : swpS a b n xs ts ns k) : F163 GL163_1 a b n xs ts ns k := by
  obtain ⟨p, u, m, v, q, ⟨rfl, rfl, rfl⟩, hs, rfl, rfl, rfl, hv, hk⟩ := h
  refine ⟨rfl, u.length + 1, ?_⟩
  exact swp_in u v p m q _ _ _ 0 k hv hs (by simp) (by simp) (by simp) (by omega) (by omega) hk
/-! ### Insertion -/
theorem ins_in (p rest : List R) (x : R) (i' b' : Int) (k : KK) : ∀ (n : Nat) (P Q : List R), P.length = n → small (p ++ (P ++ x :: Q ++ rest)).length → Srt ltR (P ++ Q) → (∀ q ∈ Q, ltR x q = true) →
    (∀ S, Srt ltR S → Same ltR (P ++ x :: Q) S → put3 k (p ++ (S ++ rest))) →
    RL99_4 (n + 1) p.length b' i' ((p.length + P.length : Nat) : Int) ((p ++ (P ++ x :: Q ++ rest)).map f1) ((p ++ (P ++ x :: Q ++ rest)).map f2) ((p ++ (P ++ x :: Q ++ rest)).map f3) k := by
  intro n
  induction n with
  | zero =>
    intro P Q hn hs hsr hq hk
    obtain rfl := List.eq_nil_of_length_eq_zero hn
    show HL99_4 _ _ _ _ _ _ _ _ _
    unfold HL99_4
    rw [decide_eq_false (by simp : ¬ ((p.length + ([] : List R).length : Nat) : Int) > ((p.length : Nat) : Int))]
    exact hk _ (srt_put ordR hsr hq (by simp)) (Same.refl _)
  | succ n ih =>
    intro P Q hn hs hsr hq hk
    rcases List.eq_nil_or_concat P with rfl | ⟨P', y, rfl⟩
    · simp at hn
    rw [List.concat_eq_append] at *
    have hn' : P'.length = n := by simpa using hn
    have hs' : p.length + (P'.length + 1 + (Q.length + 1) + rest.length) ≤ 1152921504606846976 := by
      have := hs; unfold small at this; simp at this; omega
    have hL : p ++ (P' ++ [y] ++ x :: Q ++ rest) = (p ++ P') ++ y :: ([] ++ x :: (Q ++ rest)) := by simp
    have e1 : IntKind.wrap .i64 (((p.length + (P' ++ [y]).length : Nat) : Int) - 1) = (((p ++ P').length : Nat) : Int) := by rw [w64 (by simp; omega) (by simp; omega)]; simp; omega
    have e0 : ((p.length + (P' ++ [y]).length : Nat) : Int) = (((p ++ P').length + 1 + ([] : List R).length : Nat) : Int) := by simp; omega
    show HL99_4 _ _ _ _ _ _ _ _ _
    unfold HL99_4
    rw [e1, e0]
    rw [decide_eq_true (by simp; omega : (((p ++ P').length + 1 + ([] : List R).length : Nat) : Int) > ((p.length : Nat) : Int)), hL]
    simp only [Int.toNat_natCast]
    rw [inb (by simp <;> omega), inb (by simp <;> omega), inb_set (by simp <;> omega)]
    rw [swap2' rfl rfl rfl, swap2' rfl rfl rfl, swap2' rfl rfl rfl]
    have gx : ∀ f : R → Int, List.getD (((p ++ P') ++ y :: ([] ++ x :: (Q ++ rest))).map f) ((p ++ P').length + 1 + ([] : List R).length) 0 = f x := fun f => getD_is (A := p ++ P' ++ [y]) (B := Q ++ rest) (by simp) (by simp; omega)
    have gy : ∀ f : R → Int, List.getD (((p ++ P') ++ y :: ([] ++ x :: (Q ++ rest))).map f) (p ++ P').length 0 = f y := fun f => getD_is rfl rfl
    simp only [gx f1, gx f2, gy f1, gy f2, beq_self_eq_true, Bool.and_true, cond_true]
    refine bif_dec (fun hc => ?_) (fun hc => ?_)
    · have hlt : ltR x y = true := decide_eq_true hc
      have := ih P' (y :: Q) hn' (by unfold small; simp; omega) (by simpa using hsr) (by
        intro q hq'
        rcases List.mem_cons.1 hq' with rfl | hq'
        · exact hlt
        · exact hq q hq') (by
        intro S hS hSm
        refine hk S hS (Same.trans ?_ hSm)
        have := (Same.refl (lt := ltR) P').app ((Same.swap ordR (A := [y]) (B := [x]) (by simpa using hlt)).app (Same.refl (lt := ltR) Q))
        simpa using this)
      have e : p ++ P' ++ x :: ([] ++ y :: (Q ++ rest)) = p ++ (P' ++ x :: (y :: Q) ++ rest) := by simp
      have e2 : (((p ++ P').length : Nat) : Int) = ((p.length + P'.length : Nat) : Int) := by simp
      rw [e, e2]
      exact this
    · have hlt : ltR x y = false := decide_eq_false hc
      have := hk _ (srt_put ordR hsr hq (by intro z hz; simp at hz; subst hz; exact hlt)) (Same.refl _)
      rw [← hL]
      exact this
theorem ins_out (p q : List R) (k : KK) : ∀ (T S : List R) (b : Int), small (p ++ (S ++ T ++ q)).length → b = ((p.length + S.length + T.length : Nat) : Int) → Srt ltR S → (∀ s', Srt ltR s' → Same ltR (S ++ T) s' → put3 k (p ++ (s' ++ q))) →
    RL99_1 GL99_4 (T.length + 1) p.length b ((p.length + S.length : Nat) : Int) ((p ++ (S ++ T ++ q)).map f1) ((p ++ (S ++ T ++ q)).map f2) ((p ++ (S ++ T ++ q)).map f3) k
  | [], S, b, hs, hb, hS, hk => by
    show HL99_1 _ _ _ _ _ _ _ _ _
    unfold HL99_1
    rw [decide_eq_false (by simp at hb; omega : ¬ ((p.length + S.length : Nat) : Int) < b)]
    have := hk S hS (by simpa using Same.refl S)
    have e : p ++ (S ++ [] ++ q) = p ++ (S ++ q) := by simp
    rw [e]
    exact this
  | x :: T, S, b, hs, hb, hS, hk => by
    have hs' : p.length + (S.length + (T.length + 1) + q.length) ≤ 1152921504606846976 := by
      have := hs; unfold small at this; simp at this; omega
    show HL99_1 _ _ _ _ _ _ _ _ _
    unfold HL99_1
    simp only [List.length_cons] at hb
    rw [decide_eq_true (by omega : ((p.length + S.length : Nat) : Int) < b)]
    refine ⟨rfl, S.length + 1, ?_⟩
    have e : p ++ (S ++ x :: T ++ q) = p ++ (S ++ x :: [] ++ (T ++ q)) := by simp
    rw [e]
    refine ins_in p (T ++ q) x _ _ _ S.length S [] rfl (by unfold small; simp; omega) (by simpa using hS) (by simp) ?_
    intro S1 hS1 hSm
    have hl1 : S1.length = S.length + 1 := by have := hSm.perm_length ordR; simp at this; omega
    have ei : IntKind.wrap .i64 (((p.length + S.length : Nat) : Int) + 1) = ((p.length + S1.length : Nat) : Int) := by rw [w64 (by omega) (by omega)]; omega
    have e' : p ++ (S1 ++ (T ++ q)) = p ++ (S1 ++ T ++ q) := by simp
    unfold put3
    rw [e', ei]
    exact ins_out p q k T S1 b (by unfold small; simp; omega) (by omega) hS1 (fun s' h1 h2 => hk s' h1 (Same.trans (by have := hSm.app (Same.refl (lt := ltR) T); simpa using this) h2))
theorem h99 {a b : Int} {xs ts ns : List Int} {k : KK} (h : insS a b xs ts ns k) : F99 GL99_1 a b xs ts ns k := by
  obtain ⟨p, s, q, ⟨rfl, rfl, rfl⟩, hs, rfl, rfl, hk⟩ := h
  have hs' : p.length + (s.length + q.length) ≤ 1152921504606846976 := by have := hs; unfold small at this; simpa using this
  have ei : IntKind.wrap .i64 (((p.length : Nat) : Int) + 1) = ((p.length + 1 : Nat) : Int) := by rw [w64 (by omega) (by omega)]; omega
  cases s with
  | nil =>
    refine ⟨rfl, 1, ?_⟩
    show HL99_1 _ _ _ _ _ _ _ _ _
    unfold HL99_1
    rw [ei, decide_eq_false (by simp <;> omega : ¬ ((p.length + 1 : Nat) : Int) < ((p.length + ([] : List R).length : Nat) : Int))]
    have := hk [] List.Pairwise.nil (Same.refl _)
    exact this
  | cons x T =>
    refine ⟨rfl, T.length + 1, ?_⟩
    rw [ei]
    have := ins_out p q k T [x] ((p.length + (x :: T).length : Nat) : Int) (by simpa using hs) (by simp; omega) (by simp [Srt]) (by simpa using hk)
    simpa using this
theorem P99_ok : PrimOk Tryz.prog 99 (p2 insS) := by
  intro args m K E w cargs hS ha h
  unfold p2 at h
  split at h
  · rename_i a b' f xs ts ns e b
    split at h
    · rename_i hb
      obtain ⟨rfl, rfl, rfl⟩ := okD_eq hb
      exact cbody_use named C1_ok at99 (l := 2) rfl (WL99_1_ok (LoopsOk.none _ _)) (F99_ok GL99_1 a b' xs ts ns K) hS ha (h99 h)
    · cases h
  · cases h
theorem P163_ok : PrimOk Tryz.prog 163 (p3 swpS) := by
  intro args m K E w cargs hS ha h
  unfold p3 at h
  split at h
  · rename_i a b' c f xs ts ns e b
    split at h
    · rename_i hb
      obtain ⟨rfl, rfl, rfl⟩ := okD_eq hb
      exact cbody_use named C1_ok at163 (l := 2) rfl (WL163_1_ok (LoopsOk.none _ _)) (F163_ok GL163_1 a b' c xs ts ns K) hS ha (h163 h)
    · cases h
  · cases h
end Go.Proofs.YtgflbmcmkjkmmaaGreat.so
