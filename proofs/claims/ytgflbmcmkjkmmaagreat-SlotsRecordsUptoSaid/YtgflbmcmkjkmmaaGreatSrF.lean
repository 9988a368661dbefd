import Derived.Test.YtgflbmcmkjkmmaaGreatSrE
set_option linter.unusedVariables false
set_option linter.unusedSimpArgs false
set_option maxHeartbeats 4000000
set_option maxRecDepth 100000
namespace Go.Proofs.YtgflbmcmkjkmmaaGreat.so
open Go Go.Ab Go.So
abbrev YL3_18 : Type := Code → Int → List Int → List Int → List Int → List Int → List Int → List Int → List Int → List Int → List Int → List Int → List Int → List Int → (Prop) → (Prop) → Prop
set_option maxHeartbeats 4000000 in
set_option maxRecDepth 100000 in
def HL3_18  (rec : Int → Prop) (i_29 : Int) (xs_m_0_0 : List Int) (xs_m_0_1 : List Int) (xs_m_0_2 : List Int) (xs_m_1_0 : List Int) (xs_m_2_0 : List Int) (xs_m_2_1 : List Int) (xs_m_2_2 : List Int) (xs_m_3_0 : List Int) (xs_m_3_1 : List Int) (xs_m_3_2 : List Int) (xs_m_4_0 : List Int) (xs_m_5_0 : List Int) (k1 : Prop) (k2 : Prop) : Prop :=
  (bif (decide (i_29 < ((((List.length xs_m_4_0) - (0 : Nat)) : Nat) : Int))) then (bif ((decide ((0 : Int) ≤ i_29)) && (decide (i_29 < ((((List.length xs_m_4_0) - (0 : Nat)) : Nat) : Int)))) then (bif ((decide ((0 : Int) ≤ i_29)) && (decide (i_29 < ((((List.length xs_m_5_0) - (0 : Nat)) : Nat) : Int)))) then (bif ((List.getD xs_m_4_0 (Int.toNat i_29) (0 : Int)) != (List.getD xs_m_5_0 (Int.toNat i_29) (0 : Int))) then (k1) else (rec (IntKind.wrap .i64 (i_29 + (1 : Int))))) else False) else False) else (k2))
def RL3_18  : Nat → Int → List Int → List Int → List Int → List Int → List Int → List Int → List Int → List Int → List Int → List Int → List Int → List Int → (Prop) → (Prop) → Prop
  | 0, _, _, _, _, _, _, _, _, _, _, _, _, _, _, _ => False
  | n + 1, i_29, xs_m_0_0, xs_m_0_1, xs_m_0_2, xs_m_1_0, xs_m_2_0, xs_m_2_1, xs_m_2_2, xs_m_3_0, xs_m_3_1, xs_m_3_2, xs_m_4_0, xs_m_5_0, k1, k2 => HL3_18  (fun (i_29 : Int) => RL3_18  n i_29 xs_m_0_0 xs_m_0_1 xs_m_0_2 xs_m_1_0 xs_m_2_0 xs_m_2_1 xs_m_2_2 xs_m_3_0 xs_m_3_1 xs_m_3_2 xs_m_4_0 xs_m_5_0 k1 k2) i_29 xs_m_0_0 xs_m_0_1 xs_m_0_2 xs_m_1_0 xs_m_2_0 xs_m_2_1 xs_m_2_2 xs_m_3_0 xs_m_3_1 xs_m_3_2 xs_m_4_0 xs_m_5_0 k1 k2
noncomputable def XL3_18 : Code := sub [true, true, true, true, true, true, true, true, true, true, true, true, true, true, true, false, true, false, false] (bodyOf Tryz.prog 3)
theorem HL3_18_ok  (n : Nat) (i_29 : Int) (xs_m_0_0 : List Int) (xs_m_0_1 : List Int) (xs_m_0_2 : List Int) (xs_m_1_0 : List Int) (xs_m_2_0 : List Int) (xs_m_2_1 : List Int) (xs_m_2_2 : List Int) (xs_m_3_0 : List Int) (xs_m_3_1 : List Int) (xs_m_3_2 : List Int) (xs_m_4_0 : List Int) (xs_m_5_0 : List Int) (K : Ex → Env → Mem → Prop) : cround 2 [0, 9, 10, 25, 27, 29] [0, 8, 9, 10] (fun ρ m K => cexec Tryz.prog CE (fun _ => none) 2 1000 XL3_18 ρ m K) (n + 1) (selE 179 [(0, (.sl 0 (0 : Nat) (none : Option Nat) (none : Option Nat))), (9, (.sl 2 (0 : Nat) (none : Option Nat) (none : Option Nat))), (10, (.sl 3 (0 : Nat) (none : Option Nat) (none : Option Nat))), (25, (.sl 4 (0 : Nat) (none : Option Nat) (none : Option Nat))), (27, (.sl 5 (0 : Nat) (none : Option Nat) (none : Option Nat))), (29, (.I .i64 i_29))]) [⟨[.ints .i64 xs_m_0_0, .ints .i64 xs_m_0_1, .ints .i64 xs_m_0_2], 53, true, false⟩, ⟨[.ints .u8 xs_m_1_0], 5, true, false⟩, ⟨[.ints .i64 xs_m_2_0, .ints .i64 xs_m_2_1, .ints .i64 xs_m_2_2], 47, false, true⟩, ⟨[.ints .i64 xs_m_3_0, .ints .i64 xs_m_3_1, .ints .i64 xs_m_3_2], 47, false, true⟩, ⟨[.ints .i64 xs_m_4_0], 3, false, true⟩, ⟨[.ints .i64 xs_m_5_0], 3, false, true⟩] K =
    HL3_18  (fun (i_29 : Int) => cround 2 [0, 9, 10, 25, 27, 29] [0, 8, 9, 10] (fun ρ m K => cexec Tryz.prog CE (fun _ => none) 2 1000 XL3_18 ρ m K) n (selE 179 [(0, (.sl 0 (0 : Nat) (none : Option Nat) (none : Option Nat))), (9, (.sl 2 (0 : Nat) (none : Option Nat) (none : Option Nat))), (10, (.sl 3 (0 : Nat) (none : Option Nat) (none : Option Nat))), (25, (.sl 4 (0 : Nat) (none : Option Nat) (none : Option Nat))), (27, (.sl 5 (0 : Nat) (none : Option Nat) (none : Option Nat))), (29, (.I .i64 i_29))]) [⟨[.ints .i64 xs_m_0_0, .ints .i64 xs_m_0_1, .ints .i64 xs_m_0_2], 53, true, false⟩, ⟨[.ints .u8 xs_m_1_0], 5, true, false⟩, ⟨[.ints .i64 xs_m_2_0, .ints .i64 xs_m_2_1, .ints .i64 xs_m_2_2], 47, false, true⟩, ⟨[.ints .i64 xs_m_3_0, .ints .i64 xs_m_3_1, .ints .i64 xs_m_3_2], 47, false, true⟩, ⟨[.ints .i64 xs_m_4_0], 3, false, true⟩, ⟨[.ints .i64 xs_m_5_0], 3, false, true⟩] K) i_29 xs_m_0_0 xs_m_0_1 xs_m_0_2 xs_m_1_0 xs_m_2_0 xs_m_2_1 xs_m_2_2 xs_m_3_0 xs_m_3_1 xs_m_3_2 xs_m_4_0 xs_m_5_0 (K .ret (selE 179 [(0, (.sl 0 (0 : Nat) (none : Option Nat) (none : Option Nat))), (8, (.B false)), (9, (.sl 2 (0 : Nat) (none : Option Nat) (none : Option Nat))), (10, (.sl 3 (0 : Nat) (none : Option Nat) (none : Option Nat)))]) [⟨[.ints .i64 xs_m_0_0, .ints .i64 xs_m_0_1, .ints .i64 xs_m_0_2], 53, true, false⟩, ⟨[.ints .u8 xs_m_1_0], 5, true, false⟩, ⟨[.ints .i64 xs_m_2_0, .ints .i64 xs_m_2_1, .ints .i64 xs_m_2_2], 47, false, true⟩, ⟨[.ints .i64 xs_m_3_0, .ints .i64 xs_m_3_1, .ints .i64 xs_m_3_2], 47, false, true⟩]) (K (.exit 0) (selE 179 [(0, (.sl 0 (0 : Nat) (none : Option Nat) (none : Option Nat))), (8, .undef), (9, (.sl 2 (0 : Nat) (none : Option Nat) (none : Option Nat))), (10, (.sl 3 (0 : Nat) (none : Option Nat) (none : Option Nat)))]) [⟨[.ints .i64 xs_m_0_0, .ints .i64 xs_m_0_1, .ints .i64 xs_m_0_2], 53, true, false⟩, ⟨[.ints .u8 xs_m_1_0], 5, true, false⟩, ⟨[.ints .i64 xs_m_2_0, .ints .i64 xs_m_2_1, .ints .i64 xs_m_2_2], 47, false, true⟩, ⟨[.ints .i64 xs_m_3_0, .ints .i64 xs_m_3_1, .ints .i64 xs_m_3_2], 47, false, true⟩]) := by kernel_rfl
theorem RL3_18_ok  (K : Ex → Env → Mem → Prop) : ∀ (n : Nat) (i_29 : Int) (xs_m_0_0 : List Int) (xs_m_0_1 : List Int) (xs_m_0_2 : List Int) (xs_m_1_0 : List Int) (xs_m_2_0 : List Int) (xs_m_2_1 : List Int) (xs_m_2_2 : List Int) (xs_m_3_0 : List Int) (xs_m_3_1 : List Int) (xs_m_3_2 : List Int) (xs_m_4_0 : List Int) (xs_m_5_0 : List Int), cround 2 [0, 9, 10, 25, 27, 29] [0, 8, 9, 10] (fun ρ m K => cexec Tryz.prog CE (fun _ => none) 2 1000 XL3_18 ρ m K) n (selE 179 [(0, (.sl 0 (0 : Nat) (none : Option Nat) (none : Option Nat))), (9, (.sl 2 (0 : Nat) (none : Option Nat) (none : Option Nat))), (10, (.sl 3 (0 : Nat) (none : Option Nat) (none : Option Nat))), (25, (.sl 4 (0 : Nat) (none : Option Nat) (none : Option Nat))), (27, (.sl 5 (0 : Nat) (none : Option Nat) (none : Option Nat))), (29, (.I .i64 i_29))]) [⟨[.ints .i64 xs_m_0_0, .ints .i64 xs_m_0_1, .ints .i64 xs_m_0_2], 53, true, false⟩, ⟨[.ints .u8 xs_m_1_0], 5, true, false⟩, ⟨[.ints .i64 xs_m_2_0, .ints .i64 xs_m_2_1, .ints .i64 xs_m_2_2], 47, false, true⟩, ⟨[.ints .i64 xs_m_3_0, .ints .i64 xs_m_3_1, .ints .i64 xs_m_3_2], 47, false, true⟩, ⟨[.ints .i64 xs_m_4_0], 3, false, true⟩, ⟨[.ints .i64 xs_m_5_0], 3, false, true⟩] K = RL3_18  n i_29 xs_m_0_0 xs_m_0_1 xs_m_0_2 xs_m_1_0 xs_m_2_0 xs_m_2_1 xs_m_2_2 xs_m_3_0 xs_m_3_1 xs_m_3_2 xs_m_4_0 xs_m_5_0 (K .ret (selE 179 [(0, (.sl 0 (0 : Nat) (none : Option Nat) (none : Option Nat))), (8, (.B false)), (9, (.sl 2 (0 : Nat) (none : Option Nat) (none : Option Nat))), (10, (.sl 3 (0 : Nat) (none : Option Nat) (none : Option Nat)))]) [⟨[.ints .i64 xs_m_0_0, .ints .i64 xs_m_0_1, .ints .i64 xs_m_0_2], 53, true, false⟩, ⟨[.ints .u8 xs_m_1_0], 5, true, false⟩, ⟨[.ints .i64 xs_m_2_0, .ints .i64 xs_m_2_1, .ints .i64 xs_m_2_2], 47, false, true⟩, ⟨[.ints .i64 xs_m_3_0, .ints .i64 xs_m_3_1, .ints .i64 xs_m_3_2], 47, false, true⟩]) (K (.exit 0) (selE 179 [(0, (.sl 0 (0 : Nat) (none : Option Nat) (none : Option Nat))), (8, .undef), (9, (.sl 2 (0 : Nat) (none : Option Nat) (none : Option Nat))), (10, (.sl 3 (0 : Nat) (none : Option Nat) (none : Option Nat)))]) [⟨[.ints .i64 xs_m_0_0, .ints .i64 xs_m_0_1, .ints .i64 xs_m_0_2], 53, true, false⟩, ⟨[.ints .u8 xs_m_1_0], 5, true, false⟩, ⟨[.ints .i64 xs_m_2_0, .ints .i64 xs_m_2_1, .ints .i64 xs_m_2_2], 47, false, true⟩, ⟨[.ints .i64 xs_m_3_0, .ints .i64 xs_m_3_1, .ints .i64 xs_m_3_2], 47, false, true⟩])
  | 0, i_29, xs_m_0_0, xs_m_0_1, xs_m_0_2, xs_m_1_0, xs_m_2_0, xs_m_2_1, xs_m_2_2, xs_m_3_0, xs_m_3_1, xs_m_3_2, xs_m_4_0, xs_m_5_0 => rfl
  | n + 1, i_29, xs_m_0_0, xs_m_0_1, xs_m_0_2, xs_m_1_0, xs_m_2_0, xs_m_2_1, xs_m_2_2, xs_m_3_0, xs_m_3_1, xs_m_3_2, xs_m_4_0, xs_m_5_0 => by
    have ih := RL3_18_ok  K n
    rw [HL3_18_ok  n i_29 xs_m_0_0 xs_m_0_1 xs_m_0_2 xs_m_1_0 xs_m_2_0 xs_m_2_1 xs_m_2_2 xs_m_3_0 xs_m_3_1 xs_m_3_2 xs_m_4_0 xs_m_5_0 K]
    show HL3_18  _ i_29 xs_m_0_0 xs_m_0_1 xs_m_0_2 xs_m_1_0 xs_m_2_0 xs_m_2_1 xs_m_2_2 xs_m_3_0 xs_m_3_1 xs_m_3_2 xs_m_4_0 xs_m_5_0 (K .ret (selE 179 [(0, (.sl 0 (0 : Nat) (none : Option Nat) (none : Option Nat))), (8, (.B false)), (9, (.sl 2 (0 : Nat) (none : Option Nat) (none : Option Nat))), (10, (.sl 3 (0 : Nat) (none : Option Nat) (none : Option Nat)))]) [⟨[.ints .i64 xs_m_0_0, .ints .i64 xs_m_0_1, .ints .i64 xs_m_0_2], 53, true, false⟩, ⟨[.ints .u8 xs_m_1_0], 5, true, false⟩, ⟨[.ints .i64 xs_m_2_0, .ints .i64 xs_m_2_1, .ints .i64 xs_m_2_2], 47, false, true⟩, ⟨[.ints .i64 xs_m_3_0, .ints .i64 xs_m_3_1, .ints .i64 xs_m_3_2], 47, false, true⟩]) (K (.exit 0) (selE 179 [(0, (.sl 0 (0 : Nat) (none : Option Nat) (none : Option Nat))), (8, .undef), (9, (.sl 2 (0 : Nat) (none : Option Nat) (none : Option Nat))), (10, (.sl 3 (0 : Nat) (none : Option Nat) (none : Option Nat)))]) [⟨[.ints .i64 xs_m_0_0, .ints .i64 xs_m_0_1, .ints .i64 xs_m_0_2], 53, true, false⟩, ⟨[.ints .u8 xs_m_1_0], 5, true, false⟩, ⟨[.ints .i64 xs_m_2_0, .ints .i64 xs_m_2_1, .ints .i64 xs_m_2_2], 47, false, true⟩, ⟨[.ints .i64 xs_m_3_0, .ints .i64 xs_m_3_1, .ints .i64 xs_m_3_2], 47, false, true⟩]) = HL3_18  _ i_29 xs_m_0_0 xs_m_0_1 xs_m_0_2 xs_m_1_0 xs_m_2_0 xs_m_2_1 xs_m_2_2 xs_m_3_0 xs_m_3_1 xs_m_3_2 xs_m_4_0 xs_m_5_0 (K .ret (selE 179 [(0, (.sl 0 (0 : Nat) (none : Option Nat) (none : Option Nat))), (8, (.B false)), (9, (.sl 2 (0 : Nat) (none : Option Nat) (none : Option Nat))), (10, (.sl 3 (0 : Nat) (none : Option Nat) (none : Option Nat)))]) [⟨[.ints .i64 xs_m_0_0, .ints .i64 xs_m_0_1, .ints .i64 xs_m_0_2], 53, true, false⟩, ⟨[.ints .u8 xs_m_1_0], 5, true, false⟩, ⟨[.ints .i64 xs_m_2_0, .ints .i64 xs_m_2_1, .ints .i64 xs_m_2_2], 47, false, true⟩, ⟨[.ints .i64 xs_m_3_0, .ints .i64 xs_m_3_1, .ints .i64 xs_m_3_2], 47, false, true⟩]) (K (.exit 0) (selE 179 [(0, (.sl 0 (0 : Nat) (none : Option Nat) (none : Option Nat))), (8, .undef), (9, (.sl 2 (0 : Nat) (none : Option Nat) (none : Option Nat))), (10, (.sl 3 (0 : Nat) (none : Option Nat) (none : Option Nat)))]) [⟨[.ints .i64 xs_m_0_0, .ints .i64 xs_m_0_1, .ints .i64 xs_m_0_2], 53, true, false⟩, ⟨[.ints .u8 xs_m_1_0], 5, true, false⟩, ⟨[.ints .i64 xs_m_2_0, .ints .i64 xs_m_2_1, .ints .i64 xs_m_2_2], 47, false, true⟩, ⟨[.ints .i64 xs_m_3_0, .ints .i64 xs_m_3_1, .ints .i64 xs_m_3_2], 47, false, true⟩])
    refine congrArg (fun r => HL3_18  r i_29 xs_m_0_0 xs_m_0_1 xs_m_0_2 xs_m_1_0 xs_m_2_0 xs_m_2_1 xs_m_2_2 xs_m_3_0 xs_m_3_1 xs_m_3_2 xs_m_4_0 xs_m_5_0 (K .ret (selE 179 [(0, (.sl 0 (0 : Nat) (none : Option Nat) (none : Option Nat))), (8, (.B false)), (9, (.sl 2 (0 : Nat) (none : Option Nat) (none : Option Nat))), (10, (.sl 3 (0 : Nat) (none : Option Nat) (none : Option Nat)))]) [⟨[.ints .i64 xs_m_0_0, .ints .i64 xs_m_0_1, .ints .i64 xs_m_0_2], 53, true, false⟩, ⟨[.ints .u8 xs_m_1_0], 5, true, false⟩, ⟨[.ints .i64 xs_m_2_0, .ints .i64 xs_m_2_1, .ints .i64 xs_m_2_2], 47, false, true⟩, ⟨[.ints .i64 xs_m_3_0, .ints .i64 xs_m_3_1, .ints .i64 xs_m_3_2], 47, false, true⟩]) (K (.exit 0) (selE 179 [(0, (.sl 0 (0 : Nat) (none : Option Nat) (none : Option Nat))), (8, .undef), (9, (.sl 2 (0 : Nat) (none : Option Nat) (none : Option Nat))), (10, (.sl 3 (0 : Nat) (none : Option Nat) (none : Option Nat)))]) [⟨[.ints .i64 xs_m_0_0, .ints .i64 xs_m_0_1, .ints .i64 xs_m_0_2], 53, true, false⟩, ⟨[.ints .u8 xs_m_1_0], 5, true, false⟩, ⟨[.ints .i64 xs_m_2_0, .ints .i64 xs_m_2_1, .ints .i64 xs_m_2_2], 47, false, true⟩, ⟨[.ints .i64 xs_m_3_0, .ints .i64 xs_m_3_1, .ints .i64 xs_m_3_2], 47, false, true⟩])) ?_
    funext i_29
    exact ih i_29 xs_m_0_0 xs_m_0_1 xs_m_0_2 xs_m_1_0 xs_m_2_0 xs_m_2_1 xs_m_2_2 xs_m_3_0 xs_m_3_1 xs_m_3_2 xs_m_4_0 xs_m_5_0
def GL3_18 : YL3_18 := fun x i_29 xs_m_0_0 xs_m_0_1 xs_m_0_2 xs_m_1_0 xs_m_2_0 xs_m_2_1 xs_m_2_2 xs_m_3_0 xs_m_3_1 xs_m_3_2 xs_m_4_0 xs_m_5_0 k1 k2 => x = XL3_18 ∧ ∃ n, RL3_18  n i_29 xs_m_0_0 xs_m_0_1 xs_m_0_2 xs_m_1_0 xs_m_2_0 xs_m_2_1 xs_m_2_2 xs_m_3_0 xs_m_3_1 xs_m_3_2 xs_m_4_0 xs_m_5_0 k1 k2
def VL3_18 (l : YL3_18) (F : Prop) (x : Code) (ρ : Env) (m : Mem) (K : Ex → Env → Mem → Prop) : Prop :=
  match ρ.has (179 - 1) with
  | true => (seeV (.sl 0 (0 : Nat) (none : Option Nat) (none : Option Nat)) (ρ.get 0) F (seeV (.sl 2 (0 : Nat) (none : Option Nat) (none : Option Nat)) (ρ.get 9) F (seeV (.sl 3 (0 : Nat) (none : Option Nat) (none : Option Nat)) (ρ.get 10) F (seeV (.sl 4 (0 : Nat) (none : Option Nat) (none : Option Nat)) (ρ.get 25) F (seeV (.sl 5 (0 : Nat) (none : Option Nat) (none : Option Nat)) (ρ.get 27) F (seeI .i64 (ρ.get 29) F fun i_29 => (seeCons m F fun a7 q8 => (seeBlk 53 true false a7 F fun cs9 => (seeCons cs9 F fun a10 q11 => (seeInts .i64 a10 F fun xs_m_0_0 => (seeCons q11 F fun a12 q13 => (seeInts .i64 a12 F fun xs_m_0_1 => (seeCons q13 F fun a14 q15 => (seeInts .i64 a14 F fun xs_m_0_2 => (seeNil q15 F (seeCons q8 F fun a16 q17 => (seeBlk 5 true false a16 F fun cs18 => (seeCons cs18 F fun a19 q20 => (seeInts .u8 a19 F fun xs_m_1_0 => (seeNil q20 F (seeCons q17 F fun a21 q22 => (seeBlk 47 false true a21 F fun cs23 => (seeCons cs23 F fun a24 q25 => (seeInts .i64 a24 F fun xs_m_2_0 => (seeCons q25 F fun a26 q27 => (seeInts .i64 a26 F fun xs_m_2_1 => (seeCons q27 F fun a28 q29 => (seeInts .i64 a28 F fun xs_m_2_2 => (seeNil q29 F (seeCons q22 F fun a30 q31 => (seeBlk 47 false true a30 F fun cs32 => (seeCons cs32 F fun a33 q34 => (seeInts .i64 a33 F fun xs_m_3_0 => (seeCons q34 F fun a35 q36 => (seeInts .i64 a35 F fun xs_m_3_1 => (seeCons q36 F fun a37 q38 => (seeInts .i64 a37 F fun xs_m_3_2 => (seeNil q38 F (seeCons q31 F fun a39 q40 => (seeBlk 3 false true a39 F fun cs41 => (seeCons cs41 F fun a42 q43 => (seeInts .i64 a42 F fun xs_m_4_0 => (seeNil q43 F (seeCons q40 F fun a44 q45 => (seeBlk 3 false true a44 F fun cs46 => (seeCons cs46 F fun a47 q48 => (seeInts .i64 a47 F fun xs_m_5_0 => (seeNil q48 F (seeNil q45 F (l x i_29 xs_m_0_0 xs_m_0_1 xs_m_0_2 xs_m_1_0 xs_m_2_0 xs_m_2_1 xs_m_2_2 xs_m_3_0 xs_m_3_1 xs_m_3_2 xs_m_4_0 xs_m_5_0 (K .ret (selE 179 [(0, (.sl 0 (0 : Nat) (none : Option Nat) (none : Option Nat))), (8, (.B false)), (9, (.sl 2 (0 : Nat) (none : Option Nat) (none : Option Nat))), (10, (.sl 3 (0 : Nat) (none : Option Nat) (none : Option Nat)))]) [⟨[.ints .i64 xs_m_0_0, .ints .i64 xs_m_0_1, .ints .i64 xs_m_0_2], 53, true, false⟩, ⟨[.ints .u8 xs_m_1_0], 5, true, false⟩, ⟨[.ints .i64 xs_m_2_0, .ints .i64 xs_m_2_1, .ints .i64 xs_m_2_2], 47, false, true⟩, ⟨[.ints .i64 xs_m_3_0, .ints .i64 xs_m_3_1, .ints .i64 xs_m_3_2], 47, false, true⟩]) (K (.exit 0) (selE 179 [(0, (.sl 0 (0 : Nat) (none : Option Nat) (none : Option Nat))), (8, .undef), (9, (.sl 2 (0 : Nat) (none : Option Nat) (none : Option Nat))), (10, (.sl 3 (0 : Nat) (none : Option Nat) (none : Option Nat)))]) [⟨[.ints .i64 xs_m_0_0, .ints .i64 xs_m_0_1, .ints .i64 xs_m_0_2], 53, true, false⟩, ⟨[.ints .u8 xs_m_1_0], 5, true, false⟩, ⟨[.ints .i64 xs_m_2_0, .ints .i64 xs_m_2_1, .ints .i64 xs_m_2_2], 47, false, true⟩, ⟨[.ints .i64 xs_m_3_0, .ints .i64 xs_m_3_1, .ints .i64 xs_m_3_2], 47, false, true⟩])))))))))))))))))))))))))))))))))))))))))))))))))))
  | false => False
def WL3_18 (l : YL3_18) (W : Masks) : Masks := fun r =>
  match Nat.beq r 18 with
  | true => some fun x ρ m K => VL3_18 l (match W r with | some lf => lf x ρ m K | none => False) x (tidyE 2 [0, 9, 10, 25, 27, 29] ρ m) (tidyM 2 [0, 9, 10, 25, 27, 29] ρ m) K
  | false => W r
set_option maxRecDepth 100000 in
theorem WL3_18_ok {W : Masks} (hW : LoopsOk Tryz.prog 2 W) : LoopsOk Tryz.prog 2 (WL3_18 GL3_18 W) := by
  intro r lf h
  unfold WL3_18 at h
  split at h
  · cases h
    intro x E0 m0 w0 J hS0 ha hJ ρ m K E a w Q hS hρ hd h hQ
    have fb : (match W r with | some lf => lf x ρ m K | none => False) → (Code.loop x).wp Tryz.prog Q a w := fun h => by
      split at h
      · rename_i lf hlf
        exact hW r lf hlf x hS0 ha hJ ρ m K E a w Q hS hρ hd h hQ
      · cases h
    obtain ⟨E2, hS2, hρ2⟩ := tidy_rel hS0 hS hρ [0, 9, 10, 25, 27, 29]
    rw [ha] at hS2 hρ2
    unfold VL3_18 at h
    split at h
    · rename_i hlen
      replace h := seeV_use h
      rcases h with h | ⟨e1, h⟩
      · exact fb h
      replace h := seeV_use h
      rcases h with h | ⟨e2, h⟩
      · exact fb h
      replace h := seeV_use h
      rcases h with h | ⟨e3, h⟩
      · exact fb h
      replace h := seeV_use h
      rcases h with h | ⟨e4, h⟩
      · exact fb h
      replace h := seeV_use h
      rcases h with h | ⟨e5, h⟩
      · exact fb h
      replace h := seeI_use h
      rcases h with h | ⟨i_29, e6, h⟩
      · exact fb h
      replace h := seeCons_use h
      rcases h with h | ⟨a7, q8, eqm, h⟩
      · exact fb h
      replace h := seeBlk_use h
      rcases h with h | ⟨cs9, rfl, h⟩
      · exact fb h
      replace h := seeCons_use h
      rcases h with h | ⟨a10, q11, rfl, h⟩
      · exact fb h
      replace h := seeInts_use h
      rcases h with h | ⟨xs_m_0_0, rfl, h⟩
      · exact fb h
      replace h := seeCons_use h
      rcases h with h | ⟨a12, q13, rfl, h⟩
      · exact fb h
      replace h := seeInts_use h
      rcases h with h | ⟨xs_m_0_1, rfl, h⟩
      · exact fb h
      replace h := seeCons_use h
      rcases h with h | ⟨a14, q15, rfl, h⟩
      · exact fb h
      replace h := seeInts_use h
      rcases h with h | ⟨xs_m_0_2, rfl, h⟩
      · exact fb h
      replace h := seeNil_use h
      rcases h with h | ⟨rfl, h⟩
      · exact fb h
      replace h := seeCons_use h
      rcases h with h | ⟨a16, q17, rfl, h⟩
      · exact fb h
      replace h := seeBlk_use h
      rcases h with h | ⟨cs18, rfl, h⟩
      · exact fb h
      replace h := seeCons_use h
      rcases h with h | ⟨a19, q20, rfl, h⟩
      · exact fb h
      replace h := seeInts_use h
      rcases h with h | ⟨xs_m_1_0, rfl, h⟩
      · exact fb h
      replace h := seeNil_use h
      rcases h with h | ⟨rfl, h⟩
      · exact fb h
      replace h := seeCons_use h
      rcases h with h | ⟨a21, q22, rfl, h⟩
      · exact fb h
      replace h := seeBlk_use h
      rcases h with h | ⟨cs23, rfl, h⟩
      · exact fb h
      replace h := seeCons_use h
      rcases h with h | ⟨a24, q25, rfl, h⟩
      · exact fb h
      replace h := seeInts_use h
      rcases h with h | ⟨xs_m_2_0, rfl, h⟩
      · exact fb h
      replace h := seeCons_use h
      rcases h with h | ⟨a26, q27, rfl, h⟩
      · exact fb h
      replace h := seeInts_use h
      rcases h with h | ⟨xs_m_2_1, rfl, h⟩
      · exact fb h
      replace h := seeCons_use h
      rcases h with h | ⟨a28, q29, rfl, h⟩
      · exact fb h
      replace h := seeInts_use h
      rcases h with h | ⟨xs_m_2_2, rfl, h⟩
      · exact fb h
      replace h := seeNil_use h
      rcases h with h | ⟨rfl, h⟩
      · exact fb h
      replace h := seeCons_use h
      rcases h with h | ⟨a30, q31, rfl, h⟩
      · exact fb h
      replace h := seeBlk_use h
      rcases h with h | ⟨cs32, rfl, h⟩
      · exact fb h
      replace h := seeCons_use h
      rcases h with h | ⟨a33, q34, rfl, h⟩
      · exact fb h
      replace h := seeInts_use h
      rcases h with h | ⟨xs_m_3_0, rfl, h⟩
      · exact fb h
      replace h := seeCons_use h
      rcases h with h | ⟨a35, q36, rfl, h⟩
      · exact fb h
      replace h := seeInts_use h
      rcases h with h | ⟨xs_m_3_1, rfl, h⟩
      · exact fb h
      replace h := seeCons_use h
      rcases h with h | ⟨a37, q38, rfl, h⟩
      · exact fb h
      replace h := seeInts_use h
      rcases h with h | ⟨xs_m_3_2, rfl, h⟩
      · exact fb h
      replace h := seeNil_use h
      rcases h with h | ⟨rfl, h⟩
      · exact fb h
      replace h := seeCons_use h
      rcases h with h | ⟨a39, q40, rfl, h⟩
      · exact fb h
      replace h := seeBlk_use h
      rcases h with h | ⟨cs41, rfl, h⟩
      · exact fb h
      replace h := seeCons_use h
      rcases h with h | ⟨a42, q43, rfl, h⟩
      · exact fb h
      replace h := seeInts_use h
      rcases h with h | ⟨xs_m_4_0, rfl, h⟩
      · exact fb h
      replace h := seeNil_use h
      rcases h with h | ⟨rfl, h⟩
      · exact fb h
      replace h := seeCons_use h
      rcases h with h | ⟨a44, q45, rfl, h⟩
      · exact fb h
      replace h := seeBlk_use h
      rcases h with h | ⟨cs46, rfl, h⟩
      · exact fb h
      replace h := seeCons_use h
      rcases h with h | ⟨a47, q48, rfl, h⟩
      · exact fb h
      replace h := seeInts_use h
      rcases h with h | ⟨xs_m_5_0, rfl, h⟩
      · exact fb h
      replace h := seeNil_use h
      rcases h with h | ⟨rfl, h⟩
      · exact fb h
      replace h := seeNil_use h
      rcases h with h | ⟨rfl, h⟩
      · exact fb h
      obtain ⟨rfl, n, h⟩ := h
      exact loop_use named CE_ok (LoopsOk.none _ _) (RL3_18_ok  K n _ _ _ _ _ _ _ _ _ _ _ _ _) h hS0 ha hJ hlen ⟨e1, e2, e3, e4, e5, e6, trivial⟩ (eqm ▸ hS2) hρ2 hd hQ
    · cases h
  · exact hW r lf h
abbrev YL3_23 : Type := Code → Int → List Int → List Int → List Int → List Int → List Int → List Int → List Int → List Int → List Int → List Int → (Prop) → Prop
set_option maxHeartbeats 4000000 in
set_option maxRecDepth 100000 in
def HL3_23  (rec : Int → List Int → Prop) (i_30 : Int) (xs_m_0_0 : List Int) (xs_m_0_1 : List Int) (xs_m_0_2 : List Int) (xs_m_1_0 : List Int) (xs_m_2_0 : List Int) (xs_m_2_1 : List Int) (xs_m_2_2 : List Int) (xs_m_3_0 : List Int) (xs_m_3_1 : List Int) (xs_m_3_2 : List Int) (k1 : Prop) : Prop :=
  (bif (decide (i_30 < ((((List.length xs_m_3_0) - (0 : Nat)) : Nat) : Int))) then (bif ((decide ((0 : Int) ≤ i_30)) && (decide (i_30 < ((((List.length xs_m_3_0) - (0 : Nat)) : Nat) : Int)))) then (rec (IntKind.wrap .i64 (i_30 + (1 : Int))) (List.set xs_m_3_0 (Int.toNat i_30) (-7 : Int))) else False) else (k1))
def RL3_23  : Nat → Int → List Int → List Int → List Int → List Int → List Int → List Int → List Int → List Int → List Int → List Int → (Prop) → Prop
  | 0, _, _, _, _, _, _, _, _, _, _, _, _ => False
  | n + 1, i_30, xs_m_0_0, xs_m_0_1, xs_m_0_2, xs_m_1_0, xs_m_2_0, xs_m_2_1, xs_m_2_2, xs_m_3_0, xs_m_3_1, xs_m_3_2, k1 => HL3_23  (fun (i_30 : Int) (xs_m_3_0 : List Int) => RL3_23  n i_30 xs_m_0_0 xs_m_0_1 xs_m_0_2 xs_m_1_0 xs_m_2_0 xs_m_2_1 xs_m_2_2 xs_m_3_0 xs_m_3_1 xs_m_3_2 k1) i_30 xs_m_0_0 xs_m_0_1 xs_m_0_2 xs_m_1_0 xs_m_2_0 xs_m_2_1 xs_m_2_2 xs_m_3_0 xs_m_3_1 xs_m_3_2 k1
noncomputable def XL3_23 : Code := sub [true, true, true, true, true, true, true, true, true, true, true, true, true, true, true, true, false, true, false, false] (bodyOf Tryz.prog 3)
theorem HL3_23_ok  (n : Nat) (i_30 : Int) (xs_m_0_0 : List Int) (xs_m_0_1 : List Int) (xs_m_0_2 : List Int) (xs_m_1_0 : List Int) (xs_m_2_0 : List Int) (xs_m_2_1 : List Int) (xs_m_2_2 : List Int) (xs_m_3_0 : List Int) (xs_m_3_1 : List Int) (xs_m_3_2 : List Int) (K : Ex → Env → Mem → Prop) : cround 2 [0, 9, 10, 30] [0, 9] (fun ρ m K => cexec Tryz.prog CE (fun _ => none) 2 1000 XL3_23 ρ m K) (n + 1) (selE 179 [(0, (.sl 0 (0 : Nat) (none : Option Nat) (none : Option Nat))), (9, (.sl 2 (0 : Nat) (none : Option Nat) (none : Option Nat))), (10, (.sl 3 (0 : Nat) (none : Option Nat) (none : Option Nat))), (30, (.I .i64 i_30))]) [⟨[.ints .i64 xs_m_0_0, .ints .i64 xs_m_0_1, .ints .i64 xs_m_0_2], 53, true, false⟩, ⟨[.ints .u8 xs_m_1_0], 5, true, false⟩, ⟨[.ints .i64 xs_m_2_0, .ints .i64 xs_m_2_1, .ints .i64 xs_m_2_2], 47, false, true⟩, ⟨[.ints .i64 xs_m_3_0, .ints .i64 xs_m_3_1, .ints .i64 xs_m_3_2], 47, false, true⟩] K =
    HL3_23  (fun (i_30 : Int) (xs_m_3_0 : List Int) => cround 2 [0, 9, 10, 30] [0, 9] (fun ρ m K => cexec Tryz.prog CE (fun _ => none) 2 1000 XL3_23 ρ m K) n (selE 179 [(0, (.sl 0 (0 : Nat) (none : Option Nat) (none : Option Nat))), (9, (.sl 2 (0 : Nat) (none : Option Nat) (none : Option Nat))), (10, (.sl 3 (0 : Nat) (none : Option Nat) (none : Option Nat))), (30, (.I .i64 i_30))]) [⟨[.ints .i64 xs_m_0_0, .ints .i64 xs_m_0_1, .ints .i64 xs_m_0_2], 53, true, false⟩, ⟨[.ints .u8 xs_m_1_0], 5, true, false⟩, ⟨[.ints .i64 xs_m_2_0, .ints .i64 xs_m_2_1, .ints .i64 xs_m_2_2], 47, false, true⟩, ⟨[.ints .i64 xs_m_3_0, .ints .i64 xs_m_3_1, .ints .i64 xs_m_3_2], 47, false, true⟩] K) i_30 xs_m_0_0 xs_m_0_1 xs_m_0_2 xs_m_1_0 xs_m_2_0 xs_m_2_1 xs_m_2_2 xs_m_3_0 xs_m_3_1 xs_m_3_2 (K (.exit 2) (selE 179 [(0, (.sl 0 (0 : Nat) (none : Option Nat) (none : Option Nat))), (9, (.sl 2 (0 : Nat) (none : Option Nat) (none : Option Nat)))]) [⟨[.ints .i64 xs_m_0_0, .ints .i64 xs_m_0_1, .ints .i64 xs_m_0_2], 53, true, false⟩, ⟨[.ints .u8 xs_m_1_0], 5, true, false⟩, ⟨[.ints .i64 xs_m_2_0, .ints .i64 xs_m_2_1, .ints .i64 xs_m_2_2], 47, false, true⟩]) := by kernel_rfl
theorem RL3_23_ok  (K : Ex → Env → Mem → Prop) : ∀ (n : Nat) (i_30 : Int) (xs_m_0_0 : List Int) (xs_m_0_1 : List Int) (xs_m_0_2 : List Int) (xs_m_1_0 : List Int) (xs_m_2_0 : List Int) (xs_m_2_1 : List Int) (xs_m_2_2 : List Int) (xs_m_3_0 : List Int) (xs_m_3_1 : List Int) (xs_m_3_2 : List Int), cround 2 [0, 9, 10, 30] [0, 9] (fun ρ m K => cexec Tryz.prog CE (fun _ => none) 2 1000 XL3_23 ρ m K) n (selE 179 [(0, (.sl 0 (0 : Nat) (none : Option Nat) (none : Option Nat))), (9, (.sl 2 (0 : Nat) (none : Option Nat) (none : Option Nat))), (10, (.sl 3 (0 : Nat) (none : Option Nat) (none : Option Nat))), (30, (.I .i64 i_30))]) [⟨[.ints .i64 xs_m_0_0, .ints .i64 xs_m_0_1, .ints .i64 xs_m_0_2], 53, true, false⟩, ⟨[.ints .u8 xs_m_1_0], 5, true, false⟩, ⟨[.ints .i64 xs_m_2_0, .ints .i64 xs_m_2_1, .ints .i64 xs_m_2_2], 47, false, true⟩, ⟨[.ints .i64 xs_m_3_0, .ints .i64 xs_m_3_1, .ints .i64 xs_m_3_2], 47, false, true⟩] K = RL3_23  n i_30 xs_m_0_0 xs_m_0_1 xs_m_0_2 xs_m_1_0 xs_m_2_0 xs_m_2_1 xs_m_2_2 xs_m_3_0 xs_m_3_1 xs_m_3_2 (K (.exit 2) (selE 179 [(0, (.sl 0 (0 : Nat) (none : Option Nat) (none : Option Nat))), (9, (.sl 2 (0 : Nat) (none : Option Nat) (none : Option Nat)))]) [⟨[.ints .i64 xs_m_0_0, .ints .i64 xs_m_0_1, .ints .i64 xs_m_0_2], 53, true, false⟩, ⟨[.ints .u8 xs_m_1_0], 5, true, false⟩, ⟨[.ints .i64 xs_m_2_0, .ints .i64 xs_m_2_1, .ints .i64 xs_m_2_2], 47, false, true⟩])
  | 0, i_30, xs_m_0_0, xs_m_0_1, xs_m_0_2, xs_m_1_0, xs_m_2_0, xs_m_2_1, xs_m_2_2, xs_m_3_0, xs_m_3_1, xs_m_3_2 => rfl
  | n + 1, i_30, xs_m_0_0, xs_m_0_1, xs_m_0_2, xs_m_1_0, xs_m_2_0, xs_m_2_1, xs_m_2_2, xs_m_3_0, xs_m_3_1, xs_m_3_2 => by
    have ih := RL3_23_ok  K n
    rw [HL3_23_ok  n i_30 xs_m_0_0 xs_m_0_1 xs_m_0_2 xs_m_1_0 xs_m_2_0 xs_m_2_1 xs_m_2_2 xs_m_3_0 xs_m_3_1 xs_m_3_2 K]
    show HL3_23  _ i_30 xs_m_0_0 xs_m_0_1 xs_m_0_2 xs_m_1_0 xs_m_2_0 xs_m_2_1 xs_m_2_2 xs_m_3_0 xs_m_3_1 xs_m_3_2 (K (.exit 2) (selE 179 [(0, (.sl 0 (0 : Nat) (none : Option Nat) (none : Option Nat))), (9, (.sl 2 (0 : Nat) (none : Option Nat) (none : Option Nat)))]) [⟨[.ints .i64 xs_m_0_0, .ints .i64 xs_m_0_1, .ints .i64 xs_m_0_2], 53, true, false⟩, ⟨[.ints .u8 xs_m_1_0], 5, true, false⟩, ⟨[.ints .i64 xs_m_2_0, .ints .i64 xs_m_2_1, .ints .i64 xs_m_2_2], 47, false, true⟩]) = HL3_23  _ i_30 xs_m_0_0 xs_m_0_1 xs_m_0_2 xs_m_1_0 xs_m_2_0 xs_m_2_1 xs_m_2_2 xs_m_3_0 xs_m_3_1 xs_m_3_2 (K (.exit 2) (selE 179 [(0, (.sl 0 (0 : Nat) (none : Option Nat) (none : Option Nat))), (9, (.sl 2 (0 : Nat) (none : Option Nat) (none : Option Nat)))]) [⟨[.ints .i64 xs_m_0_0, .ints .i64 xs_m_0_1, .ints .i64 xs_m_0_2], 53, true, false⟩, ⟨[.ints .u8 xs_m_1_0], 5, true, false⟩, ⟨[.ints .i64 xs_m_2_0, .ints .i64 xs_m_2_1, .ints .i64 xs_m_2_2], 47, false, true⟩])
    refine congrArg (fun r => HL3_23  r i_30 xs_m_0_0 xs_m_0_1 xs_m_0_2 xs_m_1_0 xs_m_2_0 xs_m_2_1 xs_m_2_2 xs_m_3_0 xs_m_3_1 xs_m_3_2 (K (.exit 2) (selE 179 [(0, (.sl 0 (0 : Nat) (none : Option Nat) (none : Option Nat))), (9, (.sl 2 (0 : Nat) (none : Option Nat) (none : Option Nat)))]) [⟨[.ints .i64 xs_m_0_0, .ints .i64 xs_m_0_1, .ints .i64 xs_m_0_2], 53, true, false⟩, ⟨[.ints .u8 xs_m_1_0], 5, true, false⟩, ⟨[.ints .i64 xs_m_2_0, .ints .i64 xs_m_2_1, .ints .i64 xs_m_2_2], 47, false, true⟩])) ?_
    funext i_30 xs_m_3_0
    exact ih i_30 xs_m_0_0 xs_m_0_1 xs_m_0_2 xs_m_1_0 xs_m_2_0 xs_m_2_1 xs_m_2_2 xs_m_3_0 xs_m_3_1 xs_m_3_2
def GL3_23 : YL3_23 := fun x i_30 xs_m_0_0 xs_m_0_1 xs_m_0_2 xs_m_1_0 xs_m_2_0 xs_m_2_1 xs_m_2_2 xs_m_3_0 xs_m_3_1 xs_m_3_2 k1 => x = XL3_23 ∧ ∃ n, RL3_23  n i_30 xs_m_0_0 xs_m_0_1 xs_m_0_2 xs_m_1_0 xs_m_2_0 xs_m_2_1 xs_m_2_2 xs_m_3_0 xs_m_3_1 xs_m_3_2 k1
def VL3_23 (l : YL3_23) (F : Prop) (x : Code) (ρ : Env) (m : Mem) (K : Ex → Env → Mem → Prop) : Prop :=
  match ρ.has (179 - 1) with
  | true => (seeV (.sl 0 (0 : Nat) (none : Option Nat) (none : Option Nat)) (ρ.get 0) F (seeV (.sl 2 (0 : Nat) (none : Option Nat) (none : Option Nat)) (ρ.get 9) F (seeV (.sl 3 (0 : Nat) (none : Option Nat) (none : Option Nat)) (ρ.get 10) F (seeI .i64 (ρ.get 30) F fun i_30 => (seeCons m F fun a5 q6 => (seeBlk 53 true false a5 F fun cs7 => (seeCons cs7 F fun a8 q9 => (seeInts .i64 a8 F fun xs_m_0_0 => (seeCons q9 F fun a10 q11 => (seeInts .i64 a10 F fun xs_m_0_1 => (seeCons q11 F fun a12 q13 => (seeInts .i64 a12 F fun xs_m_0_2 => (seeNil q13 F (seeCons q6 F fun a14 q15 => (seeBlk 5 true false a14 F fun cs16 => (seeCons cs16 F fun a17 q18 => (seeInts .u8 a17 F fun xs_m_1_0 => (seeNil q18 F (seeCons q15 F fun a19 q20 => (seeBlk 47 false true a19 F fun cs21 => (seeCons cs21 F fun a22 q23 => (seeInts .i64 a22 F fun xs_m_2_0 => (seeCons q23 F fun a24 q25 => (seeInts .i64 a24 F fun xs_m_2_1 => (seeCons q25 F fun a26 q27 => (seeInts .i64 a26 F fun xs_m_2_2 => (seeNil q27 F (seeCons q20 F fun a28 q29 => (seeBlk 47 false true a28 F fun cs30 => (seeCons cs30 F fun a31 q32 => (seeInts .i64 a31 F fun xs_m_3_0 => (seeCons q32 F fun a33 q34 => (seeInts .i64 a33 F fun xs_m_3_1 => (seeCons q34 F fun a35 q36 => (seeInts .i64 a35 F fun xs_m_3_2 => (seeNil q36 F (seeNil q29 F (l x i_30 xs_m_0_0 xs_m_0_1 xs_m_0_2 xs_m_1_0 xs_m_2_0 xs_m_2_1 xs_m_2_2 xs_m_3_0 xs_m_3_1 xs_m_3_2 (K (.exit 2) (selE 179 [(0, (.sl 0 (0 : Nat) (none : Option Nat) (none : Option Nat))), (9, (.sl 2 (0 : Nat) (none : Option Nat) (none : Option Nat)))]) [⟨[.ints .i64 xs_m_0_0, .ints .i64 xs_m_0_1, .ints .i64 xs_m_0_2], 53, true, false⟩, ⟨[.ints .u8 xs_m_1_0], 5, true, false⟩, ⟨[.ints .i64 xs_m_2_0, .ints .i64 xs_m_2_1, .ints .i64 xs_m_2_2], 47, false, true⟩])))))))))))))))))))))))))))))))))))))))
  | false => False
def WL3_23 (l : YL3_23) (W : Masks) : Masks := fun r =>
  match Nat.beq r 23 with
  | true => some fun x ρ m K => VL3_23 l (match W r with | some lf => lf x ρ m K | none => False) x (tidyE 2 [0, 9, 10, 30] ρ m) (tidyM 2 [0, 9, 10, 30] ρ m) K
  | false => W r
set_option maxRecDepth 100000 in
theorem WL3_23_ok {W : Masks} (hW : LoopsOk Tryz.prog 2 W) : LoopsOk Tryz.prog 2 (WL3_23 GL3_23 W) := by
  intro r lf h
  unfold WL3_23 at h
  split at h
  · cases h
    intro x E0 m0 w0 J hS0 ha hJ ρ m K E a w Q hS hρ hd h hQ
    have fb : (match W r with | some lf => lf x ρ m K | none => False) → (Code.loop x).wp Tryz.prog Q a w := fun h => by
      split at h
      · rename_i lf hlf
        exact hW r lf hlf x hS0 ha hJ ρ m K E a w Q hS hρ hd h hQ
      · cases h
    obtain ⟨E2, hS2, hρ2⟩ := tidy_rel hS0 hS hρ [0, 9, 10, 30]
    rw [ha] at hS2 hρ2
    unfold VL3_23 at h
    split at h
    · rename_i hlen
      replace h := seeV_use h
      rcases h with h | ⟨e1, h⟩
      · exact fb h
      replace h := seeV_use h
      rcases h with h | ⟨e2, h⟩
      · exact fb h
      replace h := seeV_use h
      rcases h with h | ⟨e3, h⟩
      · exact fb h
      replace h := seeI_use h
      rcases h with h | ⟨i_30, e4, h⟩
      · exact fb h
      replace h := seeCons_use h
      rcases h with h | ⟨a5, q6, eqm, h⟩
      · exact fb h
      replace h := seeBlk_use h
      rcases h with h | ⟨cs7, rfl, h⟩
      · exact fb h
      replace h := seeCons_use h
      rcases h with h | ⟨a8, q9, rfl, h⟩
      · exact fb h
      replace h := seeInts_use h
      rcases h with h | ⟨xs_m_0_0, rfl, h⟩
      · exact fb h
      replace h := seeCons_use h
      rcases h with h | ⟨a10, q11, rfl, h⟩
      · exact fb h
      replace h := seeInts_use h
      rcases h with h | ⟨xs_m_0_1, rfl, h⟩
      · exact fb h
      replace h := seeCons_use h
      rcases h with h | ⟨a12, q13, rfl, h⟩
      · exact fb h
      replace h := seeInts_use h
      rcases h with h | ⟨xs_m_0_2, rfl, h⟩
      · exact fb h
      replace h := seeNil_use h
      rcases h with h | ⟨rfl, h⟩
      · exact fb h
      replace h := seeCons_use h
      rcases h with h | ⟨a14, q15, rfl, h⟩
      · exact fb h
      replace h := seeBlk_use h
      rcases h with h | ⟨cs16, rfl, h⟩
      · exact fb h
      replace h := seeCons_use h
      rcases h with h | ⟨a17, q18, rfl, h⟩
      · exact fb h
      replace h := seeInts_use h
      rcases h with h | ⟨xs_m_1_0, rfl, h⟩
      · exact fb h
      replace h := seeNil_use h
      rcases h with h | ⟨rfl, h⟩
      · exact fb h
      replace h := seeCons_use h
      rcases h with h | ⟨a19, q20, rfl, h⟩
      · exact fb h
      replace h := seeBlk_use h
      rcases h with h | ⟨cs21, rfl, h⟩
      · exact fb h
      replace h := seeCons_use h
      rcases h with h | ⟨a22, q23, rfl, h⟩
      · exact fb h
      replace h := seeInts_use h
      rcases h with h | ⟨xs_m_2_0, rfl, h⟩
      · exact fb h
      replace h := seeCons_use h
      rcases h with h | ⟨a24, q25, rfl, h⟩
      · exact fb h
      replace h := seeInts_use h
      rcases h with h | ⟨xs_m_2_1, rfl, h⟩
      · exact fb h
      replace h := seeCons_use h
      rcases h with h | ⟨a26, q27, rfl, h⟩
      · exact fb h
      replace h := seeInts_use h
      rcases h with h | ⟨xs_m_2_2, rfl, h⟩
      · exact fb h
      replace h := seeNil_use h
      rcases h with h | ⟨rfl, h⟩
      · exact fb h
      replace h := seeCons_use h
      rcases h with h | ⟨a28, q29, rfl, h⟩
      · exact fb h
      replace h := seeBlk_use h
      rcases h with h | ⟨cs30, rfl, h⟩
      · exact fb h
      replace h := seeCons_use h
      rcases h with h | ⟨a31, q32, rfl, h⟩
      · exact fb h
      replace h := seeInts_use h
      rcases h with h | ⟨xs_m_3_0, rfl, h⟩
      · exact fb h
      replace h := seeCons_use h
      rcases h with h | ⟨a33, q34, rfl, h⟩
      · exact fb h
      replace h := seeInts_use h
      rcases h with h | ⟨xs_m_3_1, rfl, h⟩
      · exact fb h
      replace h := seeCons_use h
      rcases h with h | ⟨a35, q36, rfl, h⟩
      · exact fb h
      replace h := seeInts_use h
      rcases h with h | ⟨xs_m_3_2, rfl, h⟩
      · exact fb h
      replace h := seeNil_use h
      rcases h with h | ⟨rfl, h⟩
      · exact fb h
      replace h := seeNil_use h
      rcases h with h | ⟨rfl, h⟩
      · exact fb h
      obtain ⟨rfl, n, h⟩ := h
      exact loop_use named CE_ok (LoopsOk.none _ _) (RL3_23_ok  K n _ _ _ _ _ _ _ _ _ _ _) h hS0 ha hJ hlen ⟨e1, e2, e3, e4, trivial⟩ (eqm ▸ hS2) hρ2 hd hQ
    · cases h
  · exact hW r lf h
theorem at3 : Tryz.prog.funcs[3]? = some (fnOf Tryz.prog 3) := by kernel_rfl
abbrev Y3 : Type := Int → Int → List Int → List Int → List Int → List Int → (Prop) → (Prop) → Prop
set_option maxHeartbeats 4000000 in
set_option maxRecDepth 100000 in
def F3  (l3_18 : YL3_18) (l3_23 : YL3_23) (pa : Int) (so : Int) (xs : List Int) (ts : List Int) (ns : List Int) (bs : List Int) (k1 : Prop) (k2 : Prop) : Prop :=
  (recS xs ts ns (srtS xs ts ns (fun (sx1 : List Int) (st2 : List Int) (sn3 : List Int) => (rsS xs ts ns (fun (sx4 : List Int) (st5 : List Int) (sn6 : List Int) => (wrS2 xs ts ns (fun (wb8 : List Int) (we7 : Int) => (wrS2 xs ts ns (fun (wb10 : List Int) (we9 : Int) => (bif ((decide ((((0 : Nat) + ((List.length bs) - (0 : Nat))) * (1 : Nat)) ≤ (140737488355328 : Nat))) && (decide (((0 : Nat) + ((List.length bs) - (0 : Nat))) ≤ (140737488355328 : Nat)))) then (rdS2 bs (fun (sx11 : List Int) (st12 : List Int) (sn13 : List Int) (rc14 : Int) => (rdS2 bs (fun (sx15 : List Int) (st16 : List Int) (sn17 : List Int) (rc18 : Int) => (samS sx1 st2 sn3 sx4 st5 sn6 (fun (sb19 : Bool) => (bif (!sb19) then (k1) else (bif (!(wb8 == wb10)) then (k1) else (bif (we7 != we9) then (k1) else (samS sx11 st12 sn13 sx15 st16 sn17 (fun (sb20 : Bool) => (bif (!sb20) then (k1) else (bif (rc14 != rc18) then (k1) else (samS xs ts ns xs ts ns (fun (sb21 : Bool) => (bif (!sb21) then (k1) else (bif (!(bs == bs)) then (k1) else (arrS2 bs (fun (ar22 : List Int) (ac23 : Int) => (arrS2 bs (fun (ar24 : List Int) (ac25 : Int) => (bif (!((stubV pa so) == (stubV pa so))) then (k1) else (bif ((stubC pa so) != (stubC pa so)) then (k1) else (bif (((((List.length ar22) - (0 : Nat)) : Nat) : Int) != ((((List.length ar24) - (0 : Nat)) : Nat) : Int)) then (k1) else (bif (ac23 != ac25) then (k1) else (l3_18 XL3_18 (0 : Int) xs ts ns bs xs ts ns sx1 st2 sn3 ar22 ar24 ((k1)) ((l3_23 XL3_23 (0 : Int) xs ts ns bs xs ts ns sx1 st2 sn3 ((samS xs ts ns xs ts ns (fun (sb26 : Bool) => (bif sb26 then (k2) else (k1))))))))))))))))))))))))))))))))) else False))))))))))
theorem F3_ok  (l3_18 : YL3_18) (l3_23 : YL3_23) (pa : Int) (so : Int) (xs : List Int) (ts : List Int) (ns : List Int) (bs : List Int) (K : V → Mem → Prop) : cbody Tryz.prog CE (WL3_18 l3_18 (WL3_23 l3_23 (fun _ => none))) 1000 (fnOf Tryz.prog 3) [(.sl 0 (0 : Nat) (none : Option Nat) (none : Option Nat)), (.sl 1 (0 : Nat) (none : Option Nat) (none : Option Nat)), (.I .i64 pa), (.I .i64 so)] [⟨[.ints .i64 xs, .ints .i64 ts, .ints .i64 ns], 53, true, false⟩, ⟨[.ints .u8 bs], 5, true, false⟩] K =
    F3  l3_18 l3_23 pa so xs ts ns bs (K (.B false) [⟨[.ints .i64 xs, .ints .i64 ts, .ints .i64 ns], 53, true, false⟩, ⟨[.ints .u8 bs], 5, true, false⟩]) (K (.B true) [⟨[.ints .i64 xs, .ints .i64 ts, .ints .i64 ns], 53, true, false⟩, ⟨[.ints .u8 bs], 5, true, false⟩]) := by kernel_rfl

abbrev YL3_18b : Type := Code → Int → List Int → List Int → List Int → (Prop) → (Prop) → Prop
set_option maxHeartbeats 4000000 in
set_option maxRecDepth 100000 in
def HL3_18b  (rec : Int → Prop) (i_29 : Int) (xs_m_1_0 : List Int) (xs_m_2_0 : List Int) (xs_m_3_0 : List Int) (k1 : Prop) (k2 : Prop) : Prop :=
  (bif (decide (i_29 < ((((List.length xs_m_2_0) - (0 : Nat)) : Nat) : Int))) then (bif ((decide ((0 : Int) ≤ i_29)) && (decide (i_29 < ((((List.length xs_m_2_0) - (0 : Nat)) : Nat) : Int)))) then (bif ((decide ((0 : Int) ≤ i_29)) && (decide (i_29 < ((((List.length xs_m_3_0) - (0 : Nat)) : Nat) : Int)))) then (bif ((List.getD xs_m_2_0 (Int.toNat i_29) (0 : Int)) != (List.getD xs_m_3_0 (Int.toNat i_29) (0 : Int))) then (k1) else (rec (IntKind.wrap .i64 (i_29 + (1 : Int))))) else False) else False) else (k2))
def RL3_18b  : Nat → Int → List Int → List Int → List Int → (Prop) → (Prop) → Prop
  | 0, _, _, _, _, _, _ => False
  | n + 1, i_29, xs_m_1_0, xs_m_2_0, xs_m_3_0, k1, k2 => HL3_18b  (fun (i_29 : Int) => RL3_18b  n i_29 xs_m_1_0 xs_m_2_0 xs_m_3_0 k1 k2) i_29 xs_m_1_0 xs_m_2_0 xs_m_3_0 k1 k2
noncomputable def XL3_18b : Code := sub [true, true, true, true, true, true, true, true, true, true, true, true, true, true, true, false, true, false, false] (bodyOf Tryz.prog 3)
theorem HL3_18b_ok  (n : Nat) (i_29 : Int) (xs_m_1_0 : List Int) (xs_m_2_0 : List Int) (xs_m_3_0 : List Int) (K : Ex → Env → Mem → Prop) : cround 2 [0, 9, 10, 25, 27, 29] [0, 8, 9, 10] (fun ρ m K => cexec Tryz.prog CF (fun _ => none) 2 1000 XL3_18b ρ m K) (n + 1) (selE 179 [(0, (.sl 0 (0 : Nat) (none : Option Nat) (none : Option Nat))), (9, .nils), (10, .nils), (25, (.sl 2 (0 : Nat) (none : Option Nat) (none : Option Nat))), (27, (.sl 3 (0 : Nat) (none : Option Nat) (none : Option Nat))), (29, (.I .i64 i_29))]) [⟨[.ints .i64 ([] : List Int), .ints .i64 ([] : List Int), .ints .i64 ([] : List Int)], 53, true, false⟩, ⟨[.ints .u8 xs_m_1_0], 5, true, false⟩, ⟨[.ints .i64 xs_m_2_0], 3, false, true⟩, ⟨[.ints .i64 xs_m_3_0], 3, false, true⟩] K =
    HL3_18b  (fun (i_29 : Int) => cround 2 [0, 9, 10, 25, 27, 29] [0, 8, 9, 10] (fun ρ m K => cexec Tryz.prog CF (fun _ => none) 2 1000 XL3_18b ρ m K) n (selE 179 [(0, (.sl 0 (0 : Nat) (none : Option Nat) (none : Option Nat))), (9, .nils), (10, .nils), (25, (.sl 2 (0 : Nat) (none : Option Nat) (none : Option Nat))), (27, (.sl 3 (0 : Nat) (none : Option Nat) (none : Option Nat))), (29, (.I .i64 i_29))]) [⟨[.ints .i64 ([] : List Int), .ints .i64 ([] : List Int), .ints .i64 ([] : List Int)], 53, true, false⟩, ⟨[.ints .u8 xs_m_1_0], 5, true, false⟩, ⟨[.ints .i64 xs_m_2_0], 3, false, true⟩, ⟨[.ints .i64 xs_m_3_0], 3, false, true⟩] K) i_29 xs_m_1_0 xs_m_2_0 xs_m_3_0 (K .ret (selE 179 [(0, (.sl 0 (0 : Nat) (none : Option Nat) (none : Option Nat))), (8, (.B false)), (9, .nils), (10, .nils)]) [⟨[.ints .i64 ([] : List Int), .ints .i64 ([] : List Int), .ints .i64 ([] : List Int)], 53, true, false⟩, ⟨[.ints .u8 xs_m_1_0], 5, true, false⟩]) (K (.exit 0) (selE 179 [(0, (.sl 0 (0 : Nat) (none : Option Nat) (none : Option Nat))), (8, .undef), (9, .nils), (10, .nils)]) [⟨[.ints .i64 ([] : List Int), .ints .i64 ([] : List Int), .ints .i64 ([] : List Int)], 53, true, false⟩, ⟨[.ints .u8 xs_m_1_0], 5, true, false⟩]) := by kernel_rfl
theorem RL3_18b_ok  (K : Ex → Env → Mem → Prop) : ∀ (n : Nat) (i_29 : Int) (xs_m_1_0 : List Int) (xs_m_2_0 : List Int) (xs_m_3_0 : List Int), cround 2 [0, 9, 10, 25, 27, 29] [0, 8, 9, 10] (fun ρ m K => cexec Tryz.prog CF (fun _ => none) 2 1000 XL3_18b ρ m K) n (selE 179 [(0, (.sl 0 (0 : Nat) (none : Option Nat) (none : Option Nat))), (9, .nils), (10, .nils), (25, (.sl 2 (0 : Nat) (none : Option Nat) (none : Option Nat))), (27, (.sl 3 (0 : Nat) (none : Option Nat) (none : Option Nat))), (29, (.I .i64 i_29))]) [⟨[.ints .i64 ([] : List Int), .ints .i64 ([] : List Int), .ints .i64 ([] : List Int)], 53, true, false⟩, ⟨[.ints .u8 xs_m_1_0], 5, true, false⟩, ⟨[.ints .i64 xs_m_2_0], 3, false, true⟩, ⟨[.ints .i64 xs_m_3_0], 3, false, true⟩] K = RL3_18b  n i_29 xs_m_1_0 xs_m_2_0 xs_m_3_0 (K .ret (selE 179 [(0, (.sl 0 (0 : Nat) (none : Option Nat) (none : Option Nat))), (8, (.B false)), (9, .nils), (10, .nils)]) [⟨[.ints .i64 ([] : List Int), .ints .i64 ([] : List Int), .ints .i64 ([] : List Int)], 53, true, false⟩, ⟨[.ints .u8 xs_m_1_0], 5, true, false⟩]) (K (.exit 0) (selE 179 [(0, (.sl 0 (0 : Nat) (none : Option Nat) (none : Option Nat))), (8, .undef), (9, .nils), (10, .nils)]) [⟨[.ints .i64 ([] : List Int), .ints .i64 ([] : List Int), .ints .i64 ([] : List Int)], 53, true, false⟩, ⟨[.ints .u8 xs_m_1_0], 5, true, false⟩])
  | 0, i_29, xs_m_1_0, xs_m_2_0, xs_m_3_0 => rfl
  | n + 1, i_29, xs_m_1_0, xs_m_2_0, xs_m_3_0 => by
    have ih := RL3_18b_ok  K n
    rw [HL3_18b_ok  n i_29 xs_m_1_0 xs_m_2_0 xs_m_3_0 K]
    show HL3_18b  _ i_29 xs_m_1_0 xs_m_2_0 xs_m_3_0 (K .ret (selE 179 [(0, (.sl 0 (0 : Nat) (none : Option Nat) (none : Option Nat))), (8, (.B false)), (9, .nils), (10, .nils)]) [⟨[.ints .i64 ([] : List Int), .ints .i64 ([] : List Int), .ints .i64 ([] : List Int)], 53, true, false⟩, ⟨[.ints .u8 xs_m_1_0], 5, true, false⟩]) (K (.exit 0) (selE 179 [(0, (.sl 0 (0 : Nat) (none : Option Nat) (none : Option Nat))), (8, .undef), (9, .nils), (10, .nils)]) [⟨[.ints .i64 ([] : List Int), .ints .i64 ([] : List Int), .ints .i64 ([] : List Int)], 53, true, false⟩, ⟨[.ints .u8 xs_m_1_0], 5, true, false⟩]) = HL3_18b  _ i_29 xs_m_1_0 xs_m_2_0 xs_m_3_0 (K .ret (selE 179 [(0, (.sl 0 (0 : Nat) (none : Option Nat) (none : Option Nat))), (8, (.B false)), (9, .nils), (10, .nils)]) [⟨[.ints .i64 ([] : List Int), .ints .i64 ([] : List Int), .ints .i64 ([] : List Int)], 53, true, false⟩, ⟨[.ints .u8 xs_m_1_0], 5, true, false⟩]) (K (.exit 0) (selE 179 [(0, (.sl 0 (0 : Nat) (none : Option Nat) (none : Option Nat))), (8, .undef), (9, .nils), (10, .nils)]) [⟨[.ints .i64 ([] : List Int), .ints .i64 ([] : List Int), .ints .i64 ([] : List Int)], 53, true, false⟩, ⟨[.ints .u8 xs_m_1_0], 5, true, false⟩])
    refine congrArg (fun r => HL3_18b  r i_29 xs_m_1_0 xs_m_2_0 xs_m_3_0 (K .ret (selE 179 [(0, (.sl 0 (0 : Nat) (none : Option Nat) (none : Option Nat))), (8, (.B false)), (9, .nils), (10, .nils)]) [⟨[.ints .i64 ([] : List Int), .ints .i64 ([] : List Int), .ints .i64 ([] : List Int)], 53, true, false⟩, ⟨[.ints .u8 xs_m_1_0], 5, true, false⟩]) (K (.exit 0) (selE 179 [(0, (.sl 0 (0 : Nat) (none : Option Nat) (none : Option Nat))), (8, .undef), (9, .nils), (10, .nils)]) [⟨[.ints .i64 ([] : List Int), .ints .i64 ([] : List Int), .ints .i64 ([] : List Int)], 53, true, false⟩, ⟨[.ints .u8 xs_m_1_0], 5, true, false⟩])) ?_
    funext i_29
    exact ih i_29 xs_m_1_0 xs_m_2_0 xs_m_3_0
def GL3_18b : YL3_18b := fun x i_29 xs_m_1_0 xs_m_2_0 xs_m_3_0 k1 k2 => x = XL3_18b ∧ ∃ n, RL3_18b  n i_29 xs_m_1_0 xs_m_2_0 xs_m_3_0 k1 k2
def VL3_18b (l : YL3_18b) (F : Prop) (x : Code) (ρ : Env) (m : Mem) (K : Ex → Env → Mem → Prop) : Prop :=
  match ρ.has (179 - 1) with
  | true => (seeV (.sl 0 (0 : Nat) (none : Option Nat) (none : Option Nat)) (ρ.get 0) F (seeV .nils (ρ.get 9) F (seeV .nils (ρ.get 10) F (seeV (.sl 2 (0 : Nat) (none : Option Nat) (none : Option Nat)) (ρ.get 25) F (seeV (.sl 3 (0 : Nat) (none : Option Nat) (none : Option Nat)) (ρ.get 27) F (seeI .i64 (ρ.get 29) F fun i_29 => (seeCons m F fun a7 q8 => (seeBlk 53 true false a7 F fun cs9 => (seeCons cs9 F fun a10 q11 => (seeInts .i64 a10 F fun xs12 => (seeX ([] : List Int) xs12 F (seeCons q11 F fun a13 q14 => (seeInts .i64 a13 F fun xs15 => (seeX ([] : List Int) xs15 F (seeCons q14 F fun a16 q17 => (seeInts .i64 a16 F fun xs18 => (seeX ([] : List Int) xs18 F (seeNil q17 F (seeCons q8 F fun a19 q20 => (seeBlk 5 true false a19 F fun cs21 => (seeCons cs21 F fun a22 q23 => (seeInts .u8 a22 F fun xs_m_1_0 => (seeNil q23 F (seeCons q20 F fun a24 q25 => (seeBlk 3 false true a24 F fun cs26 => (seeCons cs26 F fun a27 q28 => (seeInts .i64 a27 F fun xs_m_2_0 => (seeNil q28 F (seeCons q25 F fun a29 q30 => (seeBlk 3 false true a29 F fun cs31 => (seeCons cs31 F fun a32 q33 => (seeInts .i64 a32 F fun xs_m_3_0 => (seeNil q33 F (seeNil q30 F (l x i_29 xs_m_1_0 xs_m_2_0 xs_m_3_0 (K .ret (selE 179 [(0, (.sl 0 (0 : Nat) (none : Option Nat) (none : Option Nat))), (8, (.B false)), (9, .nils), (10, .nils)]) [⟨[.ints .i64 ([] : List Int), .ints .i64 ([] : List Int), .ints .i64 ([] : List Int)], 53, true, false⟩, ⟨[.ints .u8 xs_m_1_0], 5, true, false⟩]) (K (.exit 0) (selE 179 [(0, (.sl 0 (0 : Nat) (none : Option Nat) (none : Option Nat))), (8, .undef), (9, .nils), (10, .nils)]) [⟨[.ints .i64 ([] : List Int), .ints .i64 ([] : List Int), .ints .i64 ([] : List Int)], 53, true, false⟩, ⟨[.ints .u8 xs_m_1_0], 5, true, false⟩]))))))))))))))))))))))))))))))))))))
  | false => False
def WL3_18b (l : YL3_18b) (W : Masks) : Masks := fun r =>
  match Nat.beq r 18 with
  | true => some fun x ρ m K => VL3_18b l (match W r with | some lf => lf x ρ m K | none => False) x (tidyE 2 [0, 9, 10, 25, 27, 29] ρ m) (tidyM 2 [0, 9, 10, 25, 27, 29] ρ m) K
  | false => W r
set_option maxRecDepth 100000 in
theorem WL3_18b_ok {W : Masks} (hW : LoopsOk Tryz.prog 2 W) : LoopsOk Tryz.prog 2 (WL3_18b GL3_18b W) := by
  intro r lf h
  unfold WL3_18b at h
  split at h
  · cases h
    intro x E0 m0 w0 J hS0 ha hJ ρ m K E a w Q hS hρ hd h hQ
    have fb : (match W r with | some lf => lf x ρ m K | none => False) → (Code.loop x).wp Tryz.prog Q a w := fun h => by
      split at h
      · rename_i lf hlf
        exact hW r lf hlf x hS0 ha hJ ρ m K E a w Q hS hρ hd h hQ
      · cases h
    obtain ⟨E2, hS2, hρ2⟩ := tidy_rel hS0 hS hρ [0, 9, 10, 25, 27, 29]
    rw [ha] at hS2 hρ2
    unfold VL3_18b at h
    split at h
    · rename_i hlen
      replace h := seeV_use h
      rcases h with h | ⟨e1, h⟩
      · exact fb h
      replace h := seeV_use h
      rcases h with h | ⟨e2, h⟩
      · exact fb h
      replace h := seeV_use h
      rcases h with h | ⟨e3, h⟩
      · exact fb h
      replace h := seeV_use h
      rcases h with h | ⟨e4, h⟩
      · exact fb h
      replace h := seeV_use h
      rcases h with h | ⟨e5, h⟩
      · exact fb h
      replace h := seeI_use h
      rcases h with h | ⟨i_29, e6, h⟩
      · exact fb h
      replace h := seeCons_use h
      rcases h with h | ⟨a7, q8, eqm, h⟩
      · exact fb h
      replace h := seeBlk_use h
      rcases h with h | ⟨cs9, rfl, h⟩
      · exact fb h
      replace h := seeCons_use h
      rcases h with h | ⟨a10, q11, rfl, h⟩
      · exact fb h
      replace h := seeInts_use h
      rcases h with h | ⟨xs12, rfl, h⟩
      · exact fb h
      replace h := seeX_use h
      rcases h with h | ⟨rfl, h⟩
      · exact fb h
      replace h := seeCons_use h
      rcases h with h | ⟨a13, q14, rfl, h⟩
      · exact fb h
      replace h := seeInts_use h
      rcases h with h | ⟨xs15, rfl, h⟩
      · exact fb h
      replace h := seeX_use h
      rcases h with h | ⟨rfl, h⟩
      · exact fb h
      replace h := seeCons_use h
      rcases h with h | ⟨a16, q17, rfl, h⟩
      · exact fb h
      replace h := seeInts_use h
      rcases h with h | ⟨xs18, rfl, h⟩
      · exact fb h
      replace h := seeX_use h
      rcases h with h | ⟨rfl, h⟩
      · exact fb h
      replace h := seeNil_use h
      rcases h with h | ⟨rfl, h⟩
      · exact fb h
      replace h := seeCons_use h
      rcases h with h | ⟨a19, q20, rfl, h⟩
      · exact fb h
      replace h := seeBlk_use h
      rcases h with h | ⟨cs21, rfl, h⟩
      · exact fb h
      replace h := seeCons_use h
      rcases h with h | ⟨a22, q23, rfl, h⟩
      · exact fb h
      replace h := seeInts_use h
      rcases h with h | ⟨xs_m_1_0, rfl, h⟩
      · exact fb h
      replace h := seeNil_use h
      rcases h with h | ⟨rfl, h⟩
      · exact fb h
      replace h := seeCons_use h
      rcases h with h | ⟨a24, q25, rfl, h⟩
      · exact fb h
      replace h := seeBlk_use h
      rcases h with h | ⟨cs26, rfl, h⟩
      · exact fb h
      replace h := seeCons_use h
      rcases h with h | ⟨a27, q28, rfl, h⟩
      · exact fb h
      replace h := seeInts_use h
      rcases h with h | ⟨xs_m_2_0, rfl, h⟩
      · exact fb h
      replace h := seeNil_use h
      rcases h with h | ⟨rfl, h⟩
      · exact fb h
      replace h := seeCons_use h
      rcases h with h | ⟨a29, q30, rfl, h⟩
      · exact fb h
      replace h := seeBlk_use h
      rcases h with h | ⟨cs31, rfl, h⟩
      · exact fb h
      replace h := seeCons_use h
      rcases h with h | ⟨a32, q33, rfl, h⟩
      · exact fb h
      replace h := seeInts_use h
      rcases h with h | ⟨xs_m_3_0, rfl, h⟩
      · exact fb h
      replace h := seeNil_use h
      rcases h with h | ⟨rfl, h⟩
      · exact fb h
      replace h := seeNil_use h
      rcases h with h | ⟨rfl, h⟩
      · exact fb h
      obtain ⟨rfl, n, h⟩ := h
      exact loop_use named CF_ok (LoopsOk.none _ _) (RL3_18b_ok  K n _ _ _ _) h hS0 ha hJ hlen ⟨e1, e2, e3, e4, e5, e6, trivial⟩ (eqm ▸ hS2) hρ2 hd hQ
    · cases h
  · exact hW r lf h
abbrev YL3_23b : Type := Code → List Int → (Prop) → Prop
set_option maxHeartbeats 4000000 in
set_option maxRecDepth 100000 in
def HL3_23b  (rec : Prop) (xs_m_1_0 : List Int) (k1 : Prop) : Prop :=
  (k1)
def RL3_23b  : Nat → List Int → (Prop) → Prop
  | 0, _, _ => False
  | n + 1, xs_m_1_0, k1 => HL3_23b  (RL3_23b  n xs_m_1_0 k1) xs_m_1_0 k1
noncomputable def XL3_23b : Code := sub [true, true, true, true, true, true, true, true, true, true, true, true, true, true, true, true, false, true, false, false] (bodyOf Tryz.prog 3)
theorem HL3_23b_ok  (n : Nat) (xs_m_1_0 : List Int) (K : Ex → Env → Mem → Prop) : cround 2 [0, 9, 10, 30] [0, 9] (fun ρ m K => cexec Tryz.prog CF (fun _ => none) 2 1000 XL3_23b ρ m K) (n + 1) (selE 179 [(0, (.sl 0 (0 : Nat) (none : Option Nat) (none : Option Nat))), (9, .nils), (10, .nils), (30, (.I .i64 (0 : Int)))]) [⟨[.ints .i64 ([] : List Int), .ints .i64 ([] : List Int), .ints .i64 ([] : List Int)], 53, true, false⟩, ⟨[.ints .u8 xs_m_1_0], 5, true, false⟩] K =
    HL3_23b  (cround 2 [0, 9, 10, 30] [0, 9] (fun ρ m K => cexec Tryz.prog CF (fun _ => none) 2 1000 XL3_23b ρ m K) n (selE 179 [(0, (.sl 0 (0 : Nat) (none : Option Nat) (none : Option Nat))), (9, .nils), (10, .nils), (30, (.I .i64 (0 : Int)))]) [⟨[.ints .i64 ([] : List Int), .ints .i64 ([] : List Int), .ints .i64 ([] : List Int)], 53, true, false⟩, ⟨[.ints .u8 xs_m_1_0], 5, true, false⟩] K) xs_m_1_0 (K (.exit 2) (selE 179 [(0, (.sl 0 (0 : Nat) (none : Option Nat) (none : Option Nat))), (9, .nils)]) [⟨[.ints .i64 ([] : List Int), .ints .i64 ([] : List Int), .ints .i64 ([] : List Int)], 53, true, false⟩, ⟨[.ints .u8 xs_m_1_0], 5, true, false⟩]) := by kernel_rfl
theorem RL3_23b_ok  (K : Ex → Env → Mem → Prop) : ∀ (n : Nat) (xs_m_1_0 : List Int), cround 2 [0, 9, 10, 30] [0, 9] (fun ρ m K => cexec Tryz.prog CF (fun _ => none) 2 1000 XL3_23b ρ m K) n (selE 179 [(0, (.sl 0 (0 : Nat) (none : Option Nat) (none : Option Nat))), (9, .nils), (10, .nils), (30, (.I .i64 (0 : Int)))]) [⟨[.ints .i64 ([] : List Int), .ints .i64 ([] : List Int), .ints .i64 ([] : List Int)], 53, true, false⟩, ⟨[.ints .u8 xs_m_1_0], 5, true, false⟩] K = RL3_23b  n xs_m_1_0 (K (.exit 2) (selE 179 [(0, (.sl 0 (0 : Nat) (none : Option Nat) (none : Option Nat))), (9, .nils)]) [⟨[.ints .i64 ([] : List Int), .ints .i64 ([] : List Int), .ints .i64 ([] : List Int)], 53, true, false⟩, ⟨[.ints .u8 xs_m_1_0], 5, true, false⟩])
  | 0, xs_m_1_0 => rfl
  | n + 1, xs_m_1_0 => by
    have ih := RL3_23b_ok  K n
    rw [HL3_23b_ok  n xs_m_1_0 K]
    show HL3_23b  _ xs_m_1_0 (K (.exit 2) (selE 179 [(0, (.sl 0 (0 : Nat) (none : Option Nat) (none : Option Nat))), (9, .nils)]) [⟨[.ints .i64 ([] : List Int), .ints .i64 ([] : List Int), .ints .i64 ([] : List Int)], 53, true, false⟩, ⟨[.ints .u8 xs_m_1_0], 5, true, false⟩]) = HL3_23b  _ xs_m_1_0 (K (.exit 2) (selE 179 [(0, (.sl 0 (0 : Nat) (none : Option Nat) (none : Option Nat))), (9, .nils)]) [⟨[.ints .i64 ([] : List Int), .ints .i64 ([] : List Int), .ints .i64 ([] : List Int)], 53, true, false⟩, ⟨[.ints .u8 xs_m_1_0], 5, true, false⟩])
    refine congrArg (fun r => HL3_23b  r xs_m_1_0 (K (.exit 2) (selE 179 [(0, (.sl 0 (0 : Nat) (none : Option Nat) (none : Option Nat))), (9, .nils)]) [⟨[.ints .i64 ([] : List Int), .ints .i64 ([] : List Int), .ints .i64 ([] : List Int)], 53, true, false⟩, ⟨[.ints .u8 xs_m_1_0], 5, true, false⟩])) ?_
    exact ih xs_m_1_0
def GL3_23b : YL3_23b := fun x xs_m_1_0 k1 => x = XL3_23b ∧ ∃ n, RL3_23b  n xs_m_1_0 k1
def VL3_23b (l : YL3_23b) (F : Prop) (x : Code) (ρ : Env) (m : Mem) (K : Ex → Env → Mem → Prop) : Prop :=
  match ρ.has (179 - 1) with
  | true => (seeV (.sl 0 (0 : Nat) (none : Option Nat) (none : Option Nat)) (ρ.get 0) F (seeV .nils (ρ.get 9) F (seeV .nils (ρ.get 10) F (seeV (.I .i64 (0 : Int)) (ρ.get 30) F (seeCons m F fun a5 q6 => (seeBlk 53 true false a5 F fun cs7 => (seeCons cs7 F fun a8 q9 => (seeInts .i64 a8 F fun xs10 => (seeX ([] : List Int) xs10 F (seeCons q9 F fun a11 q12 => (seeInts .i64 a11 F fun xs13 => (seeX ([] : List Int) xs13 F (seeCons q12 F fun a14 q15 => (seeInts .i64 a14 F fun xs16 => (seeX ([] : List Int) xs16 F (seeNil q15 F (seeCons q6 F fun a17 q18 => (seeBlk 5 true false a17 F fun cs19 => (seeCons cs19 F fun a20 q21 => (seeInts .u8 a20 F fun xs_m_1_0 => (seeNil q21 F (seeNil q18 F (l x xs_m_1_0 (K (.exit 2) (selE 179 [(0, (.sl 0 (0 : Nat) (none : Option Nat) (none : Option Nat))), (9, .nils)]) [⟨[.ints .i64 ([] : List Int), .ints .i64 ([] : List Int), .ints .i64 ([] : List Int)], 53, true, false⟩, ⟨[.ints .u8 xs_m_1_0], 5, true, false⟩]))))))))))))))))))))))))
  | false => False
def WL3_23b (l : YL3_23b) (W : Masks) : Masks := fun r =>
  match Nat.beq r 23 with
  | true => some fun x ρ m K => VL3_23b l (match W r with | some lf => lf x ρ m K | none => False) x (tidyE 2 [0, 9, 10, 30] ρ m) (tidyM 2 [0, 9, 10, 30] ρ m) K
  | false => W r
set_option maxRecDepth 100000 in
theorem WL3_23b_ok {W : Masks} (hW : LoopsOk Tryz.prog 2 W) : LoopsOk Tryz.prog 2 (WL3_23b GL3_23b W) := by
  intro r lf h
  unfold WL3_23b at h
  split at h
  · cases h
    intro x E0 m0 w0 J hS0 ha hJ ρ m K E a w Q hS hρ hd h hQ
    have fb : (match W r with | some lf => lf x ρ m K | none => False) → (Code.loop x).wp Tryz.prog Q a w := fun h => by
      split at h
      · rename_i lf hlf
        exact hW r lf hlf x hS0 ha hJ ρ m K E a w Q hS hρ hd h hQ
      · cases h
    obtain ⟨E2, hS2, hρ2⟩ := tidy_rel hS0 hS hρ [0, 9, 10, 30]
    rw [ha] at hS2 hρ2
    unfold VL3_23b at h
    split at h
    · rename_i hlen
      replace h := seeV_use h
      rcases h with h | ⟨e1, h⟩
      · exact fb h
      replace h := seeV_use h
      rcases h with h | ⟨e2, h⟩
      · exact fb h
      replace h := seeV_use h
      rcases h with h | ⟨e3, h⟩
      · exact fb h
      replace h := seeV_use h
      rcases h with h | ⟨e4, h⟩
      · exact fb h
      replace h := seeCons_use h
      rcases h with h | ⟨a5, q6, eqm, h⟩
      · exact fb h
      replace h := seeBlk_use h
      rcases h with h | ⟨cs7, rfl, h⟩
      · exact fb h
      replace h := seeCons_use h
      rcases h with h | ⟨a8, q9, rfl, h⟩
      · exact fb h
      replace h := seeInts_use h
      rcases h with h | ⟨xs10, rfl, h⟩
      · exact fb h
      replace h := seeX_use h
      rcases h with h | ⟨rfl, h⟩
      · exact fb h
      replace h := seeCons_use h
      rcases h with h | ⟨a11, q12, rfl, h⟩
      · exact fb h
      replace h := seeInts_use h
      rcases h with h | ⟨xs13, rfl, h⟩
      · exact fb h
      replace h := seeX_use h
      rcases h with h | ⟨rfl, h⟩
      · exact fb h
      replace h := seeCons_use h
      rcases h with h | ⟨a14, q15, rfl, h⟩
      · exact fb h
      replace h := seeInts_use h
      rcases h with h | ⟨xs16, rfl, h⟩
      · exact fb h
      replace h := seeX_use h
      rcases h with h | ⟨rfl, h⟩
      · exact fb h
      replace h := seeNil_use h
      rcases h with h | ⟨rfl, h⟩
      · exact fb h
      replace h := seeCons_use h
      rcases h with h | ⟨a17, q18, rfl, h⟩
      · exact fb h
      replace h := seeBlk_use h
      rcases h with h | ⟨cs19, rfl, h⟩
      · exact fb h
      replace h := seeCons_use h
      rcases h with h | ⟨a20, q21, rfl, h⟩
      · exact fb h
      replace h := seeInts_use h
      rcases h with h | ⟨xs_m_1_0, rfl, h⟩
      · exact fb h
      replace h := seeNil_use h
      rcases h with h | ⟨rfl, h⟩
      · exact fb h
      replace h := seeNil_use h
      rcases h with h | ⟨rfl, h⟩
      · exact fb h
      obtain ⟨rfl, n, h⟩ := h
      exact loop_use named CF_ok (LoopsOk.none _ _) (RL3_23b_ok  K n _) h hS0 ha hJ hlen ⟨e1, e2, e3, e4, trivial⟩ (eqm ▸ hS2) hρ2 hd hQ
    · cases h
  · exact hW r lf h
abbrev Y3e : Type := Int → Int → List Int → (Prop) → (Prop) → Prop
set_option maxHeartbeats 4000000 in
set_option maxRecDepth 100000 in
def F3e  (l3_18b : YL3_18b) (l3_23b : YL3_23b) (pa : Int) (so : Int) (bs : List Int) (k1 : Prop) (k2 : Prop) : Prop :=
  (bif ((decide ((((0 : Nat) + ((List.length bs) - (0 : Nat))) * (1 : Nat)) ≤ (140737488355328 : Nat))) && (decide (((0 : Nat) + ((List.length bs) - (0 : Nat))) ≤ (140737488355328 : Nat)))) then (rdS2 bs (fun (sx1 : List Int) (st2 : List Int) (sn3 : List Int) (rc4 : Int) => (rdS2 bs (fun (sx5 : List Int) (st6 : List Int) (sn7 : List Int) (rc8 : Int) => (samS sx1 st2 sn3 sx5 st6 sn7 (fun (sb9 : Bool) => (bif (!sb9) then (k1) else (bif (rc4 != rc8) then (k1) else (bif (!(bs == bs)) then (k1) else (arrS2 bs (fun (ar10 : List Int) (ac11 : Int) => (arrS2 bs (fun (ar12 : List Int) (ac13 : Int) => (bif (!((stubV pa so) == (stubV pa so))) then (k1) else (bif ((stubC pa so) != (stubC pa so)) then (k1) else (bif (((((List.length ar10) - (0 : Nat)) : Nat) : Int) != ((((List.length ar12) - (0 : Nat)) : Nat) : Int)) then (k1) else (bif (ac11 != ac13) then (k1) else (l3_18b XL3_18b (0 : Int) bs ar10 ar12 ((k1)) ((l3_23b XL3_23b bs ((k2)))))))))))))))))))))) else False)
theorem F3e_ok  (l3_18b : YL3_18b) (l3_23b : YL3_23b) (pa : Int) (so : Int) (bs : List Int) (K : V → Mem → Prop) : cbody Tryz.prog CF (WL3_18b l3_18b (WL3_23b l3_23b (fun _ => none))) 1000 (fnOf Tryz.prog 3) [(.sl 0 (0 : Nat) (none : Option Nat) (none : Option Nat)), (.sl 1 (0 : Nat) (none : Option Nat) (none : Option Nat)), (.I .i64 pa), (.I .i64 so)] [⟨[.ints .i64 ([] : List Int), .ints .i64 ([] : List Int), .ints .i64 ([] : List Int)], 53, true, false⟩, ⟨[.ints .u8 bs], 5, true, false⟩] K =
    F3e  l3_18b l3_23b pa so bs (K (.B false) [⟨[.ints .i64 ([] : List Int), .ints .i64 ([] : List Int), .ints .i64 ([] : List Int)], 53, true, false⟩, ⟨[.ints .u8 bs], 5, true, false⟩]) (K (.B true) [⟨[.ints .i64 ([] : List Int), .ints .i64 ([] : List Int), .ints .i64 ([] : List Int)], 53, true, false⟩, ⟨[.ints .u8 bs], 5, true, false⟩]) := by kernel_rfl
/-! ### The law -/
theorem l18 {L : List Int} (hs : L.length ≤ 1048576) {a b c d e f g h i' j : List Int} {k1 k2 : Prop} (hk : k2) : ∀ (n i : Nat), i + n = L.length → RL3_18 (n + 1) ((i : Nat) : Int) a b c d e f g h i' j L L k1 k2
  | 0, i, hi => by
    show HL3_18 _ _ _ _ _ _ _ _ _ _ _ _ _ _ _ _
    unfold HL3_18
    rw [decide_eq_false (by omega : ¬ ((i : Nat) : Int) < (((List.length L - (0 : Nat) : Nat)) : Int))]
    exact hk
  | n + 1, i, hi => by
    have ei : IntKind.wrap .i64 (((i : Nat) : Int) + 1) = ((i + 1 : Nat) : Int) := by rw [w64 (by omega) (by omega)]; omega
    have ih := l18 hs (a := a) (b := b) (c := c) (d := d) (e := e) (f := f) (g := g) (h := h) (i' := i') (j := j) (k1 := k1) hk n (i + 1) (by omega)
    show HL3_18 _ _ _ _ _ _ _ _ _ _ _ _ _ _ _ _
    unfold HL3_18
    rw [decide_eq_true (by omega : ((i : Nat) : Int) < (((List.length L - (0 : Nat) : Nat)) : Int)), decide_eq_true (Int.natCast_nonneg i : (0 : Int) ≤ ((i : Nat) : Int)), ei]
    simp only [cond_true, Bool.and_self, bne_self_eq_false, cond_false]
    exact ih
theorem l18b {L : List Int} (hs : L.length ≤ 1048576) {a : List Int} {k1 k2 : Prop} (hk : k2) : ∀ (n i : Nat), i + n = L.length → RL3_18b (n + 1) ((i : Nat) : Int) a L L k1 k2
  | 0, i, hi => by
    show HL3_18b _ _ _ _ _ _ _
    unfold HL3_18b
    rw [decide_eq_false (by omega : ¬ ((i : Nat) : Int) < (((List.length L - (0 : Nat) : Nat)) : Int))]
    exact hk
  | n + 1, i, hi => by
    have ei : IntKind.wrap .i64 (((i : Nat) : Int) + 1) = ((i + 1 : Nat) : Int) := by rw [w64 (by omega) (by omega)]; omega
    have ih := l18b hs (a := a) (k1 := k1) hk n (i + 1) (by omega)
    show HL3_18b _ _ _ _ _ _ _
    unfold HL3_18b
    rw [decide_eq_true (by omega : ((i : Nat) : Int) < (((List.length L - (0 : Nat) : Nat)) : Int)), decide_eq_true (Int.natCast_nonneg i : (0 : Int) ≤ ((i : Nat) : Int)), ei]
    simp only [cond_true, Bool.and_self, bne_self_eq_false, cond_false]
    exact ih
theorem l23 {a b c d e f g h j : List Int} {k1 : Prop} (hk : k1) : ∀ (n i : Nat) (M : List Int), i + n = M.length → M.length ≤ 1048576 → RL3_23 (n + 1) ((i : Nat) : Int) a b c d e f g M h j k1
  | 0, i, M, hi, hs => by
    show HL3_23 _ _ _ _ _ _ _ _ _ _ _ _ _
    unfold HL3_23
    rw [decide_eq_false (by omega : ¬ ((i : Nat) : Int) < (((List.length M - (0 : Nat) : Nat)) : Int))]
    exact hk
  | n + 1, i, M, hi, hs => by
    have ei : IntKind.wrap .i64 (((i : Nat) : Int) + 1) = ((i + 1 : Nat) : Int) := by rw [w64 (by omega) (by omega)]; omega
    have ih := l23 (a := a) (b := b) (c := c) (d := d) (e := e) (f := f) (g := g) (h := h) (j := j) hk n (i + 1) (List.set M (Int.toNat ((i : Nat) : Int)) (-7 : Int)) (by rw [List.length_set]; omega) (by rw [List.length_set]; omega)
    show HL3_23 _ _ _ _ _ _ _ _ _ _ _ _ _
    unfold HL3_23
    rw [decide_eq_true (by omega : ((i : Nat) : Int) < (((List.length M - (0 : Nat) : Nat)) : Int)), decide_eq_true (Int.natCast_nonneg i : (0 : Int) ≤ ((i : Nat) : Int)), ei]
    simp only [cond_true, Bool.and_self]
    exact ih
theorem three_all : ∀ (n : Nat) (ns : List Int), ns.length ≤ n → (∀ x ∈ ns, inI x) → ∃ (rs : List R) (ns2 : List Int), ns = rs.flatMap three ++ ns2 ∧ ns2.length < 3 ∧ (∀ r ∈ rs, inR r) ∧ (∀ x ∈ ns2, inI x)
  | 0, [], _, _ => ⟨[], [], rfl, by decide, by simp, by simp⟩
  | n + 1, ns, hn, hi => by
    match ns, hn, hi with
    | a :: b :: c :: r, hn, hi =>
      obtain ⟨rs, ns2, h1, h2, h3, h4⟩ := three_all n r (by simp at hn; omega) (fun y hy => hi y (by simp [hy]))
      refine ⟨(a, b, c) :: rs, ns2, by rw [List.flatMap_cons, h1]; rfl, h2, ?_, h4⟩
      intro q hq
      rcases List.mem_cons.1 hq with rfl | hq
      · exact ⟨hi a (by simp), hi b (by simp), hi c (by simp)⟩
      · exact h3 q hq
    | [], _, _ => exact ⟨[], [], rfl, by decide, by simp, by simp⟩
    | [a], _, hi => exact ⟨[], [a], rfl, by simp, by simp, hi⟩
    | [a, b], _, hi => exact ⟨[], [a, b], rfl, by simp, by simp, hi⟩
/-- What any bytes are: numbers, a rest; and records, a rest. -/
theorem parts {bs : List Int} (hb : byteL bs) : ∃ (rs : List R) (ns2 post : List Int), bs = rs.flatMap encR ++ (ns2.flatMap enc8 ++ post) ∧ ns2.length < 3 ∧ post.length < 8 ∧ (∀ r ∈ rs, inR r) ∧ (∀ n ∈ ns2, inI n) ∧
    bs = (rs.flatMap three ++ ns2).flatMap enc8 ++ post ∧ (∀ n ∈ rs.flatMap three ++ ns2, inI n) := by
  obtain ⟨ns, post, h1, h2, h3⟩ := dec_all bs.length bs (Nat.le_refl _) hb
  obtain ⟨rs, ns2, g1, g2, g3, g4⟩ := three_all ns.length ns (Nat.le_refl _) h3
  refine ⟨rs, ns2, post, ?_, g2, h2, g3, g4, by rw [← g1]; exact h1, by rw [← g1]; exact h3⟩
  rw [h1, g1, List.flatMap_append, three_enc, List.append_assoc]
theorem rdV_len {rs : List R} {ns2 post : List Int} (h : rdL rs ns2 post ≤ 1048576) : sm (rdV rs ns2 post).length := by
  unfold rdV
  unfold rdL at h
  unfold sm
  split
  · omega
  · simp
theorem law3 {rs : List R} (hne : rs ≠ []) (hs : sm rs.length) {bs : List Int} (hb : byteL bs) (hbs : sm bs.length) {pa so : Int} {kf kt : Prop} (hk : kt) : F3 GL3_18 GL3_23 pa so (rs.map f1) (rs.map f2) (rs.map f3) bs kf kt := by
  have hs' : rs.length ≤ 1048576 := hs
  have hbs' : bs.length ≤ 1048576 := hbs
  obtain ⟨r0, n2, post, b1, b2, b3, b4, b5, b6, b7⟩ := parts hb
  have hL : rdL r0 n2 post ≤ 1048576 := by rw [← rdL_eq, ← b1]; exact hbs'
  have hV := rdV_len hL
  have hN : (arrV (r0.flatMap three ++ n2) post).length ≤ 1048576 := by
    have h3 := three_len r0
    unfold arrV
    unfold rdL at hL
    cases post.isEmpty with
    | true => show (r0.flatMap three ++ n2).length ≤ _; rw [List.length_append, h3]; omega
    | false => show ([] : List Int).length ≤ _; simp
  unfold F3
  refine ⟨rs, ⟨rfl, rfl, rfl⟩, hs, rs, ⟨rfl, rfl, rfl⟩, hs, hne, fun s1 h1 m1 => ?_⟩
  have l1 : s1.length = rs.length := (m1.perm_length ordR).symm
  have hs1 : sm s1.length := by rw [l1]; exact hs
  unfold put3
  refine ⟨rs, ⟨rfl, rfl, rfl⟩, hs, fun s2 h2 m2 => ?_⟩
  obtain rfl : s2 = s1 := unique ordR h2 h1 (m2.symm.trans m1)
  unfold put3
  refine ⟨rs, ⟨rfl, rfl, rfl⟩, hs, rs, ⟨rfl, rfl, rfl⟩, hs, ?_⟩
  rw [decide_eq_true (by omega : (0 + (List.length bs - 0)) * 1 ≤ 140737488355328), decide_eq_true (by omega : 0 + (List.length bs - 0) ≤ 140737488355328)]
  refine ⟨r0, n2, post, b1, b2, b3, b4, b5, hbs, r0, n2, post, b1, b2, b3, b4, b5, hbs, ?_⟩
  refine ⟨s2, s2, ⟨rfl, rfl, rfl⟩, ⟨rfl, rfl, rfl⟩, hs1, hs1, ?_⟩
  rw [decide_eq_true rfl]
  simp only [beq_self_eq_true, bne_self_eq_false, Bool.not_true, cond_false]
  refine ⟨rdV r0 n2 post, rdV r0 n2 post, ⟨rfl, rfl, rfl⟩, ⟨rfl, rfl, rfl⟩, hV, hV, ?_⟩
  rw [decide_eq_true rfl]
  simp only [Bool.not_true, cond_false]
  refine ⟨rs, rs, ⟨rfl, rfl, rfl⟩, ⟨rfl, rfl, rfl⟩, hs, hs, ?_⟩
  rw [decide_eq_true rfl]
  simp only [Bool.not_true, cond_false]
  refine ⟨_, post, b6, b3, b7, hbs, _, post, b6, b3, b7, hbs, ?_⟩
  simp only [bne_self_eq_false, cond_false]
  refine ⟨rfl, _, l18 hN ?_ (arrV (r0.flatMap three ++ n2) post).length 0 (by omega)⟩
  refine ⟨rfl, _, l23 ?_ (s2.map f1).length 0 (s2.map f1) (by omega) (by rw [List.length_map]; omega)⟩
  refine ⟨rs, rs, ⟨rfl, rfl, rfl⟩, ⟨rfl, rfl, rfl⟩, hs, hs, ?_⟩
  rw [decide_eq_true rfl]
  exact hk
theorem law3e {bs : List Int} (hb : byteL bs) (hbs : sm bs.length) {pa so : Int} {kf kt : Prop} (hk : kt) : F3e GL3_18b GL3_23b pa so bs kf kt := by
  have hbs' : bs.length ≤ 1048576 := hbs
  obtain ⟨r0, n2, post, b1, b2, b3, b4, b5, b6, b7⟩ := parts hb
  have hL : rdL r0 n2 post ≤ 1048576 := by rw [← rdL_eq, ← b1]; exact hbs'
  have hV := rdV_len hL
  have hN : (arrV (r0.flatMap three ++ n2) post).length ≤ 1048576 := by
    have h3 := three_len r0
    unfold arrV
    unfold rdL at hL
    cases post.isEmpty with
    | true => show (r0.flatMap three ++ n2).length ≤ _; rw [List.length_append, h3]; omega
    | false => show ([] : List Int).length ≤ _; simp
  unfold F3e
  rw [decide_eq_true (by omega : (0 + (List.length bs - 0)) * 1 ≤ 140737488355328), decide_eq_true (by omega : 0 + (List.length bs - 0) ≤ 140737488355328)]
  refine ⟨r0, n2, post, b1, b2, b3, b4, b5, hbs, r0, n2, post, b1, b2, b3, b4, b5, hbs, ?_⟩
  refine ⟨rdV r0 n2 post, rdV r0 n2 post, ⟨rfl, rfl, rfl⟩, ⟨rfl, rfl, rfl⟩, hV, hV, ?_⟩
  rw [decide_eq_true rfl]
  simp only [beq_self_eq_true, bne_self_eq_false, Bool.not_true, cond_false]
  refine ⟨_, post, b6, b3, b7, hbs, _, post, b6, b3, b7, hbs, ?_⟩
  simp only [bne_self_eq_false, cond_false]
  refine ⟨rfl, _, l18b hN ?_ (arrV (r0.flatMap three ++ n2) post).length 0 (by omega)⟩
  exact ⟨rfl, 1, hk⟩
theorem cols_of2 : ∀ (xs ts ns : List Int), ts.length = xs.length → ns.length = xs.length → ∃ rs : List R, rs.length = xs.length ∧ is3 rs xs ts ns
  | [], [], [], _, _ => ⟨[], rfl, rfl, rfl, rfl⟩
  | x :: xs, t :: ts, n :: ns, h1, h2 => by
    obtain ⟨rs, hl, rfl, rfl, rfl⟩ := cols_of2 xs ts ns (by simpa using h1) (by simpa using h2)
    exact ⟨(x, t, n) :: rs, by simp, rfl, rfl, rfl⟩
end Go.Proofs.YtgflbmcmkjkmmaaGreat.so
