import Derived.Test.YtnndiicpiolddaaLen1
set_option linter.unusedVariables false
namespace Go.Proofs.Ytnndiicpiolddaa.tls
open Go Go.Ab
abbrev YL45_10e : Type := Code → Int → Int → Int → Int → List Int → List Int → (Prop) → (Int → Prop) → (Prop) → Prop
set_option maxHeartbeats 4000000 in
set_option maxRecDepth 100000 in
def HL45_10e (f70_1 : Y70_1) (rec : Int → Prop) (i_1 : Int) (i_2 : Int) (i_11 : Int) (i_49 : Int) (xs_m_0_0 : List Int) (xs_m_5_0 : List Int) (k1 : Prop) (k2 : Int → Prop) (k3 : Prop) : Prop :=
  (bif (decide (i_49 < (16 : Int))) then (bif (decide (i_49 ≥ (8 : Int))) then (bif (decide (i_1 < (0 : Int))) then (k1) else (bif (decide (i_11 < (0 : Int))) then (k1) else (bif (decide (i_11 > (IntKind.wrap .i64 (((((List.length xs_m_0_0) - (0 : Nat)) : Nat) : Int) - (7 : Int))))) then (k1) else (bif ((decide ((0 : Int) ≤ (IntKind.wrap .i64 (i_11 + (7 : Int))))) && ((decide ((Int.toNat (IntKind.wrap .i64 (i_11 + (7 : Int)))) ≤ ((List.length xs_m_0_0) - (0 : Nat)))) && ((decide ((0 : Int) ≤ i_11)) && (decide (i_11 ≤ (IntKind.wrap .i64 (i_11 + (7 : Int)))))))) then (f70_1 (Int.toNat i_11) ((Int.toNat (IntKind.wrap .i64 (i_11 + (7 : Int)))) - (Int.toNat i_11)) xs_m_0_0 (3 : Int) (23 : Int) ([(120 : Int)] : List Int) (0 : Int) (fun (xs3 : List Int) => (bif ((([(73 : Int), (199 : Int), (IntKind.wrap .u8 ((192 : Int) + (IntKind.wrap .u8 (ibits .and .i64 i_49 (7 : Int))))), (0 : Int), (0 : Int), (0 : Int), (0 : Int)] : List Int) == ([(73 : Int), (199 : Int), (IntKind.wrap .u8 ((192 : Int) + (IntKind.wrap .u8 (ibits .and .i64 i_49 (7 : Int))))), (0 : Int), (0 : Int), (0 : Int), (0 : Int)] : List Int)) && true) then (bif (xs3 == ([(73 : Int), (199 : Int), (IntKind.wrap .u8 ((192 : Int) + (IntKind.wrap .u8 (ibits .and .i64 i_49 (7 : Int))))), (0 : Int), (0 : Int), (0 : Int), (0 : Int)] : List Int)) then (k2 i_49) else (rec (IntKind.wrap .i64 (i_49 + (1 : Int))))) else False))) else False)))) else (bif (decide (i_1 < (0 : Int))) then (k1) else (bif (decide (i_11 < (0 : Int))) then (k1) else (bif (decide (i_11 > (IntKind.wrap .i64 (((((List.length xs_m_0_0) - (0 : Nat)) : Nat) : Int) - (7 : Int))))) then (k1) else (bif ((decide ((0 : Int) ≤ (IntKind.wrap .i64 (i_11 + (7 : Int))))) && ((decide ((Int.toNat (IntKind.wrap .i64 (i_11 + (7 : Int)))) ≤ ((List.length xs_m_0_0) - (0 : Nat)))) && ((decide ((0 : Int) ≤ i_11)) && (decide (i_11 ≤ (IntKind.wrap .i64 (i_11 + (7 : Int)))))))) then (f70_1 (Int.toNat i_11) ((Int.toNat (IntKind.wrap .i64 (i_11 + (7 : Int)))) - (Int.toNat i_11)) xs_m_0_0 (3 : Int) (23 : Int) ([(120 : Int)] : List Int) (0 : Int) (fun (xs4 : List Int) => (bif ((([(72 : Int), (199 : Int), (IntKind.wrap .u8 ((192 : Int) + (IntKind.wrap .u8 (ibits .and .i64 i_49 (7 : Int))))), (0 : Int), (0 : Int), (0 : Int), (0 : Int)] : List Int) == ([(72 : Int), (199 : Int), (IntKind.wrap .u8 ((192 : Int) + (IntKind.wrap .u8 (ibits .and .i64 i_49 (7 : Int))))), (0 : Int), (0 : Int), (0 : Int), (0 : Int)] : List Int)) && true) then (bif (xs4 == ([(72 : Int), (199 : Int), (IntKind.wrap .u8 ((192 : Int) + (IntKind.wrap .u8 (ibits .and .i64 i_49 (7 : Int))))), (0 : Int), (0 : Int), (0 : Int), (0 : Int)] : List Int)) then (k2 i_49) else (rec (IntKind.wrap .i64 (i_49 + (1 : Int))))) else False))) else False))))) else (k3))
def RL45_10e (f70_1 : Y70_1) : Nat → Int → Int → Int → Int → List Int → List Int → (Prop) → (Int → Prop) → (Prop) → Prop
  | 0, _, _, _, _, _, _, _, _, _ => False
  | n + 1, i_1, i_2, i_11, i_49, xs_m_0_0, xs_m_5_0, k1, k2, k3 => HL45_10e f70_1 (fun (i_49 : Int) => RL45_10e f70_1 n i_1 i_2 i_11 i_49 xs_m_0_0 xs_m_5_0 k1 k2 k3) i_1 i_2 i_11 i_49 xs_m_0_0 xs_m_5_0 k1 k2 k3
noncomputable def XL45_10e : Code := sub [true, true, false, true, false, false, true, true, false, false, true, true, true, true, true, false, false] (bodyOf Try.prog 45)
theorem HL45_10e_ok (f70_1 : Y70_1) (n : Nat) (i_1 : Int) (i_2 : Int) (i_11 : Int) (i_49 : Int) (xs_m_0_0 : List Int) (xs_m_5_0 : List Int) (K : Ex → Env → Mem → Prop) : cround 1 [0, 1, 2, 6, 8, 9, 10, 11, 27, 28, 49] [0, 1, 2, 6, 7, 27, 28] (fun ρ m K => cexec Try.prog (T70_1 f70_1 C0) (fun _ => none) 1 1000 XL45_10e ρ m K) (n + 1) (selE 93 [(0, (.sl 0 (0 : Nat) (none : Option Nat) (none : Option Nat))), (1, (.I .i64 i_1)), (2, (.I .i64 i_2)), (6, (.ptr 1 (0 : Nat) 0)), (8, (.I .i64 (4 : Int))), (9, (.ptr 2 (0 : Nat) 0)), (10, (.sl 3 (0 : Nat) (none : Option Nat) (none : Option Nat))), (11, (.I .i64 i_11)), (27, (.agg [(.I .i64 (0 : Int)), .nilf, .nilf, .nilf, (.I .i64 (19 : Int)), (.fn (.func 59) [] []), (.fn (.func 60) [] []), (.fn (.func 61) [] [(.ptr 4 (0 : Nat) 0)]), (.I .i64 (20 : Int)), (.fn (.func 62) [] []), (.fn (.func 63) [] []), (.fn (.func 64) [] [(.ptr 4 (0 : Nat) 0)]), (.I .i64 (22 : Int)), (.fn (.func 65) [] []), (.fn (.func 66) [] []), (.fn (.func 67) [] []), (.I .i64 (23 : Int)), (.fn (.func 68) [] []), (.fn (.func 69) [] []), (.fn (.func 67) [] [])])), (28, (.I .i64 (4 : Int))), (49, (.I .i64 i_49))]) [⟨[.ints .u8 xs_m_0_0], 5, false, false⟩, ⟨[.ints .i64 ([(0 : Int)] : List Int), .ints .i64 ([(0 : Int)] : List Int), .ints .i64 ([(0 : Int)] : List Int), .ints .i64 ([(0 : Int)] : List Int)], 88, false, true⟩, ⟨[.ints .i64 ([(23 : Int)] : List Int), .vals [(.fn (.func 68) [] [])], .vals [(.fn (.func 69) [] [])], .vals [(.fn (.func 67) [] [])]], 83, false, true⟩, ⟨[.ints .i64 ([(3 : Int)] : List Int), .ints .i64 ([(4 : Int)] : List Int), .ints .i64 ([(23 : Int)] : List Int), .strs ([([(120 : Int)] : List Int)] : List (List Int)), .ints .i64 ([(0 : Int)] : List Int)], 32, false, true⟩, ⟨[.vals [(.sl 5 (0 : Nat) (none : Option Nat) (none : Option Nat))]], 22, false, true⟩, ⟨[.ints .u8 xs_m_5_0], 5, false, true⟩] K =
    HL45_10e f70_1 (fun (i_49 : Int) => cround 1 [0, 1, 2, 6, 8, 9, 10, 11, 27, 28, 49] [0, 1, 2, 6, 7, 27, 28] (fun ρ m K => cexec Try.prog (T70_1 f70_1 C0) (fun _ => none) 1 1000 XL45_10e ρ m K) n (selE 93 [(0, (.sl 0 (0 : Nat) (none : Option Nat) (none : Option Nat))), (1, (.I .i64 i_1)), (2, (.I .i64 i_2)), (6, (.ptr 1 (0 : Nat) 0)), (8, (.I .i64 (4 : Int))), (9, (.ptr 2 (0 : Nat) 0)), (10, (.sl 3 (0 : Nat) (none : Option Nat) (none : Option Nat))), (11, (.I .i64 i_11)), (27, (.agg [(.I .i64 (0 : Int)), .nilf, .nilf, .nilf, (.I .i64 (19 : Int)), (.fn (.func 59) [] []), (.fn (.func 60) [] []), (.fn (.func 61) [] [(.ptr 4 (0 : Nat) 0)]), (.I .i64 (20 : Int)), (.fn (.func 62) [] []), (.fn (.func 63) [] []), (.fn (.func 64) [] [(.ptr 4 (0 : Nat) 0)]), (.I .i64 (22 : Int)), (.fn (.func 65) [] []), (.fn (.func 66) [] []), (.fn (.func 67) [] []), (.I .i64 (23 : Int)), (.fn (.func 68) [] []), (.fn (.func 69) [] []), (.fn (.func 67) [] [])])), (28, (.I .i64 (4 : Int))), (49, (.I .i64 i_49))]) [⟨[.ints .u8 xs_m_0_0], 5, false, false⟩, ⟨[.ints .i64 ([(0 : Int)] : List Int), .ints .i64 ([(0 : Int)] : List Int), .ints .i64 ([(0 : Int)] : List Int), .ints .i64 ([(0 : Int)] : List Int)], 88, false, true⟩, ⟨[.ints .i64 ([(23 : Int)] : List Int), .vals [(.fn (.func 68) [] [])], .vals [(.fn (.func 69) [] [])], .vals [(.fn (.func 67) [] [])]], 83, false, true⟩, ⟨[.ints .i64 ([(3 : Int)] : List Int), .ints .i64 ([(4 : Int)] : List Int), .ints .i64 ([(23 : Int)] : List Int), .strs ([([(120 : Int)] : List Int)] : List (List Int)), .ints .i64 ([(0 : Int)] : List Int)], 32, false, true⟩, ⟨[.vals [(.sl 5 (0 : Nat) (none : Option Nat) (none : Option Nat))]], 22, false, true⟩, ⟨[.ints .u8 xs_m_5_0], 5, false, true⟩] K) i_1 i_2 i_11 i_49 xs_m_0_0 xs_m_5_0 (K .ret (selE 93 [(0, (.sl 0 (0 : Nat) (none : Option Nat) (none : Option Nat))), (1, (.I .i64 i_1)), (2, (.I .i64 i_2)), (6, (.ptr 1 (0 : Nat) 0)), (7, (.B false)), (27, (.agg [(.I .i64 (0 : Int)), .nilf, .nilf, .nilf, (.I .i64 (19 : Int)), (.fn (.func 59) [] []), (.fn (.func 60) [] []), (.fn (.func 61) [] [(.ptr 2 (0 : Nat) 0)]), (.I .i64 (20 : Int)), (.fn (.func 62) [] []), (.fn (.func 63) [] []), (.fn (.func 64) [] [(.ptr 2 (0 : Nat) 0)]), (.I .i64 (22 : Int)), (.fn (.func 65) [] []), (.fn (.func 66) [] []), (.fn (.func 67) [] []), (.I .i64 (23 : Int)), (.fn (.func 68) [] []), (.fn (.func 69) [] []), (.fn (.func 67) [] [])])), (28, (.I .i64 (4 : Int)))]) [⟨[.ints .u8 xs_m_0_0], 5, false, false⟩, ⟨[.ints .i64 ([(0 : Int)] : List Int), .ints .i64 ([(0 : Int)] : List Int), .ints .i64 ([(0 : Int)] : List Int), .ints .i64 ([(0 : Int)] : List Int)], 88, false, true⟩, ⟨[.vals [(.sl 3 (0 : Nat) (none : Option Nat) (none : Option Nat))]], 22, false, true⟩, ⟨[.ints .u8 xs_m_5_0], 5, false, true⟩]) (fun (u0 : Int) => K .ret (selE 93 [(0, (.sl 0 (0 : Nat) (none : Option Nat) (none : Option Nat))), (1, (.I .i64 i_1)), (2, (.I .i64 i_2)), (6, (.ptr 1 (0 : Nat) 0)), (7, (.B true)), (27, (.agg [(.I .i64 (0 : Int)), .nilf, .nilf, .nilf, (.I .i64 (19 : Int)), (.fn (.func 59) [] []), (.fn (.func 60) [] []), (.fn (.func 61) [] [(.ptr 2 (0 : Nat) 0)]), (.I .i64 (20 : Int)), (.fn (.func 62) [] []), (.fn (.func 63) [] []), (.fn (.func 64) [] [(.ptr 2 (0 : Nat) 0)]), (.I .i64 (22 : Int)), (.fn (.func 65) [] []), (.fn (.func 66) [] []), (.fn (.func 67) [] []), (.I .i64 (23 : Int)), (.fn (.func 68) [] []), (.fn (.func 69) [] []), (.fn (.func 67) [] [])])), (28, (.I .i64 (4 : Int)))]) [⟨[.ints .u8 xs_m_0_0], 5, false, false⟩, ⟨[.ints .i64 ([(4 : Int)] : List Int), .ints .i64 ([i_11] : List Int), .ints .i64 ([(7 : Int)] : List Int), .ints .i64 ([u0] : List Int)], 88, false, true⟩, ⟨[.vals [(.sl 3 (0 : Nat) (none : Option Nat) (none : Option Nat))]], 22, false, true⟩, ⟨[.ints .u8 xs_m_5_0], 5, false, true⟩]) (K (.exit 2) (selE 93 [(0, (.sl 0 (0 : Nat) (none : Option Nat) (none : Option Nat))), (1, (.I .i64 i_1)), (2, (.I .i64 i_2)), (6, (.ptr 1 (0 : Nat) 0)), (7, .undef), (27, (.agg [(.I .i64 (0 : Int)), .nilf, .nilf, .nilf, (.I .i64 (19 : Int)), (.fn (.func 59) [] []), (.fn (.func 60) [] []), (.fn (.func 61) [] [(.ptr 2 (0 : Nat) 0)]), (.I .i64 (20 : Int)), (.fn (.func 62) [] []), (.fn (.func 63) [] []), (.fn (.func 64) [] [(.ptr 2 (0 : Nat) 0)]), (.I .i64 (22 : Int)), (.fn (.func 65) [] []), (.fn (.func 66) [] []), (.fn (.func 67) [] []), (.I .i64 (23 : Int)), (.fn (.func 68) [] []), (.fn (.func 69) [] []), (.fn (.func 67) [] [])])), (28, (.I .i64 (4 : Int)))]) [⟨[.ints .u8 xs_m_0_0], 5, false, false⟩, ⟨[.ints .i64 ([(0 : Int)] : List Int), .ints .i64 ([(0 : Int)] : List Int), .ints .i64 ([(0 : Int)] : List Int), .ints .i64 ([(0 : Int)] : List Int)], 88, false, true⟩, ⟨[.vals [(.sl 3 (0 : Nat) (none : Option Nat) (none : Option Nat))]], 22, false, true⟩, ⟨[.ints .u8 xs_m_5_0], 5, false, true⟩]) := by kernel_rfl
theorem RL45_10e_ok (f70_1 : Y70_1) (K : Ex → Env → Mem → Prop) : ∀ (n : Nat) (i_1 : Int) (i_2 : Int) (i_11 : Int) (i_49 : Int) (xs_m_0_0 : List Int) (xs_m_5_0 : List Int), cround 1 [0, 1, 2, 6, 8, 9, 10, 11, 27, 28, 49] [0, 1, 2, 6, 7, 27, 28] (fun ρ m K => cexec Try.prog (T70_1 f70_1 C0) (fun _ => none) 1 1000 XL45_10e ρ m K) n (selE 93 [(0, (.sl 0 (0 : Nat) (none : Option Nat) (none : Option Nat))), (1, (.I .i64 i_1)), (2, (.I .i64 i_2)), (6, (.ptr 1 (0 : Nat) 0)), (8, (.I .i64 (4 : Int))), (9, (.ptr 2 (0 : Nat) 0)), (10, (.sl 3 (0 : Nat) (none : Option Nat) (none : Option Nat))), (11, (.I .i64 i_11)), (27, (.agg [(.I .i64 (0 : Int)), .nilf, .nilf, .nilf, (.I .i64 (19 : Int)), (.fn (.func 59) [] []), (.fn (.func 60) [] []), (.fn (.func 61) [] [(.ptr 4 (0 : Nat) 0)]), (.I .i64 (20 : Int)), (.fn (.func 62) [] []), (.fn (.func 63) [] []), (.fn (.func 64) [] [(.ptr 4 (0 : Nat) 0)]), (.I .i64 (22 : Int)), (.fn (.func 65) [] []), (.fn (.func 66) [] []), (.fn (.func 67) [] []), (.I .i64 (23 : Int)), (.fn (.func 68) [] []), (.fn (.func 69) [] []), (.fn (.func 67) [] [])])), (28, (.I .i64 (4 : Int))), (49, (.I .i64 i_49))]) [⟨[.ints .u8 xs_m_0_0], 5, false, false⟩, ⟨[.ints .i64 ([(0 : Int)] : List Int), .ints .i64 ([(0 : Int)] : List Int), .ints .i64 ([(0 : Int)] : List Int), .ints .i64 ([(0 : Int)] : List Int)], 88, false, true⟩, ⟨[.ints .i64 ([(23 : Int)] : List Int), .vals [(.fn (.func 68) [] [])], .vals [(.fn (.func 69) [] [])], .vals [(.fn (.func 67) [] [])]], 83, false, true⟩, ⟨[.ints .i64 ([(3 : Int)] : List Int), .ints .i64 ([(4 : Int)] : List Int), .ints .i64 ([(23 : Int)] : List Int), .strs ([([(120 : Int)] : List Int)] : List (List Int)), .ints .i64 ([(0 : Int)] : List Int)], 32, false, true⟩, ⟨[.vals [(.sl 5 (0 : Nat) (none : Option Nat) (none : Option Nat))]], 22, false, true⟩, ⟨[.ints .u8 xs_m_5_0], 5, false, true⟩] K = RL45_10e f70_1 n i_1 i_2 i_11 i_49 xs_m_0_0 xs_m_5_0 (K .ret (selE 93 [(0, (.sl 0 (0 : Nat) (none : Option Nat) (none : Option Nat))), (1, (.I .i64 i_1)), (2, (.I .i64 i_2)), (6, (.ptr 1 (0 : Nat) 0)), (7, (.B false)), (27, (.agg [(.I .i64 (0 : Int)), .nilf, .nilf, .nilf, (.I .i64 (19 : Int)), (.fn (.func 59) [] []), (.fn (.func 60) [] []), (.fn (.func 61) [] [(.ptr 2 (0 : Nat) 0)]), (.I .i64 (20 : Int)), (.fn (.func 62) [] []), (.fn (.func 63) [] []), (.fn (.func 64) [] [(.ptr 2 (0 : Nat) 0)]), (.I .i64 (22 : Int)), (.fn (.func 65) [] []), (.fn (.func 66) [] []), (.fn (.func 67) [] []), (.I .i64 (23 : Int)), (.fn (.func 68) [] []), (.fn (.func 69) [] []), (.fn (.func 67) [] [])])), (28, (.I .i64 (4 : Int)))]) [⟨[.ints .u8 xs_m_0_0], 5, false, false⟩, ⟨[.ints .i64 ([(0 : Int)] : List Int), .ints .i64 ([(0 : Int)] : List Int), .ints .i64 ([(0 : Int)] : List Int), .ints .i64 ([(0 : Int)] : List Int)], 88, false, true⟩, ⟨[.vals [(.sl 3 (0 : Nat) (none : Option Nat) (none : Option Nat))]], 22, false, true⟩, ⟨[.ints .u8 xs_m_5_0], 5, false, true⟩]) (fun (u0 : Int) => K .ret (selE 93 [(0, (.sl 0 (0 : Nat) (none : Option Nat) (none : Option Nat))), (1, (.I .i64 i_1)), (2, (.I .i64 i_2)), (6, (.ptr 1 (0 : Nat) 0)), (7, (.B true)), (27, (.agg [(.I .i64 (0 : Int)), .nilf, .nilf, .nilf, (.I .i64 (19 : Int)), (.fn (.func 59) [] []), (.fn (.func 60) [] []), (.fn (.func 61) [] [(.ptr 2 (0 : Nat) 0)]), (.I .i64 (20 : Int)), (.fn (.func 62) [] []), (.fn (.func 63) [] []), (.fn (.func 64) [] [(.ptr 2 (0 : Nat) 0)]), (.I .i64 (22 : Int)), (.fn (.func 65) [] []), (.fn (.func 66) [] []), (.fn (.func 67) [] []), (.I .i64 (23 : Int)), (.fn (.func 68) [] []), (.fn (.func 69) [] []), (.fn (.func 67) [] [])])), (28, (.I .i64 (4 : Int)))]) [⟨[.ints .u8 xs_m_0_0], 5, false, false⟩, ⟨[.ints .i64 ([(4 : Int)] : List Int), .ints .i64 ([i_11] : List Int), .ints .i64 ([(7 : Int)] : List Int), .ints .i64 ([u0] : List Int)], 88, false, true⟩, ⟨[.vals [(.sl 3 (0 : Nat) (none : Option Nat) (none : Option Nat))]], 22, false, true⟩, ⟨[.ints .u8 xs_m_5_0], 5, false, true⟩]) (K (.exit 2) (selE 93 [(0, (.sl 0 (0 : Nat) (none : Option Nat) (none : Option Nat))), (1, (.I .i64 i_1)), (2, (.I .i64 i_2)), (6, (.ptr 1 (0 : Nat) 0)), (7, .undef), (27, (.agg [(.I .i64 (0 : Int)), .nilf, .nilf, .nilf, (.I .i64 (19 : Int)), (.fn (.func 59) [] []), (.fn (.func 60) [] []), (.fn (.func 61) [] [(.ptr 2 (0 : Nat) 0)]), (.I .i64 (20 : Int)), (.fn (.func 62) [] []), (.fn (.func 63) [] []), (.fn (.func 64) [] [(.ptr 2 (0 : Nat) 0)]), (.I .i64 (22 : Int)), (.fn (.func 65) [] []), (.fn (.func 66) [] []), (.fn (.func 67) [] []), (.I .i64 (23 : Int)), (.fn (.func 68) [] []), (.fn (.func 69) [] []), (.fn (.func 67) [] [])])), (28, (.I .i64 (4 : Int)))]) [⟨[.ints .u8 xs_m_0_0], 5, false, false⟩, ⟨[.ints .i64 ([(0 : Int)] : List Int), .ints .i64 ([(0 : Int)] : List Int), .ints .i64 ([(0 : Int)] : List Int), .ints .i64 ([(0 : Int)] : List Int)], 88, false, true⟩, ⟨[.vals [(.sl 3 (0 : Nat) (none : Option Nat) (none : Option Nat))]], 22, false, true⟩, ⟨[.ints .u8 xs_m_5_0], 5, false, true⟩])
  | 0, i_1, i_2, i_11, i_49, xs_m_0_0, xs_m_5_0 => rfl
  | n + 1, i_1, i_2, i_11, i_49, xs_m_0_0, xs_m_5_0 => by
    have ih := RL45_10e_ok f70_1 K n
    rw [HL45_10e_ok f70_1 n i_1 i_2 i_11 i_49 xs_m_0_0 xs_m_5_0 K]
    show HL45_10e f70_1 _ i_1 i_2 i_11 i_49 xs_m_0_0 xs_m_5_0 (K .ret (selE 93 [(0, (.sl 0 (0 : Nat) (none : Option Nat) (none : Option Nat))), (1, (.I .i64 i_1)), (2, (.I .i64 i_2)), (6, (.ptr 1 (0 : Nat) 0)), (7, (.B false)), (27, (.agg [(.I .i64 (0 : Int)), .nilf, .nilf, .nilf, (.I .i64 (19 : Int)), (.fn (.func 59) [] []), (.fn (.func 60) [] []), (.fn (.func 61) [] [(.ptr 2 (0 : Nat) 0)]), (.I .i64 (20 : Int)), (.fn (.func 62) [] []), (.fn (.func 63) [] []), (.fn (.func 64) [] [(.ptr 2 (0 : Nat) 0)]), (.I .i64 (22 : Int)), (.fn (.func 65) [] []), (.fn (.func 66) [] []), (.fn (.func 67) [] []), (.I .i64 (23 : Int)), (.fn (.func 68) [] []), (.fn (.func 69) [] []), (.fn (.func 67) [] [])])), (28, (.I .i64 (4 : Int)))]) [⟨[.ints .u8 xs_m_0_0], 5, false, false⟩, ⟨[.ints .i64 ([(0 : Int)] : List Int), .ints .i64 ([(0 : Int)] : List Int), .ints .i64 ([(0 : Int)] : List Int), .ints .i64 ([(0 : Int)] : List Int)], 88, false, true⟩, ⟨[.vals [(.sl 3 (0 : Nat) (none : Option Nat) (none : Option Nat))]], 22, false, true⟩, ⟨[.ints .u8 xs_m_5_0], 5, false, true⟩]) (fun (u0 : Int) => K .ret (selE 93 [(0, (.sl 0 (0 : Nat) (none : Option Nat) (none : Option Nat))), (1, (.I .i64 i_1)), (2, (.I .i64 i_2)), (6, (.ptr 1 (0 : Nat) 0)), (7, (.B true)), (27, (.agg [(.I .i64 (0 : Int)), .nilf, .nilf, .nilf, (.I .i64 (19 : Int)), (.fn (.func 59) [] []), (.fn (.func 60) [] []), (.fn (.func 61) [] [(.ptr 2 (0 : Nat) 0)]), (.I .i64 (20 : Int)), (.fn (.func 62) [] []), (.fn (.func 63) [] []), (.fn (.func 64) [] [(.ptr 2 (0 : Nat) 0)]), (.I .i64 (22 : Int)), (.fn (.func 65) [] []), (.fn (.func 66) [] []), (.fn (.func 67) [] []), (.I .i64 (23 : Int)), (.fn (.func 68) [] []), (.fn (.func 69) [] []), (.fn (.func 67) [] [])])), (28, (.I .i64 (4 : Int)))]) [⟨[.ints .u8 xs_m_0_0], 5, false, false⟩, ⟨[.ints .i64 ([(4 : Int)] : List Int), .ints .i64 ([i_11] : List Int), .ints .i64 ([(7 : Int)] : List Int), .ints .i64 ([u0] : List Int)], 88, false, true⟩, ⟨[.vals [(.sl 3 (0 : Nat) (none : Option Nat) (none : Option Nat))]], 22, false, true⟩, ⟨[.ints .u8 xs_m_5_0], 5, false, true⟩]) (K (.exit 2) (selE 93 [(0, (.sl 0 (0 : Nat) (none : Option Nat) (none : Option Nat))), (1, (.I .i64 i_1)), (2, (.I .i64 i_2)), (6, (.ptr 1 (0 : Nat) 0)), (7, .undef), (27, (.agg [(.I .i64 (0 : Int)), .nilf, .nilf, .nilf, (.I .i64 (19 : Int)), (.fn (.func 59) [] []), (.fn (.func 60) [] []), (.fn (.func 61) [] [(.ptr 2 (0 : Nat) 0)]), (.I .i64 (20 : Int)), (.fn (.func 62) [] []), (.fn (.func 63) [] []), (.fn (.func 64) [] [(.ptr 2 (0 : Nat) 0)]), (.I .i64 (22 : Int)), (.fn (.func 65) [] []), (.fn (.func 66) [] []), (.fn (.func 67) [] []), (.I .i64 (23 : Int)), (.fn (.func 68) [] []), (.fn (.func 69) [] []), (.fn (.func 67) [] [])])), (28, (.I .i64 (4 : Int)))]) [⟨[.ints .u8 xs_m_0_0], 5, false, false⟩, ⟨[.ints .i64 ([(0 : Int)] : List Int), .ints .i64 ([(0 : Int)] : List Int), .ints .i64 ([(0 : Int)] : List Int), .ints .i64 ([(0 : Int)] : List Int)], 88, false, true⟩, ⟨[.vals [(.sl 3 (0 : Nat) (none : Option Nat) (none : Option Nat))]], 22, false, true⟩, ⟨[.ints .u8 xs_m_5_0], 5, false, true⟩]) = HL45_10e f70_1 _ i_1 i_2 i_11 i_49 xs_m_0_0 xs_m_5_0 (K .ret (selE 93 [(0, (.sl 0 (0 : Nat) (none : Option Nat) (none : Option Nat))), (1, (.I .i64 i_1)), (2, (.I .i64 i_2)), (6, (.ptr 1 (0 : Nat) 0)), (7, (.B false)), (27, (.agg [(.I .i64 (0 : Int)), .nilf, .nilf, .nilf, (.I .i64 (19 : Int)), (.fn (.func 59) [] []), (.fn (.func 60) [] []), (.fn (.func 61) [] [(.ptr 2 (0 : Nat) 0)]), (.I .i64 (20 : Int)), (.fn (.func 62) [] []), (.fn (.func 63) [] []), (.fn (.func 64) [] [(.ptr 2 (0 : Nat) 0)]), (.I .i64 (22 : Int)), (.fn (.func 65) [] []), (.fn (.func 66) [] []), (.fn (.func 67) [] []), (.I .i64 (23 : Int)), (.fn (.func 68) [] []), (.fn (.func 69) [] []), (.fn (.func 67) [] [])])), (28, (.I .i64 (4 : Int)))]) [⟨[.ints .u8 xs_m_0_0], 5, false, false⟩, ⟨[.ints .i64 ([(0 : Int)] : List Int), .ints .i64 ([(0 : Int)] : List Int), .ints .i64 ([(0 : Int)] : List Int), .ints .i64 ([(0 : Int)] : List Int)], 88, false, true⟩, ⟨[.vals [(.sl 3 (0 : Nat) (none : Option Nat) (none : Option Nat))]], 22, false, true⟩, ⟨[.ints .u8 xs_m_5_0], 5, false, true⟩]) (fun (u0 : Int) => K .ret (selE 93 [(0, (.sl 0 (0 : Nat) (none : Option Nat) (none : Option Nat))), (1, (.I .i64 i_1)), (2, (.I .i64 i_2)), (6, (.ptr 1 (0 : Nat) 0)), (7, (.B true)), (27, (.agg [(.I .i64 (0 : Int)), .nilf, .nilf, .nilf, (.I .i64 (19 : Int)), (.fn (.func 59) [] []), (.fn (.func 60) [] []), (.fn (.func 61) [] [(.ptr 2 (0 : Nat) 0)]), (.I .i64 (20 : Int)), (.fn (.func 62) [] []), (.fn (.func 63) [] []), (.fn (.func 64) [] [(.ptr 2 (0 : Nat) 0)]), (.I .i64 (22 : Int)), (.fn (.func 65) [] []), (.fn (.func 66) [] []), (.fn (.func 67) [] []), (.I .i64 (23 : Int)), (.fn (.func 68) [] []), (.fn (.func 69) [] []), (.fn (.func 67) [] [])])), (28, (.I .i64 (4 : Int)))]) [⟨[.ints .u8 xs_m_0_0], 5, false, false⟩, ⟨[.ints .i64 ([(4 : Int)] : List Int), .ints .i64 ([i_11] : List Int), .ints .i64 ([(7 : Int)] : List Int), .ints .i64 ([u0] : List Int)], 88, false, true⟩, ⟨[.vals [(.sl 3 (0 : Nat) (none : Option Nat) (none : Option Nat))]], 22, false, true⟩, ⟨[.ints .u8 xs_m_5_0], 5, false, true⟩]) (K (.exit 2) (selE 93 [(0, (.sl 0 (0 : Nat) (none : Option Nat) (none : Option Nat))), (1, (.I .i64 i_1)), (2, (.I .i64 i_2)), (6, (.ptr 1 (0 : Nat) 0)), (7, .undef), (27, (.agg [(.I .i64 (0 : Int)), .nilf, .nilf, .nilf, (.I .i64 (19 : Int)), (.fn (.func 59) [] []), (.fn (.func 60) [] []), (.fn (.func 61) [] [(.ptr 2 (0 : Nat) 0)]), (.I .i64 (20 : Int)), (.fn (.func 62) [] []), (.fn (.func 63) [] []), (.fn (.func 64) [] [(.ptr 2 (0 : Nat) 0)]), (.I .i64 (22 : Int)), (.fn (.func 65) [] []), (.fn (.func 66) [] []), (.fn (.func 67) [] []), (.I .i64 (23 : Int)), (.fn (.func 68) [] []), (.fn (.func 69) [] []), (.fn (.func 67) [] [])])), (28, (.I .i64 (4 : Int)))]) [⟨[.ints .u8 xs_m_0_0], 5, false, false⟩, ⟨[.ints .i64 ([(0 : Int)] : List Int), .ints .i64 ([(0 : Int)] : List Int), .ints .i64 ([(0 : Int)] : List Int), .ints .i64 ([(0 : Int)] : List Int)], 88, false, true⟩, ⟨[.vals [(.sl 3 (0 : Nat) (none : Option Nat) (none : Option Nat))]], 22, false, true⟩, ⟨[.ints .u8 xs_m_5_0], 5, false, true⟩])
    refine congrArg (fun r => HL45_10e f70_1 r i_1 i_2 i_11 i_49 xs_m_0_0 xs_m_5_0 (K .ret (selE 93 [(0, (.sl 0 (0 : Nat) (none : Option Nat) (none : Option Nat))), (1, (.I .i64 i_1)), (2, (.I .i64 i_2)), (6, (.ptr 1 (0 : Nat) 0)), (7, (.B false)), (27, (.agg [(.I .i64 (0 : Int)), .nilf, .nilf, .nilf, (.I .i64 (19 : Int)), (.fn (.func 59) [] []), (.fn (.func 60) [] []), (.fn (.func 61) [] [(.ptr 2 (0 : Nat) 0)]), (.I .i64 (20 : Int)), (.fn (.func 62) [] []), (.fn (.func 63) [] []), (.fn (.func 64) [] [(.ptr 2 (0 : Nat) 0)]), (.I .i64 (22 : Int)), (.fn (.func 65) [] []), (.fn (.func 66) [] []), (.fn (.func 67) [] []), (.I .i64 (23 : Int)), (.fn (.func 68) [] []), (.fn (.func 69) [] []), (.fn (.func 67) [] [])])), (28, (.I .i64 (4 : Int)))]) [⟨[.ints .u8 xs_m_0_0], 5, false, false⟩, ⟨[.ints .i64 ([(0 : Int)] : List Int), .ints .i64 ([(0 : Int)] : List Int), .ints .i64 ([(0 : Int)] : List Int), .ints .i64 ([(0 : Int)] : List Int)], 88, false, true⟩, ⟨[.vals [(.sl 3 (0 : Nat) (none : Option Nat) (none : Option Nat))]], 22, false, true⟩, ⟨[.ints .u8 xs_m_5_0], 5, false, true⟩]) (fun (u0 : Int) => K .ret (selE 93 [(0, (.sl 0 (0 : Nat) (none : Option Nat) (none : Option Nat))), (1, (.I .i64 i_1)), (2, (.I .i64 i_2)), (6, (.ptr 1 (0 : Nat) 0)), (7, (.B true)), (27, (.agg [(.I .i64 (0 : Int)), .nilf, .nilf, .nilf, (.I .i64 (19 : Int)), (.fn (.func 59) [] []), (.fn (.func 60) [] []), (.fn (.func 61) [] [(.ptr 2 (0 : Nat) 0)]), (.I .i64 (20 : Int)), (.fn (.func 62) [] []), (.fn (.func 63) [] []), (.fn (.func 64) [] [(.ptr 2 (0 : Nat) 0)]), (.I .i64 (22 : Int)), (.fn (.func 65) [] []), (.fn (.func 66) [] []), (.fn (.func 67) [] []), (.I .i64 (23 : Int)), (.fn (.func 68) [] []), (.fn (.func 69) [] []), (.fn (.func 67) [] [])])), (28, (.I .i64 (4 : Int)))]) [⟨[.ints .u8 xs_m_0_0], 5, false, false⟩, ⟨[.ints .i64 ([(4 : Int)] : List Int), .ints .i64 ([i_11] : List Int), .ints .i64 ([(7 : Int)] : List Int), .ints .i64 ([u0] : List Int)], 88, false, true⟩, ⟨[.vals [(.sl 3 (0 : Nat) (none : Option Nat) (none : Option Nat))]], 22, false, true⟩, ⟨[.ints .u8 xs_m_5_0], 5, false, true⟩]) (K (.exit 2) (selE 93 [(0, (.sl 0 (0 : Nat) (none : Option Nat) (none : Option Nat))), (1, (.I .i64 i_1)), (2, (.I .i64 i_2)), (6, (.ptr 1 (0 : Nat) 0)), (7, .undef), (27, (.agg [(.I .i64 (0 : Int)), .nilf, .nilf, .nilf, (.I .i64 (19 : Int)), (.fn (.func 59) [] []), (.fn (.func 60) [] []), (.fn (.func 61) [] [(.ptr 2 (0 : Nat) 0)]), (.I .i64 (20 : Int)), (.fn (.func 62) [] []), (.fn (.func 63) [] []), (.fn (.func 64) [] [(.ptr 2 (0 : Nat) 0)]), (.I .i64 (22 : Int)), (.fn (.func 65) [] []), (.fn (.func 66) [] []), (.fn (.func 67) [] []), (.I .i64 (23 : Int)), (.fn (.func 68) [] []), (.fn (.func 69) [] []), (.fn (.func 67) [] [])])), (28, (.I .i64 (4 : Int)))]) [⟨[.ints .u8 xs_m_0_0], 5, false, false⟩, ⟨[.ints .i64 ([(0 : Int)] : List Int), .ints .i64 ([(0 : Int)] : List Int), .ints .i64 ([(0 : Int)] : List Int), .ints .i64 ([(0 : Int)] : List Int)], 88, false, true⟩, ⟨[.vals [(.sl 3 (0 : Nat) (none : Option Nat) (none : Option Nat))]], 22, false, true⟩, ⟨[.ints .u8 xs_m_5_0], 5, false, true⟩])) ?_
    funext i_49
    exact ih i_1 i_2 i_11 i_49 xs_m_0_0 xs_m_5_0
def GL45_10e : YL45_10e := fun x i_1 i_2 i_11 i_49 xs_m_0_0 xs_m_5_0 k1 k2 k3 => x = XL45_10e ∧ ∃ n, RL45_10e G70_1 n i_1 i_2 i_11 i_49 xs_m_0_0 xs_m_5_0 k1 k2 k3
def VL45_10e (l : YL45_10e) (F : Prop) (x : Code) (ρ : Env) (m : Mem) (K : Ex → Env → Mem → Prop) : Prop :=
  match ρ.has (93 - 1) with
  | true => (seeV (.sl 0 (0 : Nat) (none : Option Nat) (none : Option Nat)) (ρ.get 0) F (seeI .i64 (ρ.get 1) F fun i_1 => (seeI .i64 (ρ.get 2) F fun i_2 => (seeV (.ptr 1 (0 : Nat) 0) (ρ.get 6) F (seeV (.I .i64 (4 : Int)) (ρ.get 8) F (seeV (.ptr 2 (0 : Nat) 0) (ρ.get 9) F (seeV (.sl 3 (0 : Nat) (none : Option Nat) (none : Option Nat)) (ρ.get 10) F (seeI .i64 (ρ.get 11) F fun i_11 => (seeV (.agg [(.I .i64 (0 : Int)), .nilf, .nilf, .nilf, (.I .i64 (19 : Int)), (.fn (.func 59) [] []), (.fn (.func 60) [] []), (.fn (.func 61) [] [(.ptr 4 (0 : Nat) 0)]), (.I .i64 (20 : Int)), (.fn (.func 62) [] []), (.fn (.func 63) [] []), (.fn (.func 64) [] [(.ptr 4 (0 : Nat) 0)]), (.I .i64 (22 : Int)), (.fn (.func 65) [] []), (.fn (.func 66) [] []), (.fn (.func 67) [] []), (.I .i64 (23 : Int)), (.fn (.func 68) [] []), (.fn (.func 69) [] []), (.fn (.func 67) [] [])]) (ρ.get 27) F (seeV (.I .i64 (4 : Int)) (ρ.get 28) F (seeI .i64 (ρ.get 49) F fun i_49 => (seeCons m F fun a12 q13 => (seeBlk 5 false false a12 F fun cs14 => (seeCons cs14 F fun a15 q16 => (seeInts .u8 a15 F fun xs_m_0_0 => (seeNil q16 F (seeCons q13 F fun a17 q18 => (seeBlk 88 false true a17 F fun cs19 => (seeCons cs19 F fun a20 q21 => (seeInts .i64 a20 F fun xs22 => (seeX ([(0 : Int)] : List Int) xs22 F (seeCons q21 F fun a23 q24 => (seeInts .i64 a23 F fun xs25 => (seeX ([(0 : Int)] : List Int) xs25 F (seeCons q24 F fun a26 q27 => (seeInts .i64 a26 F fun xs28 => (seeX ([(0 : Int)] : List Int) xs28 F (seeCons q27 F fun a29 q30 => (seeInts .i64 a29 F fun xs31 => (seeX ([(0 : Int)] : List Int) xs31 F (seeNil q30 F (seeCons q18 F fun a32 q33 => (seeBlk 83 false true a32 F fun cs34 => (seeCons cs34 F fun a35 q36 => (seeInts .i64 a35 F fun xs37 => (seeX ([(23 : Int)] : List Int) xs37 F (seeCons q36 F fun a38 q39 => (seeVals a38 F fun xs40 => (seeCons xs40 F fun a41 q42 => (seeV (.fn (.func 68) [] []) a41 F (seeNil q42 F (seeCons q39 F fun a43 q44 => (seeVals a43 F fun xs45 => (seeCons xs45 F fun a46 q47 => (seeV (.fn (.func 69) [] []) a46 F (seeNil q47 F (seeCons q44 F fun a48 q49 => (seeVals a48 F fun xs50 => (seeCons xs50 F fun a51 q52 => (seeV (.fn (.func 67) [] []) a51 F (seeNil q52 F (seeNil q49 F (seeCons q33 F fun a53 q54 => (seeBlk 32 false true a53 F fun cs55 => (seeCons cs55 F fun a56 q57 => (seeInts .i64 a56 F fun xs58 => (seeX ([(3 : Int)] : List Int) xs58 F (seeCons q57 F fun a59 q60 => (seeInts .i64 a59 F fun xs61 => (seeX ([(4 : Int)] : List Int) xs61 F (seeCons q60 F fun a62 q63 => (seeInts .i64 a62 F fun xs64 => (seeX ([(23 : Int)] : List Int) xs64 F (seeCons q63 F fun a65 q66 => (seeStrs a65 F fun xs67 => (seeCons xs67 F fun a68 q69 => (seeX ([(120 : Int)] : List Int) a68 F (seeNil q69 F (seeCons q66 F fun a70 q71 => (seeInts .i64 a70 F fun xs72 => (seeX ([(0 : Int)] : List Int) xs72 F (seeNil q71 F (seeCons q54 F fun a73 q74 => (seeBlk 22 false true a73 F fun cs75 => (seeCons cs75 F fun a76 q77 => (seeVals a76 F fun xs78 => (seeCons xs78 F fun a79 q80 => (seeV (.sl 5 (0 : Nat) (none : Option Nat) (none : Option Nat)) a79 F (seeNil q80 F (seeNil q77 F (seeCons q74 F fun a81 q82 => (seeBlk 5 false true a81 F fun cs83 => (seeCons cs83 F fun a84 q85 => (seeInts .u8 a84 F fun xs_m_5_0 => (seeNil q85 F (seeNil q82 F (l x i_1 i_2 i_11 i_49 xs_m_0_0 xs_m_5_0 (K .ret (selE 93 [(0, (.sl 0 (0 : Nat) (none : Option Nat) (none : Option Nat))), (1, (.I .i64 i_1)), (2, (.I .i64 i_2)), (6, (.ptr 1 (0 : Nat) 0)), (7, (.B false)), (27, (.agg [(.I .i64 (0 : Int)), .nilf, .nilf, .nilf, (.I .i64 (19 : Int)), (.fn (.func 59) [] []), (.fn (.func 60) [] []), (.fn (.func 61) [] [(.ptr 2 (0 : Nat) 0)]), (.I .i64 (20 : Int)), (.fn (.func 62) [] []), (.fn (.func 63) [] []), (.fn (.func 64) [] [(.ptr 2 (0 : Nat) 0)]), (.I .i64 (22 : Int)), (.fn (.func 65) [] []), (.fn (.func 66) [] []), (.fn (.func 67) [] []), (.I .i64 (23 : Int)), (.fn (.func 68) [] []), (.fn (.func 69) [] []), (.fn (.func 67) [] [])])), (28, (.I .i64 (4 : Int)))]) [⟨[.ints .u8 xs_m_0_0], 5, false, false⟩, ⟨[.ints .i64 ([(0 : Int)] : List Int), .ints .i64 ([(0 : Int)] : List Int), .ints .i64 ([(0 : Int)] : List Int), .ints .i64 ([(0 : Int)] : List Int)], 88, false, true⟩, ⟨[.vals [(.sl 3 (0 : Nat) (none : Option Nat) (none : Option Nat))]], 22, false, true⟩, ⟨[.ints .u8 xs_m_5_0], 5, false, true⟩]) (fun (u0 : Int) => K .ret (selE 93 [(0, (.sl 0 (0 : Nat) (none : Option Nat) (none : Option Nat))), (1, (.I .i64 i_1)), (2, (.I .i64 i_2)), (6, (.ptr 1 (0 : Nat) 0)), (7, (.B true)), (27, (.agg [(.I .i64 (0 : Int)), .nilf, .nilf, .nilf, (.I .i64 (19 : Int)), (.fn (.func 59) [] []), (.fn (.func 60) [] []), (.fn (.func 61) [] [(.ptr 2 (0 : Nat) 0)]), (.I .i64 (20 : Int)), (.fn (.func 62) [] []), (.fn (.func 63) [] []), (.fn (.func 64) [] [(.ptr 2 (0 : Nat) 0)]), (.I .i64 (22 : Int)), (.fn (.func 65) [] []), (.fn (.func 66) [] []), (.fn (.func 67) [] []), (.I .i64 (23 : Int)), (.fn (.func 68) [] []), (.fn (.func 69) [] []), (.fn (.func 67) [] [])])), (28, (.I .i64 (4 : Int)))]) [⟨[.ints .u8 xs_m_0_0], 5, false, false⟩, ⟨[.ints .i64 ([(4 : Int)] : List Int), .ints .i64 ([i_11] : List Int), .ints .i64 ([(7 : Int)] : List Int), .ints .i64 ([u0] : List Int)], 88, false, true⟩, ⟨[.vals [(.sl 3 (0 : Nat) (none : Option Nat) (none : Option Nat))]], 22, false, true⟩, ⟨[.ints .u8 xs_m_5_0], 5, false, true⟩]) (K (.exit 2) (selE 93 [(0, (.sl 0 (0 : Nat) (none : Option Nat) (none : Option Nat))), (1, (.I .i64 i_1)), (2, (.I .i64 i_2)), (6, (.ptr 1 (0 : Nat) 0)), (7, .undef), (27, (.agg [(.I .i64 (0 : Int)), .nilf, .nilf, .nilf, (.I .i64 (19 : Int)), (.fn (.func 59) [] []), (.fn (.func 60) [] []), (.fn (.func 61) [] [(.ptr 2 (0 : Nat) 0)]), (.I .i64 (20 : Int)), (.fn (.func 62) [] []), (.fn (.func 63) [] []), (.fn (.func 64) [] [(.ptr 2 (0 : Nat) 0)]), (.I .i64 (22 : Int)), (.fn (.func 65) [] []), (.fn (.func 66) [] []), (.fn (.func 67) [] []), (.I .i64 (23 : Int)), (.fn (.func 68) [] []), (.fn (.func 69) [] []), (.fn (.func 67) [] [])])), (28, (.I .i64 (4 : Int)))]) [⟨[.ints .u8 xs_m_0_0], 5, false, false⟩, ⟨[.ints .i64 ([(0 : Int)] : List Int), .ints .i64 ([(0 : Int)] : List Int), .ints .i64 ([(0 : Int)] : List Int), .ints .i64 ([(0 : Int)] : List Int)], 88, false, true⟩, ⟨[.vals [(.sl 3 (0 : Nat) (none : Option Nat) (none : Option Nat))]], 22, false, true⟩, ⟨[.ints .u8 xs_m_5_0], 5, false, true⟩]))))))))))))))))))))))))))))))))))))))))))))))))))))))))))))))))))))))))))))))))))))))))
  | false => False
def WL45_10e (l : YL45_10e) (W : Masks) : Masks := fun r =>
  match Nat.beq r 10 with
  | true => some fun x ρ m K => VL45_10e l (match W r with | some lf => lf x ρ m K | none => False) x (tidyE 1 [0, 1, 2, 6, 8, 9, 10, 11, 27, 28, 49] ρ m) (tidyM 1 [0, 1, 2, 6, 8, 9, 10, 11, 27, 28, 49] ρ m) K
  | false => W r
set_option maxRecDepth 100000 in
theorem WL45_10e_ok {W : Masks} (hW : LoopsOk Try.prog 1 W) : LoopsOk Try.prog 1 (WL45_10e GL45_10e W) := by
  intro r lf h
  unfold WL45_10e at h
  split at h
  · cases h
    intro x E0 m0 w0 ds hS0 ha ρ m K E a w Q hS hρ hd h hQ
    have fb : (match W r with | some lf => lf x ρ m K | none => False) → (Code.loop x).wp Try.prog Q a w := fun h => by
      split at h
      · rename_i lf hlf
        exact hW r lf hlf x hS0 ha ρ m K E a w Q hS hρ hd h hQ
      · cases h
    obtain ⟨E2, hS2, hρ2⟩ := tidy_rel hS0 hS hρ [0, 1, 2, 6, 8, 9, 10, 11, 27, 28, 49]
    rw [ha] at hS2 hρ2
    unfold VL45_10e at h
    split at h
    · rename_i hlen
      replace h := seeV_use h
      rcases h with h | ⟨e1, h⟩
      · exact fb h
      replace h := seeI_use h
      rcases h with h | ⟨i_1, e2, h⟩
      · exact fb h
      replace h := seeI_use h
      rcases h with h | ⟨i_2, e3, h⟩
      · exact fb h
      replace h := seeV_use h
      rcases h with h | ⟨e4, h⟩
      · exact fb h
      replace h := seeV_use h
      rcases h with h | ⟨e5, h⟩
      · exact fb h
      replace h := seeV_use h
      rcases h with h | ⟨e6, h⟩
      · exact fb h
      replace h := seeV_use h
      rcases h with h | ⟨e7, h⟩
      · exact fb h
      replace h := seeI_use h
      rcases h with h | ⟨i_11, e8, h⟩
      · exact fb h
      replace h := seeV_use h
      rcases h with h | ⟨e9, h⟩
      · exact fb h
      replace h := seeV_use h
      rcases h with h | ⟨e10, h⟩
      · exact fb h
      replace h := seeI_use h
      rcases h with h | ⟨i_49, e11, h⟩
      · exact fb h
      replace h := seeCons_use h
      rcases h with h | ⟨a12, q13, eqm, h⟩
      · exact fb h
      replace h := seeBlk_use h
      rcases h with h | ⟨cs14, rfl, h⟩
      · exact fb h
      replace h := seeCons_use h
      rcases h with h | ⟨a15, q16, rfl, h⟩
      · exact fb h
      replace h := seeInts_use h
      rcases h with h | ⟨xs_m_0_0, rfl, h⟩
      · exact fb h
      replace h := seeNil_use h
      rcases h with h | ⟨rfl, h⟩
      · exact fb h
      replace h := seeCons_use h
      rcases h with h | ⟨a17, q18, rfl, h⟩
      · exact fb h
      replace h := seeBlk_use h
      rcases h with h | ⟨cs19, rfl, h⟩
      · exact fb h
      replace h := seeCons_use h
      rcases h with h | ⟨a20, q21, rfl, h⟩
      · exact fb h
      replace h := seeInts_use h
      rcases h with h | ⟨xs22, rfl, h⟩
      · exact fb h
      replace h := seeX_use h
      rcases h with h | ⟨rfl, h⟩
      · exact fb h
      replace h := seeCons_use h
      rcases h with h | ⟨a23, q24, rfl, h⟩
      · exact fb h
      replace h := seeInts_use h
      rcases h with h | ⟨xs25, rfl, h⟩
      · exact fb h
      replace h := seeX_use h
      rcases h with h | ⟨rfl, h⟩
      · exact fb h
      replace h := seeCons_use h
      rcases h with h | ⟨a26, q27, rfl, h⟩
      · exact fb h
      replace h := seeInts_use h
      rcases h with h | ⟨xs28, rfl, h⟩
      · exact fb h
      replace h := seeX_use h
      rcases h with h | ⟨rfl, h⟩
      · exact fb h
      replace h := seeCons_use h
      rcases h with h | ⟨a29, q30, rfl, h⟩
      · exact fb h
      replace h := seeInts_use h
      rcases h with h | ⟨xs31, rfl, h⟩
      · exact fb h
      replace h := seeX_use h
      rcases h with h | ⟨rfl, h⟩
      · exact fb h
      replace h := seeNil_use h
      rcases h with h | ⟨rfl, h⟩
      · exact fb h
      replace h := seeCons_use h
      rcases h with h | ⟨a32, q33, rfl, h⟩
      · exact fb h
      replace h := seeBlk_use h
      rcases h with h | ⟨cs34, rfl, h⟩
      · exact fb h
      replace h := seeCons_use h
      rcases h with h | ⟨a35, q36, rfl, h⟩
      · exact fb h
      replace h := seeInts_use h
      rcases h with h | ⟨xs37, rfl, h⟩
      · exact fb h
      replace h := seeX_use h
      rcases h with h | ⟨rfl, h⟩
      · exact fb h
      replace h := seeCons_use h
      rcases h with h | ⟨a38, q39, rfl, h⟩
      · exact fb h
      replace h := seeVals_use h
      rcases h with h | ⟨xs40, rfl, h⟩
      · exact fb h
      replace h := seeCons_use h
      rcases h with h | ⟨a41, q42, rfl, h⟩
      · exact fb h
      replace h := seeV_use h
      rcases h with h | ⟨rfl, h⟩
      · exact fb h
      replace h := seeNil_use h
      rcases h with h | ⟨rfl, h⟩
      · exact fb h
      replace h := seeCons_use h
      rcases h with h | ⟨a43, q44, rfl, h⟩
      · exact fb h
      replace h := seeVals_use h
      rcases h with h | ⟨xs45, rfl, h⟩
      · exact fb h
      replace h := seeCons_use h
      rcases h with h | ⟨a46, q47, rfl, h⟩
      · exact fb h
      replace h := seeV_use h
      rcases h with h | ⟨rfl, h⟩
      · exact fb h
      replace h := seeNil_use h
      rcases h with h | ⟨rfl, h⟩
      · exact fb h
      replace h := seeCons_use h
      rcases h with h | ⟨a48, q49, rfl, h⟩
      · exact fb h
      replace h := seeVals_use h
      rcases h with h | ⟨xs50, rfl, h⟩
      · exact fb h
      replace h := seeCons_use h
      rcases h with h | ⟨a51, q52, rfl, h⟩
      · exact fb h
      replace h := seeV_use h
      rcases h with h | ⟨rfl, h⟩
      · exact fb h
      replace h := seeNil_use h
      rcases h with h | ⟨rfl, h⟩
      · exact fb h
      replace h := seeNil_use h
      rcases h with h | ⟨rfl, h⟩
      · exact fb h
      replace h := seeCons_use h
      rcases h with h | ⟨a53, q54, rfl, h⟩
      · exact fb h
      replace h := seeBlk_use h
      rcases h with h | ⟨cs55, rfl, h⟩
      · exact fb h
      replace h := seeCons_use h
      rcases h with h | ⟨a56, q57, rfl, h⟩
      · exact fb h
      replace h := seeInts_use h
      rcases h with h | ⟨xs58, rfl, h⟩
      · exact fb h
      replace h := seeX_use h
      rcases h with h | ⟨rfl, h⟩
      · exact fb h
      replace h := seeCons_use h
      rcases h with h | ⟨a59, q60, rfl, h⟩
      · exact fb h
      replace h := seeInts_use h
      rcases h with h | ⟨xs61, rfl, h⟩
      · exact fb h
      replace h := seeX_use h
      rcases h with h | ⟨rfl, h⟩
      · exact fb h
      replace h := seeCons_use h
      rcases h with h | ⟨a62, q63, rfl, h⟩
      · exact fb h
      replace h := seeInts_use h
      rcases h with h | ⟨xs64, rfl, h⟩
      · exact fb h
      replace h := seeX_use h
      rcases h with h | ⟨rfl, h⟩
      · exact fb h
      replace h := seeCons_use h
      rcases h with h | ⟨a65, q66, rfl, h⟩
      · exact fb h
      replace h := seeStrs_use h
      rcases h with h | ⟨xs67, rfl, h⟩
      · exact fb h
      replace h := seeCons_use h
      rcases h with h | ⟨a68, q69, rfl, h⟩
      · exact fb h
      replace h := seeX_use h
      rcases h with h | ⟨rfl, h⟩
      · exact fb h
      replace h := seeNil_use h
      rcases h with h | ⟨rfl, h⟩
      · exact fb h
      replace h := seeCons_use h
      rcases h with h | ⟨a70, q71, rfl, h⟩
      · exact fb h
      replace h := seeInts_use h
      rcases h with h | ⟨xs72, rfl, h⟩
      · exact fb h
      replace h := seeX_use h
      rcases h with h | ⟨rfl, h⟩
      · exact fb h
      replace h := seeNil_use h
      rcases h with h | ⟨rfl, h⟩
      · exact fb h
      replace h := seeCons_use h
      rcases h with h | ⟨a73, q74, rfl, h⟩
      · exact fb h
      replace h := seeBlk_use h
      rcases h with h | ⟨cs75, rfl, h⟩
      · exact fb h
      replace h := seeCons_use h
      rcases h with h | ⟨a76, q77, rfl, h⟩
      · exact fb h
      replace h := seeVals_use h
      rcases h with h | ⟨xs78, rfl, h⟩
      · exact fb h
      replace h := seeCons_use h
      rcases h with h | ⟨a79, q80, rfl, h⟩
      · exact fb h
      replace h := seeV_use h
      rcases h with h | ⟨rfl, h⟩
      · exact fb h
      replace h := seeNil_use h
      rcases h with h | ⟨rfl, h⟩
      · exact fb h
      replace h := seeNil_use h
      rcases h with h | ⟨rfl, h⟩
      · exact fb h
      replace h := seeCons_use h
      rcases h with h | ⟨a81, q82, rfl, h⟩
      · exact fb h
      replace h := seeBlk_use h
      rcases h with h | ⟨cs83, rfl, h⟩
      · exact fb h
      replace h := seeCons_use h
      rcases h with h | ⟨a84, q85, rfl, h⟩
      · exact fb h
      replace h := seeInts_use h
      rcases h with h | ⟨xs_m_5_0, rfl, h⟩
      · exact fb h
      replace h := seeNil_use h
      rcases h with h | ⟨rfl, h⟩
      · exact fb h
      replace h := seeNil_use h
      rcases h with h | ⟨rfl, h⟩
      · exact fb h
      obtain ⟨rfl, n, h⟩ := h
      exact loop_use named (T70_1_ok C0_ok) (LoopsOk.none _ _) (RL45_10e_ok G70_1 K n _ _ _ _ _ _) h hS0 ha hlen ⟨e1, e2, e3, e4, e5, e6, e7, e8, e9, e10, e11, trivial⟩ (eqm ▸ hS2) hρ2 hd hQ
    · cases h
  · exact hW r lf h
abbrev YL45_10f : Type := Code → Int → Int → Int → Int → List Int → List Int → (Prop) → (Int → Prop) → (Prop) → Prop
set_option maxHeartbeats 4000000 in
set_option maxRecDepth 100000 in
def HL45_10f (f70_1 : Y70_1) (rec : Int → Prop) (i_1 : Int) (i_2 : Int) (i_11 : Int) (i_49 : Int) (xs_m_0_0 : List Int) (xs_m_5_0 : List Int) (k1 : Prop) (k2 : Int → Prop) (k3 : Prop) : Prop :=
  (bif (decide (i_49 < (16 : Int))) then (bif (decide (i_49 ≥ (8 : Int))) then (bif (decide (i_1 < (0 : Int))) then (k1) else (bif (decide (i_11 < (0 : Int))) then (k1) else (bif (decide (i_11 > (IntKind.wrap .i64 (((((List.length xs_m_0_0) - (0 : Nat)) : Nat) : Int) - (7 : Int))))) then (k1) else (bif ((decide ((0 : Int) ≤ (IntKind.wrap .i64 (i_11 + (7 : Int))))) && ((decide ((Int.toNat (IntKind.wrap .i64 (i_11 + (7 : Int)))) ≤ ((List.length xs_m_0_0) - (0 : Nat)))) && ((decide ((0 : Int) ≤ i_11)) && (decide (i_11 ≤ (IntKind.wrap .i64 (i_11 + (7 : Int)))))))) then (f70_1 (Int.toNat i_11) ((Int.toNat (IntKind.wrap .i64 (i_11 + (7 : Int)))) - (Int.toNat i_11)) xs_m_0_0 (3 : Int) (22 : Int) ([(120 : Int)] : List Int) (-4 : Int) (fun (xs3 : List Int) => (bif ((([(76 : Int), (139 : Int), (IntKind.wrap .u8 ((5 : Int) + (IntKind.wrap .u8 ((8 : Int) * (IntKind.wrap .u8 (ibits .and .i64 i_49 (7 : Int))))))), (0 : Int), (0 : Int), (0 : Int), (0 : Int)] : List Int) == ([(76 : Int), (139 : Int), (IntKind.wrap .u8 ((5 : Int) + (IntKind.wrap .u8 ((8 : Int) * (IntKind.wrap .u8 (ibits .and .i64 i_49 (7 : Int))))))), (0 : Int), (0 : Int), (0 : Int), (0 : Int)] : List Int)) && true) then (bif (xs3 == ([(76 : Int), (139 : Int), (IntKind.wrap .u8 ((5 : Int) + (IntKind.wrap .u8 ((8 : Int) * (IntKind.wrap .u8 (ibits .and .i64 i_49 (7 : Int))))))), (0 : Int), (0 : Int), (0 : Int), (0 : Int)] : List Int)) then (k2 i_49) else (rec (IntKind.wrap .i64 (i_49 + (1 : Int))))) else False))) else False)))) else (bif (decide (i_1 < (0 : Int))) then (k1) else (bif (decide (i_11 < (0 : Int))) then (k1) else (bif (decide (i_11 > (IntKind.wrap .i64 (((((List.length xs_m_0_0) - (0 : Nat)) : Nat) : Int) - (7 : Int))))) then (k1) else (bif ((decide ((0 : Int) ≤ (IntKind.wrap .i64 (i_11 + (7 : Int))))) && ((decide ((Int.toNat (IntKind.wrap .i64 (i_11 + (7 : Int)))) ≤ ((List.length xs_m_0_0) - (0 : Nat)))) && ((decide ((0 : Int) ≤ i_11)) && (decide (i_11 ≤ (IntKind.wrap .i64 (i_11 + (7 : Int)))))))) then (f70_1 (Int.toNat i_11) ((Int.toNat (IntKind.wrap .i64 (i_11 + (7 : Int)))) - (Int.toNat i_11)) xs_m_0_0 (3 : Int) (22 : Int) ([(120 : Int)] : List Int) (-4 : Int) (fun (xs4 : List Int) => (bif ((([(72 : Int), (139 : Int), (IntKind.wrap .u8 ((5 : Int) + (IntKind.wrap .u8 ((8 : Int) * (IntKind.wrap .u8 (ibits .and .i64 i_49 (7 : Int))))))), (0 : Int), (0 : Int), (0 : Int), (0 : Int)] : List Int) == ([(72 : Int), (139 : Int), (IntKind.wrap .u8 ((5 : Int) + (IntKind.wrap .u8 ((8 : Int) * (IntKind.wrap .u8 (ibits .and .i64 i_49 (7 : Int))))))), (0 : Int), (0 : Int), (0 : Int), (0 : Int)] : List Int)) && true) then (bif (xs4 == ([(72 : Int), (139 : Int), (IntKind.wrap .u8 ((5 : Int) + (IntKind.wrap .u8 ((8 : Int) * (IntKind.wrap .u8 (ibits .and .i64 i_49 (7 : Int))))))), (0 : Int), (0 : Int), (0 : Int), (0 : Int)] : List Int)) then (k2 i_49) else (rec (IntKind.wrap .i64 (i_49 + (1 : Int))))) else False))) else False))))) else (k3))
def RL45_10f (f70_1 : Y70_1) : Nat → Int → Int → Int → Int → List Int → List Int → (Prop) → (Int → Prop) → (Prop) → Prop
  | 0, _, _, _, _, _, _, _, _, _ => False
  | n + 1, i_1, i_2, i_11, i_49, xs_m_0_0, xs_m_5_0, k1, k2, k3 => HL45_10f f70_1 (fun (i_49 : Int) => RL45_10f f70_1 n i_1 i_2 i_11 i_49 xs_m_0_0 xs_m_5_0 k1 k2 k3) i_1 i_2 i_11 i_49 xs_m_0_0 xs_m_5_0 k1 k2 k3
noncomputable def XL45_10f : Code := sub [true, true, false, true, false, false, true, true, false, false, true, true, true, true, true, false, false] (bodyOf Try.prog 45)
theorem HL45_10f_ok (f70_1 : Y70_1) (n : Nat) (i_1 : Int) (i_2 : Int) (i_11 : Int) (i_49 : Int) (xs_m_0_0 : List Int) (xs_m_5_0 : List Int) (K : Ex → Env → Mem → Prop) : cround 1 [0, 1, 2, 6, 8, 9, 10, 11, 27, 28, 49] [0, 1, 2, 6, 7, 27, 28] (fun ρ m K => cexec Try.prog (T70_1 f70_1 C0) (fun _ => none) 1 1000 XL45_10f ρ m K) (n + 1) (selE 93 [(0, (.sl 0 (0 : Nat) (none : Option Nat) (none : Option Nat))), (1, (.I .i64 i_1)), (2, (.I .i64 i_2)), (6, (.ptr 1 (0 : Nat) 0)), (8, (.I .i64 (3 : Int))), (9, (.ptr 2 (0 : Nat) 0)), (10, (.sl 3 (0 : Nat) (none : Option Nat) (none : Option Nat))), (11, (.I .i64 i_11)), (27, (.agg [(.I .i64 (0 : Int)), .nilf, .nilf, .nilf, (.I .i64 (19 : Int)), (.fn (.func 59) [] []), (.fn (.func 60) [] []), (.fn (.func 61) [] [(.ptr 4 (0 : Nat) 0)]), (.I .i64 (20 : Int)), (.fn (.func 62) [] []), (.fn (.func 63) [] []), (.fn (.func 64) [] [(.ptr 4 (0 : Nat) 0)]), (.I .i64 (22 : Int)), (.fn (.func 65) [] []), (.fn (.func 66) [] []), (.fn (.func 67) [] []), (.I .i64 (23 : Int)), (.fn (.func 68) [] []), (.fn (.func 69) [] []), (.fn (.func 67) [] [])])), (28, (.I .i64 (3 : Int))), (49, (.I .i64 i_49))]) [⟨[.ints .u8 xs_m_0_0], 5, false, false⟩, ⟨[.ints .i64 ([(0 : Int)] : List Int), .ints .i64 ([(0 : Int)] : List Int), .ints .i64 ([(0 : Int)] : List Int), .ints .i64 ([(0 : Int)] : List Int)], 88, false, true⟩, ⟨[.ints .i64 ([(22 : Int)] : List Int), .vals [(.fn (.func 65) [] [])], .vals [(.fn (.func 66) [] [])], .vals [(.fn (.func 67) [] [])]], 83, false, true⟩, ⟨[.ints .i64 ([(3 : Int)] : List Int), .ints .i64 ([(4 : Int)] : List Int), .ints .i64 ([(22 : Int)] : List Int), .strs ([([(120 : Int)] : List Int)] : List (List Int)), .ints .i64 ([(-4 : Int)] : List Int)], 32, false, true⟩, ⟨[.vals [(.sl 5 (0 : Nat) (none : Option Nat) (none : Option Nat))]], 22, false, true⟩, ⟨[.ints .u8 xs_m_5_0], 5, false, true⟩] K =
    HL45_10f f70_1 (fun (i_49 : Int) => cround 1 [0, 1, 2, 6, 8, 9, 10, 11, 27, 28, 49] [0, 1, 2, 6, 7, 27, 28] (fun ρ m K => cexec Try.prog (T70_1 f70_1 C0) (fun _ => none) 1 1000 XL45_10f ρ m K) n (selE 93 [(0, (.sl 0 (0 : Nat) (none : Option Nat) (none : Option Nat))), (1, (.I .i64 i_1)), (2, (.I .i64 i_2)), (6, (.ptr 1 (0 : Nat) 0)), (8, (.I .i64 (3 : Int))), (9, (.ptr 2 (0 : Nat) 0)), (10, (.sl 3 (0 : Nat) (none : Option Nat) (none : Option Nat))), (11, (.I .i64 i_11)), (27, (.agg [(.I .i64 (0 : Int)), .nilf, .nilf, .nilf, (.I .i64 (19 : Int)), (.fn (.func 59) [] []), (.fn (.func 60) [] []), (.fn (.func 61) [] [(.ptr 4 (0 : Nat) 0)]), (.I .i64 (20 : Int)), (.fn (.func 62) [] []), (.fn (.func 63) [] []), (.fn (.func 64) [] [(.ptr 4 (0 : Nat) 0)]), (.I .i64 (22 : Int)), (.fn (.func 65) [] []), (.fn (.func 66) [] []), (.fn (.func 67) [] []), (.I .i64 (23 : Int)), (.fn (.func 68) [] []), (.fn (.func 69) [] []), (.fn (.func 67) [] [])])), (28, (.I .i64 (3 : Int))), (49, (.I .i64 i_49))]) [⟨[.ints .u8 xs_m_0_0], 5, false, false⟩, ⟨[.ints .i64 ([(0 : Int)] : List Int), .ints .i64 ([(0 : Int)] : List Int), .ints .i64 ([(0 : Int)] : List Int), .ints .i64 ([(0 : Int)] : List Int)], 88, false, true⟩, ⟨[.ints .i64 ([(22 : Int)] : List Int), .vals [(.fn (.func 65) [] [])], .vals [(.fn (.func 66) [] [])], .vals [(.fn (.func 67) [] [])]], 83, false, true⟩, ⟨[.ints .i64 ([(3 : Int)] : List Int), .ints .i64 ([(4 : Int)] : List Int), .ints .i64 ([(22 : Int)] : List Int), .strs ([([(120 : Int)] : List Int)] : List (List Int)), .ints .i64 ([(-4 : Int)] : List Int)], 32, false, true⟩, ⟨[.vals [(.sl 5 (0 : Nat) (none : Option Nat) (none : Option Nat))]], 22, false, true⟩, ⟨[.ints .u8 xs_m_5_0], 5, false, true⟩] K) i_1 i_2 i_11 i_49 xs_m_0_0 xs_m_5_0 (K .ret (selE 93 [(0, (.sl 0 (0 : Nat) (none : Option Nat) (none : Option Nat))), (1, (.I .i64 i_1)), (2, (.I .i64 i_2)), (6, (.ptr 1 (0 : Nat) 0)), (7, (.B false)), (27, (.agg [(.I .i64 (0 : Int)), .nilf, .nilf, .nilf, (.I .i64 (19 : Int)), (.fn (.func 59) [] []), (.fn (.func 60) [] []), (.fn (.func 61) [] [(.ptr 2 (0 : Nat) 0)]), (.I .i64 (20 : Int)), (.fn (.func 62) [] []), (.fn (.func 63) [] []), (.fn (.func 64) [] [(.ptr 2 (0 : Nat) 0)]), (.I .i64 (22 : Int)), (.fn (.func 65) [] []), (.fn (.func 66) [] []), (.fn (.func 67) [] []), (.I .i64 (23 : Int)), (.fn (.func 68) [] []), (.fn (.func 69) [] []), (.fn (.func 67) [] [])])), (28, (.I .i64 (3 : Int)))]) [⟨[.ints .u8 xs_m_0_0], 5, false, false⟩, ⟨[.ints .i64 ([(0 : Int)] : List Int), .ints .i64 ([(0 : Int)] : List Int), .ints .i64 ([(0 : Int)] : List Int), .ints .i64 ([(0 : Int)] : List Int)], 88, false, true⟩, ⟨[.vals [(.sl 3 (0 : Nat) (none : Option Nat) (none : Option Nat))]], 22, false, true⟩, ⟨[.ints .u8 xs_m_5_0], 5, false, true⟩]) (fun (u0 : Int) => K .ret (selE 93 [(0, (.sl 0 (0 : Nat) (none : Option Nat) (none : Option Nat))), (1, (.I .i64 i_1)), (2, (.I .i64 i_2)), (6, (.ptr 1 (0 : Nat) 0)), (7, (.B true)), (27, (.agg [(.I .i64 (0 : Int)), .nilf, .nilf, .nilf, (.I .i64 (19 : Int)), (.fn (.func 59) [] []), (.fn (.func 60) [] []), (.fn (.func 61) [] [(.ptr 2 (0 : Nat) 0)]), (.I .i64 (20 : Int)), (.fn (.func 62) [] []), (.fn (.func 63) [] []), (.fn (.func 64) [] [(.ptr 2 (0 : Nat) 0)]), (.I .i64 (22 : Int)), (.fn (.func 65) [] []), (.fn (.func 66) [] []), (.fn (.func 67) [] []), (.I .i64 (23 : Int)), (.fn (.func 68) [] []), (.fn (.func 69) [] []), (.fn (.func 67) [] [])])), (28, (.I .i64 (3 : Int)))]) [⟨[.ints .u8 xs_m_0_0], 5, false, false⟩, ⟨[.ints .i64 ([(3 : Int)] : List Int), .ints .i64 ([i_11] : List Int), .ints .i64 ([(7 : Int)] : List Int), .ints .i64 ([u0] : List Int)], 88, false, true⟩, ⟨[.vals [(.sl 3 (0 : Nat) (none : Option Nat) (none : Option Nat))]], 22, false, true⟩, ⟨[.ints .u8 xs_m_5_0], 5, false, true⟩]) (K (.exit 2) (selE 93 [(0, (.sl 0 (0 : Nat) (none : Option Nat) (none : Option Nat))), (1, (.I .i64 i_1)), (2, (.I .i64 i_2)), (6, (.ptr 1 (0 : Nat) 0)), (7, .undef), (27, (.agg [(.I .i64 (0 : Int)), .nilf, .nilf, .nilf, (.I .i64 (19 : Int)), (.fn (.func 59) [] []), (.fn (.func 60) [] []), (.fn (.func 61) [] [(.ptr 2 (0 : Nat) 0)]), (.I .i64 (20 : Int)), (.fn (.func 62) [] []), (.fn (.func 63) [] []), (.fn (.func 64) [] [(.ptr 2 (0 : Nat) 0)]), (.I .i64 (22 : Int)), (.fn (.func 65) [] []), (.fn (.func 66) [] []), (.fn (.func 67) [] []), (.I .i64 (23 : Int)), (.fn (.func 68) [] []), (.fn (.func 69) [] []), (.fn (.func 67) [] [])])), (28, (.I .i64 (3 : Int)))]) [⟨[.ints .u8 xs_m_0_0], 5, false, false⟩, ⟨[.ints .i64 ([(0 : Int)] : List Int), .ints .i64 ([(0 : Int)] : List Int), .ints .i64 ([(0 : Int)] : List Int), .ints .i64 ([(0 : Int)] : List Int)], 88, false, true⟩, ⟨[.vals [(.sl 3 (0 : Nat) (none : Option Nat) (none : Option Nat))]], 22, false, true⟩, ⟨[.ints .u8 xs_m_5_0], 5, false, true⟩]) := by kernel_rfl
theorem RL45_10f_ok (f70_1 : Y70_1) (K : Ex → Env → Mem → Prop) : ∀ (n : Nat) (i_1 : Int) (i_2 : Int) (i_11 : Int) (i_49 : Int) (xs_m_0_0 : List Int) (xs_m_5_0 : List Int), cround 1 [0, 1, 2, 6, 8, 9, 10, 11, 27, 28, 49] [0, 1, 2, 6, 7, 27, 28] (fun ρ m K => cexec Try.prog (T70_1 f70_1 C0) (fun _ => none) 1 1000 XL45_10f ρ m K) n (selE 93 [(0, (.sl 0 (0 : Nat) (none : Option Nat) (none : Option Nat))), (1, (.I .i64 i_1)), (2, (.I .i64 i_2)), (6, (.ptr 1 (0 : Nat) 0)), (8, (.I .i64 (3 : Int))), (9, (.ptr 2 (0 : Nat) 0)), (10, (.sl 3 (0 : Nat) (none : Option Nat) (none : Option Nat))), (11, (.I .i64 i_11)), (27, (.agg [(.I .i64 (0 : Int)), .nilf, .nilf, .nilf, (.I .i64 (19 : Int)), (.fn (.func 59) [] []), (.fn (.func 60) [] []), (.fn (.func 61) [] [(.ptr 4 (0 : Nat) 0)]), (.I .i64 (20 : Int)), (.fn (.func 62) [] []), (.fn (.func 63) [] []), (.fn (.func 64) [] [(.ptr 4 (0 : Nat) 0)]), (.I .i64 (22 : Int)), (.fn (.func 65) [] []), (.fn (.func 66) [] []), (.fn (.func 67) [] []), (.I .i64 (23 : Int)), (.fn (.func 68) [] []), (.fn (.func 69) [] []), (.fn (.func 67) [] [])])), (28, (.I .i64 (3 : Int))), (49, (.I .i64 i_49))]) [⟨[.ints .u8 xs_m_0_0], 5, false, false⟩, ⟨[.ints .i64 ([(0 : Int)] : List Int), .ints .i64 ([(0 : Int)] : List Int), .ints .i64 ([(0 : Int)] : List Int), .ints .i64 ([(0 : Int)] : List Int)], 88, false, true⟩, ⟨[.ints .i64 ([(22 : Int)] : List Int), .vals [(.fn (.func 65) [] [])], .vals [(.fn (.func 66) [] [])], .vals [(.fn (.func 67) [] [])]], 83, false, true⟩, ⟨[.ints .i64 ([(3 : Int)] : List Int), .ints .i64 ([(4 : Int)] : List Int), .ints .i64 ([(22 : Int)] : List Int), .strs ([([(120 : Int)] : List Int)] : List (List Int)), .ints .i64 ([(-4 : Int)] : List Int)], 32, false, true⟩, ⟨[.vals [(.sl 5 (0 : Nat) (none : Option Nat) (none : Option Nat))]], 22, false, true⟩, ⟨[.ints .u8 xs_m_5_0], 5, false, true⟩] K = RL45_10f f70_1 n i_1 i_2 i_11 i_49 xs_m_0_0 xs_m_5_0 (K .ret (selE 93 [(0, (.sl 0 (0 : Nat) (none : Option Nat) (none : Option Nat))), (1, (.I .i64 i_1)), (2, (.I .i64 i_2)), (6, (.ptr 1 (0 : Nat) 0)), (7, (.B false)), (27, (.agg [(.I .i64 (0 : Int)), .nilf, .nilf, .nilf, (.I .i64 (19 : Int)), (.fn (.func 59) [] []), (.fn (.func 60) [] []), (.fn (.func 61) [] [(.ptr 2 (0 : Nat) 0)]), (.I .i64 (20 : Int)), (.fn (.func 62) [] []), (.fn (.func 63) [] []), (.fn (.func 64) [] [(.ptr 2 (0 : Nat) 0)]), (.I .i64 (22 : Int)), (.fn (.func 65) [] []), (.fn (.func 66) [] []), (.fn (.func 67) [] []), (.I .i64 (23 : Int)), (.fn (.func 68) [] []), (.fn (.func 69) [] []), (.fn (.func 67) [] [])])), (28, (.I .i64 (3 : Int)))]) [⟨[.ints .u8 xs_m_0_0], 5, false, false⟩, ⟨[.ints .i64 ([(0 : Int)] : List Int), .ints .i64 ([(0 : Int)] : List Int), .ints .i64 ([(0 : Int)] : List Int), .ints .i64 ([(0 : Int)] : List Int)], 88, false, true⟩, ⟨[.vals [(.sl 3 (0 : Nat) (none : Option Nat) (none : Option Nat))]], 22, false, true⟩, ⟨[.ints .u8 xs_m_5_0], 5, false, true⟩]) (fun (u0 : Int) => K .ret (selE 93 [(0, (.sl 0 (0 : Nat) (none : Option Nat) (none : Option Nat))), (1, (.I .i64 i_1)), (2, (.I .i64 i_2)), (6, (.ptr 1 (0 : Nat) 0)), (7, (.B true)), (27, (.agg [(.I .i64 (0 : Int)), .nilf, .nilf, .nilf, (.I .i64 (19 : Int)), (.fn (.func 59) [] []), (.fn (.func 60) [] []), (.fn (.func 61) [] [(.ptr 2 (0 : Nat) 0)]), (.I .i64 (20 : Int)), (.fn (.func 62) [] []), (.fn (.func 63) [] []), (.fn (.func 64) [] [(.ptr 2 (0 : Nat) 0)]), (.I .i64 (22 : Int)), (.fn (.func 65) [] []), (.fn (.func 66) [] []), (.fn (.func 67) [] []), (.I .i64 (23 : Int)), (.fn (.func 68) [] []), (.fn (.func 69) [] []), (.fn (.func 67) [] [])])), (28, (.I .i64 (3 : Int)))]) [⟨[.ints .u8 xs_m_0_0], 5, false, false⟩, ⟨[.ints .i64 ([(3 : Int)] : List Int), .ints .i64 ([i_11] : List Int), .ints .i64 ([(7 : Int)] : List Int), .ints .i64 ([u0] : List Int)], 88, false, true⟩, ⟨[.vals [(.sl 3 (0 : Nat) (none : Option Nat) (none : Option Nat))]], 22, false, true⟩, ⟨[.ints .u8 xs_m_5_0], 5, false, true⟩]) (K (.exit 2) (selE 93 [(0, (.sl 0 (0 : Nat) (none : Option Nat) (none : Option Nat))), (1, (.I .i64 i_1)), (2, (.I .i64 i_2)), (6, (.ptr 1 (0 : Nat) 0)), (7, .undef), (27, (.agg [(.I .i64 (0 : Int)), .nilf, .nilf, .nilf, (.I .i64 (19 : Int)), (.fn (.func 59) [] []), (.fn (.func 60) [] []), (.fn (.func 61) [] [(.ptr 2 (0 : Nat) 0)]), (.I .i64 (20 : Int)), (.fn (.func 62) [] []), (.fn (.func 63) [] []), (.fn (.func 64) [] [(.ptr 2 (0 : Nat) 0)]), (.I .i64 (22 : Int)), (.fn (.func 65) [] []), (.fn (.func 66) [] []), (.fn (.func 67) [] []), (.I .i64 (23 : Int)), (.fn (.func 68) [] []), (.fn (.func 69) [] []), (.fn (.func 67) [] [])])), (28, (.I .i64 (3 : Int)))]) [⟨[.ints .u8 xs_m_0_0], 5, false, false⟩, ⟨[.ints .i64 ([(0 : Int)] : List Int), .ints .i64 ([(0 : Int)] : List Int), .ints .i64 ([(0 : Int)] : List Int), .ints .i64 ([(0 : Int)] : List Int)], 88, false, true⟩, ⟨[.vals [(.sl 3 (0 : Nat) (none : Option Nat) (none : Option Nat))]], 22, false, true⟩, ⟨[.ints .u8 xs_m_5_0], 5, false, true⟩])
  | 0, i_1, i_2, i_11, i_49, xs_m_0_0, xs_m_5_0 => rfl
  | n + 1, i_1, i_2, i_11, i_49, xs_m_0_0, xs_m_5_0 => by
    have ih := RL45_10f_ok f70_1 K n
    rw [HL45_10f_ok f70_1 n i_1 i_2 i_11 i_49 xs_m_0_0 xs_m_5_0 K]
    show HL45_10f f70_1 _ i_1 i_2 i_11 i_49 xs_m_0_0 xs_m_5_0 (K .ret (selE 93 [(0, (.sl 0 (0 : Nat) (none : Option Nat) (none : Option Nat))), (1, (.I .i64 i_1)), (2, (.I .i64 i_2)), (6, (.ptr 1 (0 : Nat) 0)), (7, (.B false)), (27, (.agg [(.I .i64 (0 : Int)), .nilf, .nilf, .nilf, (.I .i64 (19 : Int)), (.fn (.func 59) [] []), (.fn (.func 60) [] []), (.fn (.func 61) [] [(.ptr 2 (0 : Nat) 0)]), (.I .i64 (20 : Int)), (.fn (.func 62) [] []), (.fn (.func 63) [] []), (.fn (.func 64) [] [(.ptr 2 (0 : Nat) 0)]), (.I .i64 (22 : Int)), (.fn (.func 65) [] []), (.fn (.func 66) [] []), (.fn (.func 67) [] []), (.I .i64 (23 : Int)), (.fn (.func 68) [] []), (.fn (.func 69) [] []), (.fn (.func 67) [] [])])), (28, (.I .i64 (3 : Int)))]) [⟨[.ints .u8 xs_m_0_0], 5, false, false⟩, ⟨[.ints .i64 ([(0 : Int)] : List Int), .ints .i64 ([(0 : Int)] : List Int), .ints .i64 ([(0 : Int)] : List Int), .ints .i64 ([(0 : Int)] : List Int)], 88, false, true⟩, ⟨[.vals [(.sl 3 (0 : Nat) (none : Option Nat) (none : Option Nat))]], 22, false, true⟩, ⟨[.ints .u8 xs_m_5_0], 5, false, true⟩]) (fun (u0 : Int) => K .ret (selE 93 [(0, (.sl 0 (0 : Nat) (none : Option Nat) (none : Option Nat))), (1, (.I .i64 i_1)), (2, (.I .i64 i_2)), (6, (.ptr 1 (0 : Nat) 0)), (7, (.B true)), (27, (.agg [(.I .i64 (0 : Int)), .nilf, .nilf, .nilf, (.I .i64 (19 : Int)), (.fn (.func 59) [] []), (.fn (.func 60) [] []), (.fn (.func 61) [] [(.ptr 2 (0 : Nat) 0)]), (.I .i64 (20 : Int)), (.fn (.func 62) [] []), (.fn (.func 63) [] []), (.fn (.func 64) [] [(.ptr 2 (0 : Nat) 0)]), (.I .i64 (22 : Int)), (.fn (.func 65) [] []), (.fn (.func 66) [] []), (.fn (.func 67) [] []), (.I .i64 (23 : Int)), (.fn (.func 68) [] []), (.fn (.func 69) [] []), (.fn (.func 67) [] [])])), (28, (.I .i64 (3 : Int)))]) [⟨[.ints .u8 xs_m_0_0], 5, false, false⟩, ⟨[.ints .i64 ([(3 : Int)] : List Int), .ints .i64 ([i_11] : List Int), .ints .i64 ([(7 : Int)] : List Int), .ints .i64 ([u0] : List Int)], 88, false, true⟩, ⟨[.vals [(.sl 3 (0 : Nat) (none : Option Nat) (none : Option Nat))]], 22, false, true⟩, ⟨[.ints .u8 xs_m_5_0], 5, false, true⟩]) (K (.exit 2) (selE 93 [(0, (.sl 0 (0 : Nat) (none : Option Nat) (none : Option Nat))), (1, (.I .i64 i_1)), (2, (.I .i64 i_2)), (6, (.ptr 1 (0 : Nat) 0)), (7, .undef), (27, (.agg [(.I .i64 (0 : Int)), .nilf, .nilf, .nilf, (.I .i64 (19 : Int)), (.fn (.func 59) [] []), (.fn (.func 60) [] []), (.fn (.func 61) [] [(.ptr 2 (0 : Nat) 0)]), (.I .i64 (20 : Int)), (.fn (.func 62) [] []), (.fn (.func 63) [] []), (.fn (.func 64) [] [(.ptr 2 (0 : Nat) 0)]), (.I .i64 (22 : Int)), (.fn (.func 65) [] []), (.fn (.func 66) [] []), (.fn (.func 67) [] []), (.I .i64 (23 : Int)), (.fn (.func 68) [] []), (.fn (.func 69) [] []), (.fn (.func 67) [] [])])), (28, (.I .i64 (3 : Int)))]) [⟨[.ints .u8 xs_m_0_0], 5, false, false⟩, ⟨[.ints .i64 ([(0 : Int)] : List Int), .ints .i64 ([(0 : Int)] : List Int), .ints .i64 ([(0 : Int)] : List Int), .ints .i64 ([(0 : Int)] : List Int)], 88, false, true⟩, ⟨[.vals [(.sl 3 (0 : Nat) (none : Option Nat) (none : Option Nat))]], 22, false, true⟩, ⟨[.ints .u8 xs_m_5_0], 5, false, true⟩]) = HL45_10f f70_1 _ i_1 i_2 i_11 i_49 xs_m_0_0 xs_m_5_0 (K .ret (selE 93 [(0, (.sl 0 (0 : Nat) (none : Option Nat) (none : Option Nat))), (1, (.I .i64 i_1)), (2, (.I .i64 i_2)), (6, (.ptr 1 (0 : Nat) 0)), (7, (.B false)), (27, (.agg [(.I .i64 (0 : Int)), .nilf, .nilf, .nilf, (.I .i64 (19 : Int)), (.fn (.func 59) [] []), (.fn (.func 60) [] []), (.fn (.func 61) [] [(.ptr 2 (0 : Nat) 0)]), (.I .i64 (20 : Int)), (.fn (.func 62) [] []), (.fn (.func 63) [] []), (.fn (.func 64) [] [(.ptr 2 (0 : Nat) 0)]), (.I .i64 (22 : Int)), (.fn (.func 65) [] []), (.fn (.func 66) [] []), (.fn (.func 67) [] []), (.I .i64 (23 : Int)), (.fn (.func 68) [] []), (.fn (.func 69) [] []), (.fn (.func 67) [] [])])), (28, (.I .i64 (3 : Int)))]) [⟨[.ints .u8 xs_m_0_0], 5, false, false⟩, ⟨[.ints .i64 ([(0 : Int)] : List Int), .ints .i64 ([(0 : Int)] : List Int), .ints .i64 ([(0 : Int)] : List Int), .ints .i64 ([(0 : Int)] : List Int)], 88, false, true⟩, ⟨[.vals [(.sl 3 (0 : Nat) (none : Option Nat) (none : Option Nat))]], 22, false, true⟩, ⟨[.ints .u8 xs_m_5_0], 5, false, true⟩]) (fun (u0 : Int) => K .ret (selE 93 [(0, (.sl 0 (0 : Nat) (none : Option Nat) (none : Option Nat))), (1, (.I .i64 i_1)), (2, (.I .i64 i_2)), (6, (.ptr 1 (0 : Nat) 0)), (7, (.B true)), (27, (.agg [(.I .i64 (0 : Int)), .nilf, .nilf, .nilf, (.I .i64 (19 : Int)), (.fn (.func 59) [] []), (.fn (.func 60) [] []), (.fn (.func 61) [] [(.ptr 2 (0 : Nat) 0)]), (.I .i64 (20 : Int)), (.fn (.func 62) [] []), (.fn (.func 63) [] []), (.fn (.func 64) [] [(.ptr 2 (0 : Nat) 0)]), (.I .i64 (22 : Int)), (.fn (.func 65) [] []), (.fn (.func 66) [] []), (.fn (.func 67) [] []), (.I .i64 (23 : Int)), (.fn (.func 68) [] []), (.fn (.func 69) [] []), (.fn (.func 67) [] [])])), (28, (.I .i64 (3 : Int)))]) [⟨[.ints .u8 xs_m_0_0], 5, false, false⟩, ⟨[.ints .i64 ([(3 : Int)] : List Int), .ints .i64 ([i_11] : List Int), .ints .i64 ([(7 : Int)] : List Int), .ints .i64 ([u0] : List Int)], 88, false, true⟩, ⟨[.vals [(.sl 3 (0 : Nat) (none : Option Nat) (none : Option Nat))]], 22, false, true⟩, ⟨[.ints .u8 xs_m_5_0], 5, false, true⟩]) (K (.exit 2) (selE 93 [(0, (.sl 0 (0 : Nat) (none : Option Nat) (none : Option Nat))), (1, (.I .i64 i_1)), (2, (.I .i64 i_2)), (6, (.ptr 1 (0 : Nat) 0)), (7, .undef), (27, (.agg [(.I .i64 (0 : Int)), .nilf, .nilf, .nilf, (.I .i64 (19 : Int)), (.fn (.func 59) [] []), (.fn (.func 60) [] []), (.fn (.func 61) [] [(.ptr 2 (0 : Nat) 0)]), (.I .i64 (20 : Int)), (.fn (.func 62) [] []), (.fn (.func 63) [] []), (.fn (.func 64) [] [(.ptr 2 (0 : Nat) 0)]), (.I .i64 (22 : Int)), (.fn (.func 65) [] []), (.fn (.func 66) [] []), (.fn (.func 67) [] []), (.I .i64 (23 : Int)), (.fn (.func 68) [] []), (.fn (.func 69) [] []), (.fn (.func 67) [] [])])), (28, (.I .i64 (3 : Int)))]) [⟨[.ints .u8 xs_m_0_0], 5, false, false⟩, ⟨[.ints .i64 ([(0 : Int)] : List Int), .ints .i64 ([(0 : Int)] : List Int), .ints .i64 ([(0 : Int)] : List Int), .ints .i64 ([(0 : Int)] : List Int)], 88, false, true⟩, ⟨[.vals [(.sl 3 (0 : Nat) (none : Option Nat) (none : Option Nat))]], 22, false, true⟩, ⟨[.ints .u8 xs_m_5_0], 5, false, true⟩])
    refine congrArg (fun r => HL45_10f f70_1 r i_1 i_2 i_11 i_49 xs_m_0_0 xs_m_5_0 (K .ret (selE 93 [(0, (.sl 0 (0 : Nat) (none : Option Nat) (none : Option Nat))), (1, (.I .i64 i_1)), (2, (.I .i64 i_2)), (6, (.ptr 1 (0 : Nat) 0)), (7, (.B false)), (27, (.agg [(.I .i64 (0 : Int)), .nilf, .nilf, .nilf, (.I .i64 (19 : Int)), (.fn (.func 59) [] []), (.fn (.func 60) [] []), (.fn (.func 61) [] [(.ptr 2 (0 : Nat) 0)]), (.I .i64 (20 : Int)), (.fn (.func 62) [] []), (.fn (.func 63) [] []), (.fn (.func 64) [] [(.ptr 2 (0 : Nat) 0)]), (.I .i64 (22 : Int)), (.fn (.func 65) [] []), (.fn (.func 66) [] []), (.fn (.func 67) [] []), (.I .i64 (23 : Int)), (.fn (.func 68) [] []), (.fn (.func 69) [] []), (.fn (.func 67) [] [])])), (28, (.I .i64 (3 : Int)))]) [⟨[.ints .u8 xs_m_0_0], 5, false, false⟩, ⟨[.ints .i64 ([(0 : Int)] : List Int), .ints .i64 ([(0 : Int)] : List Int), .ints .i64 ([(0 : Int)] : List Int), .ints .i64 ([(0 : Int)] : List Int)], 88, false, true⟩, ⟨[.vals [(.sl 3 (0 : Nat) (none : Option Nat) (none : Option Nat))]], 22, false, true⟩, ⟨[.ints .u8 xs_m_5_0], 5, false, true⟩]) (fun (u0 : Int) => K .ret (selE 93 [(0, (.sl 0 (0 : Nat) (none : Option Nat) (none : Option Nat))), (1, (.I .i64 i_1)), (2, (.I .i64 i_2)), (6, (.ptr 1 (0 : Nat) 0)), (7, (.B true)), (27, (.agg [(.I .i64 (0 : Int)), .nilf, .nilf, .nilf, (.I .i64 (19 : Int)), (.fn (.func 59) [] []), (.fn (.func 60) [] []), (.fn (.func 61) [] [(.ptr 2 (0 : Nat) 0)]), (.I .i64 (20 : Int)), (.fn (.func 62) [] []), (.fn (.func 63) [] []), (.fn (.func 64) [] [(.ptr 2 (0 : Nat) 0)]), (.I .i64 (22 : Int)), (.fn (.func 65) [] []), (.fn (.func 66) [] []), (.fn (.func 67) [] []), (.I .i64 (23 : Int)), (.fn (.func 68) [] []), (.fn (.func 69) [] []), (.fn (.func 67) [] [])])), (28, (.I .i64 (3 : Int)))]) [⟨[.ints .u8 xs_m_0_0], 5, false, false⟩, ⟨[.ints .i64 ([(3 : Int)] : List Int), .ints .i64 ([i_11] : List Int), .ints .i64 ([(7 : Int)] : List Int), .ints .i64 ([u0] : List Int)], 88, false, true⟩, ⟨[.vals [(.sl 3 (0 : Nat) (none : Option Nat) (none : Option Nat))]], 22, false, true⟩, ⟨[.ints .u8 xs_m_5_0], 5, false, true⟩]) (K (.exit 2) (selE 93 [(0, (.sl 0 (0 : Nat) (none : Option Nat) (none : Option Nat))), (1, (.I .i64 i_1)), (2, (.I .i64 i_2)), (6, (.ptr 1 (0 : Nat) 0)), (7, .undef), (27, (.agg [(.I .i64 (0 : Int)), .nilf, .nilf, .nilf, (.I .i64 (19 : Int)), (.fn (.func 59) [] []), (.fn (.func 60) [] []), (.fn (.func 61) [] [(.ptr 2 (0 : Nat) 0)]), (.I .i64 (20 : Int)), (.fn (.func 62) [] []), (.fn (.func 63) [] []), (.fn (.func 64) [] [(.ptr 2 (0 : Nat) 0)]), (.I .i64 (22 : Int)), (.fn (.func 65) [] []), (.fn (.func 66) [] []), (.fn (.func 67) [] []), (.I .i64 (23 : Int)), (.fn (.func 68) [] []), (.fn (.func 69) [] []), (.fn (.func 67) [] [])])), (28, (.I .i64 (3 : Int)))]) [⟨[.ints .u8 xs_m_0_0], 5, false, false⟩, ⟨[.ints .i64 ([(0 : Int)] : List Int), .ints .i64 ([(0 : Int)] : List Int), .ints .i64 ([(0 : Int)] : List Int), .ints .i64 ([(0 : Int)] : List Int)], 88, false, true⟩, ⟨[.vals [(.sl 3 (0 : Nat) (none : Option Nat) (none : Option Nat))]], 22, false, true⟩, ⟨[.ints .u8 xs_m_5_0], 5, false, true⟩])) ?_
    funext i_49
    exact ih i_1 i_2 i_11 i_49 xs_m_0_0 xs_m_5_0
def GL45_10f : YL45_10f := fun x i_1 i_2 i_11 i_49 xs_m_0_0 xs_m_5_0 k1 k2 k3 => x = XL45_10f ∧ ∃ n, RL45_10f G70_1 n i_1 i_2 i_11 i_49 xs_m_0_0 xs_m_5_0 k1 k2 k3
def VL45_10f (l : YL45_10f) (F : Prop) (x : Code) (ρ : Env) (m : Mem) (K : Ex → Env → Mem → Prop) : Prop :=
  match ρ.has (93 - 1) with
  | true => (seeV (.sl 0 (0 : Nat) (none : Option Nat) (none : Option Nat)) (ρ.get 0) F (seeI .i64 (ρ.get 1) F fun i_1 => (seeI .i64 (ρ.get 2) F fun i_2 => (seeV (.ptr 1 (0 : Nat) 0) (ρ.get 6) F (seeV (.I .i64 (3 : Int)) (ρ.get 8) F (seeV (.ptr 2 (0 : Nat) 0) (ρ.get 9) F (seeV (.sl 3 (0 : Nat) (none : Option Nat) (none : Option Nat)) (ρ.get 10) F (seeI .i64 (ρ.get 11) F fun i_11 => (seeV (.agg [(.I .i64 (0 : Int)), .nilf, .nilf, .nilf, (.I .i64 (19 : Int)), (.fn (.func 59) [] []), (.fn (.func 60) [] []), (.fn (.func 61) [] [(.ptr 4 (0 : Nat) 0)]), (.I .i64 (20 : Int)), (.fn (.func 62) [] []), (.fn (.func 63) [] []), (.fn (.func 64) [] [(.ptr 4 (0 : Nat) 0)]), (.I .i64 (22 : Int)), (.fn (.func 65) [] []), (.fn (.func 66) [] []), (.fn (.func 67) [] []), (.I .i64 (23 : Int)), (.fn (.func 68) [] []), (.fn (.func 69) [] []), (.fn (.func 67) [] [])]) (ρ.get 27) F (seeV (.I .i64 (3 : Int)) (ρ.get 28) F (seeI .i64 (ρ.get 49) F fun i_49 => (seeCons m F fun a12 q13 => (seeBlk 5 false false a12 F fun cs14 => (seeCons cs14 F fun a15 q16 => (seeInts .u8 a15 F fun xs_m_0_0 => (seeNil q16 F (seeCons q13 F fun a17 q18 => (seeBlk 88 false true a17 F fun cs19 => (seeCons cs19 F fun a20 q21 => (seeInts .i64 a20 F fun xs22 => (seeX ([(0 : Int)] : List Int) xs22 F (seeCons q21 F fun a23 q24 => (seeInts .i64 a23 F fun xs25 => (seeX ([(0 : Int)] : List Int) xs25 F (seeCons q24 F fun a26 q27 => (seeInts .i64 a26 F fun xs28 => (seeX ([(0 : Int)] : List Int) xs28 F (seeCons q27 F fun a29 q30 => (seeInts .i64 a29 F fun xs31 => (seeX ([(0 : Int)] : List Int) xs31 F (seeNil q30 F (seeCons q18 F fun a32 q33 => (seeBlk 83 false true a32 F fun cs34 => (seeCons cs34 F fun a35 q36 => (seeInts .i64 a35 F fun xs37 => (seeX ([(22 : Int)] : List Int) xs37 F (seeCons q36 F fun a38 q39 => (seeVals a38 F fun xs40 => (seeCons xs40 F fun a41 q42 => (seeV (.fn (.func 65) [] []) a41 F (seeNil q42 F (seeCons q39 F fun a43 q44 => (seeVals a43 F fun xs45 => (seeCons xs45 F fun a46 q47 => (seeV (.fn (.func 66) [] []) a46 F (seeNil q47 F (seeCons q44 F fun a48 q49 => (seeVals a48 F fun xs50 => (seeCons xs50 F fun a51 q52 => (seeV (.fn (.func 67) [] []) a51 F (seeNil q52 F (seeNil q49 F (seeCons q33 F fun a53 q54 => (seeBlk 32 false true a53 F fun cs55 => (seeCons cs55 F fun a56 q57 => (seeInts .i64 a56 F fun xs58 => (seeX ([(3 : Int)] : List Int) xs58 F (seeCons q57 F fun a59 q60 => (seeInts .i64 a59 F fun xs61 => (seeX ([(4 : Int)] : List Int) xs61 F (seeCons q60 F fun a62 q63 => (seeInts .i64 a62 F fun xs64 => (seeX ([(22 : Int)] : List Int) xs64 F (seeCons q63 F fun a65 q66 => (seeStrs a65 F fun xs67 => (seeCons xs67 F fun a68 q69 => (seeX ([(120 : Int)] : List Int) a68 F (seeNil q69 F (seeCons q66 F fun a70 q71 => (seeInts .i64 a70 F fun xs72 => (seeX ([(-4 : Int)] : List Int) xs72 F (seeNil q71 F (seeCons q54 F fun a73 q74 => (seeBlk 22 false true a73 F fun cs75 => (seeCons cs75 F fun a76 q77 => (seeVals a76 F fun xs78 => (seeCons xs78 F fun a79 q80 => (seeV (.sl 5 (0 : Nat) (none : Option Nat) (none : Option Nat)) a79 F (seeNil q80 F (seeNil q77 F (seeCons q74 F fun a81 q82 => (seeBlk 5 false true a81 F fun cs83 => (seeCons cs83 F fun a84 q85 => (seeInts .u8 a84 F fun xs_m_5_0 => (seeNil q85 F (seeNil q82 F (l x i_1 i_2 i_11 i_49 xs_m_0_0 xs_m_5_0 (K .ret (selE 93 [(0, (.sl 0 (0 : Nat) (none : Option Nat) (none : Option Nat))), (1, (.I .i64 i_1)), (2, (.I .i64 i_2)), (6, (.ptr 1 (0 : Nat) 0)), (7, (.B false)), (27, (.agg [(.I .i64 (0 : Int)), .nilf, .nilf, .nilf, (.I .i64 (19 : Int)), (.fn (.func 59) [] []), (.fn (.func 60) [] []), (.fn (.func 61) [] [(.ptr 2 (0 : Nat) 0)]), (.I .i64 (20 : Int)), (.fn (.func 62) [] []), (.fn (.func 63) [] []), (.fn (.func 64) [] [(.ptr 2 (0 : Nat) 0)]), (.I .i64 (22 : Int)), (.fn (.func 65) [] []), (.fn (.func 66) [] []), (.fn (.func 67) [] []), (.I .i64 (23 : Int)), (.fn (.func 68) [] []), (.fn (.func 69) [] []), (.fn (.func 67) [] [])])), (28, (.I .i64 (3 : Int)))]) [⟨[.ints .u8 xs_m_0_0], 5, false, false⟩, ⟨[.ints .i64 ([(0 : Int)] : List Int), .ints .i64 ([(0 : Int)] : List Int), .ints .i64 ([(0 : Int)] : List Int), .ints .i64 ([(0 : Int)] : List Int)], 88, false, true⟩, ⟨[.vals [(.sl 3 (0 : Nat) (none : Option Nat) (none : Option Nat))]], 22, false, true⟩, ⟨[.ints .u8 xs_m_5_0], 5, false, true⟩]) (fun (u0 : Int) => K .ret (selE 93 [(0, (.sl 0 (0 : Nat) (none : Option Nat) (none : Option Nat))), (1, (.I .i64 i_1)), (2, (.I .i64 i_2)), (6, (.ptr 1 (0 : Nat) 0)), (7, (.B true)), (27, (.agg [(.I .i64 (0 : Int)), .nilf, .nilf, .nilf, (.I .i64 (19 : Int)), (.fn (.func 59) [] []), (.fn (.func 60) [] []), (.fn (.func 61) [] [(.ptr 2 (0 : Nat) 0)]), (.I .i64 (20 : Int)), (.fn (.func 62) [] []), (.fn (.func 63) [] []), (.fn (.func 64) [] [(.ptr 2 (0 : Nat) 0)]), (.I .i64 (22 : Int)), (.fn (.func 65) [] []), (.fn (.func 66) [] []), (.fn (.func 67) [] []), (.I .i64 (23 : Int)), (.fn (.func 68) [] []), (.fn (.func 69) [] []), (.fn (.func 67) [] [])])), (28, (.I .i64 (3 : Int)))]) [⟨[.ints .u8 xs_m_0_0], 5, false, false⟩, ⟨[.ints .i64 ([(3 : Int)] : List Int), .ints .i64 ([i_11] : List Int), .ints .i64 ([(7 : Int)] : List Int), .ints .i64 ([u0] : List Int)], 88, false, true⟩, ⟨[.vals [(.sl 3 (0 : Nat) (none : Option Nat) (none : Option Nat))]], 22, false, true⟩, ⟨[.ints .u8 xs_m_5_0], 5, false, true⟩]) (K (.exit 2) (selE 93 [(0, (.sl 0 (0 : Nat) (none : Option Nat) (none : Option Nat))), (1, (.I .i64 i_1)), (2, (.I .i64 i_2)), (6, (.ptr 1 (0 : Nat) 0)), (7, .undef), (27, (.agg [(.I .i64 (0 : Int)), .nilf, .nilf, .nilf, (.I .i64 (19 : Int)), (.fn (.func 59) [] []), (.fn (.func 60) [] []), (.fn (.func 61) [] [(.ptr 2 (0 : Nat) 0)]), (.I .i64 (20 : Int)), (.fn (.func 62) [] []), (.fn (.func 63) [] []), (.fn (.func 64) [] [(.ptr 2 (0 : Nat) 0)]), (.I .i64 (22 : Int)), (.fn (.func 65) [] []), (.fn (.func 66) [] []), (.fn (.func 67) [] []), (.I .i64 (23 : Int)), (.fn (.func 68) [] []), (.fn (.func 69) [] []), (.fn (.func 67) [] [])])), (28, (.I .i64 (3 : Int)))]) [⟨[.ints .u8 xs_m_0_0], 5, false, false⟩, ⟨[.ints .i64 ([(0 : Int)] : List Int), .ints .i64 ([(0 : Int)] : List Int), .ints .i64 ([(0 : Int)] : List Int), .ints .i64 ([(0 : Int)] : List Int)], 88, false, true⟩, ⟨[.vals [(.sl 3 (0 : Nat) (none : Option Nat) (none : Option Nat))]], 22, false, true⟩, ⟨[.ints .u8 xs_m_5_0], 5, false, true⟩]))))))))))))))))))))))))))))))))))))))))))))))))))))))))))))))))))))))))))))))))))))))))
  | false => False
def WL45_10f (l : YL45_10f) (W : Masks) : Masks := fun r =>
  match Nat.beq r 10 with
  | true => some fun x ρ m K => VL45_10f l (match W r with | some lf => lf x ρ m K | none => False) x (tidyE 1 [0, 1, 2, 6, 8, 9, 10, 11, 27, 28, 49] ρ m) (tidyM 1 [0, 1, 2, 6, 8, 9, 10, 11, 27, 28, 49] ρ m) K
  | false => W r
set_option maxRecDepth 100000 in
theorem WL45_10f_ok {W : Masks} (hW : LoopsOk Try.prog 1 W) : LoopsOk Try.prog 1 (WL45_10f GL45_10f W) := by
  intro r lf h
  unfold WL45_10f at h
  split at h
  · cases h
    intro x E0 m0 w0 ds hS0 ha ρ m K E a w Q hS hρ hd h hQ
    have fb : (match W r with | some lf => lf x ρ m K | none => False) → (Code.loop x).wp Try.prog Q a w := fun h => by
      split at h
      · rename_i lf hlf
        exact hW r lf hlf x hS0 ha ρ m K E a w Q hS hρ hd h hQ
      · cases h
    obtain ⟨E2, hS2, hρ2⟩ := tidy_rel hS0 hS hρ [0, 1, 2, 6, 8, 9, 10, 11, 27, 28, 49]
    rw [ha] at hS2 hρ2
    unfold VL45_10f at h
    split at h
    · rename_i hlen
      replace h := seeV_use h
      rcases h with h | ⟨e1, h⟩
      · exact fb h
      replace h := seeI_use h
      rcases h with h | ⟨i_1, e2, h⟩
      · exact fb h
      replace h := seeI_use h
      rcases h with h | ⟨i_2, e3, h⟩
      · exact fb h
      replace h := seeV_use h
      rcases h with h | ⟨e4, h⟩
      · exact fb h
      replace h := seeV_use h
      rcases h with h | ⟨e5, h⟩
      · exact fb h
      replace h := seeV_use h
      rcases h with h | ⟨e6, h⟩
      · exact fb h
      replace h := seeV_use h
      rcases h with h | ⟨e7, h⟩
      · exact fb h
      replace h := seeI_use h
      rcases h with h | ⟨i_11, e8, h⟩
      · exact fb h
      replace h := seeV_use h
      rcases h with h | ⟨e9, h⟩
      · exact fb h
      replace h := seeV_use h
      rcases h with h | ⟨e10, h⟩
      · exact fb h
      replace h := seeI_use h
      rcases h with h | ⟨i_49, e11, h⟩
      · exact fb h
      replace h := seeCons_use h
      rcases h with h | ⟨a12, q13, eqm, h⟩
      · exact fb h
      replace h := seeBlk_use h
      rcases h with h | ⟨cs14, rfl, h⟩
      · exact fb h
      replace h := seeCons_use h
      rcases h with h | ⟨a15, q16, rfl, h⟩
      · exact fb h
      replace h := seeInts_use h
      rcases h with h | ⟨xs_m_0_0, rfl, h⟩
      · exact fb h
      replace h := seeNil_use h
      rcases h with h | ⟨rfl, h⟩
      · exact fb h
      replace h := seeCons_use h
      rcases h with h | ⟨a17, q18, rfl, h⟩
      · exact fb h
      replace h := seeBlk_use h
      rcases h with h | ⟨cs19, rfl, h⟩
      · exact fb h
      replace h := seeCons_use h
      rcases h with h | ⟨a20, q21, rfl, h⟩
      · exact fb h
      replace h := seeInts_use h
      rcases h with h | ⟨xs22, rfl, h⟩
      · exact fb h
      replace h := seeX_use h
      rcases h with h | ⟨rfl, h⟩
      · exact fb h
      replace h := seeCons_use h
      rcases h with h | ⟨a23, q24, rfl, h⟩
      · exact fb h
      replace h := seeInts_use h
      rcases h with h | ⟨xs25, rfl, h⟩
      · exact fb h
      replace h := seeX_use h
      rcases h with h | ⟨rfl, h⟩
      · exact fb h
      replace h := seeCons_use h
      rcases h with h | ⟨a26, q27, rfl, h⟩
      · exact fb h
      replace h := seeInts_use h
      rcases h with h | ⟨xs28, rfl, h⟩
      · exact fb h
      replace h := seeX_use h
      rcases h with h | ⟨rfl, h⟩
      · exact fb h
      replace h := seeCons_use h
      rcases h with h | ⟨a29, q30, rfl, h⟩
      · exact fb h
      replace h := seeInts_use h
      rcases h with h | ⟨xs31, rfl, h⟩
      · exact fb h
      replace h := seeX_use h
      rcases h with h | ⟨rfl, h⟩
      · exact fb h
      replace h := seeNil_use h
      rcases h with h | ⟨rfl, h⟩
      · exact fb h
      replace h := seeCons_use h
      rcases h with h | ⟨a32, q33, rfl, h⟩
      · exact fb h
      replace h := seeBlk_use h
      rcases h with h | ⟨cs34, rfl, h⟩
      · exact fb h
      replace h := seeCons_use h
      rcases h with h | ⟨a35, q36, rfl, h⟩
      · exact fb h
      replace h := seeInts_use h
      rcases h with h | ⟨xs37, rfl, h⟩
      · exact fb h
      replace h := seeX_use h
      rcases h with h | ⟨rfl, h⟩
      · exact fb h
      replace h := seeCons_use h
      rcases h with h | ⟨a38, q39, rfl, h⟩
      · exact fb h
      replace h := seeVals_use h
      rcases h with h | ⟨xs40, rfl, h⟩
      · exact fb h
      replace h := seeCons_use h
      rcases h with h | ⟨a41, q42, rfl, h⟩
      · exact fb h
      replace h := seeV_use h
      rcases h with h | ⟨rfl, h⟩
      · exact fb h
      replace h := seeNil_use h
      rcases h with h | ⟨rfl, h⟩
      · exact fb h
      replace h := seeCons_use h
      rcases h with h | ⟨a43, q44, rfl, h⟩
      · exact fb h
      replace h := seeVals_use h
      rcases h with h | ⟨xs45, rfl, h⟩
      · exact fb h
      replace h := seeCons_use h
      rcases h with h | ⟨a46, q47, rfl, h⟩
      · exact fb h
      replace h := seeV_use h
      rcases h with h | ⟨rfl, h⟩
      · exact fb h
      replace h := seeNil_use h
      rcases h with h | ⟨rfl, h⟩
      · exact fb h
      replace h := seeCons_use h
      rcases h with h | ⟨a48, q49, rfl, h⟩
      · exact fb h
      replace h := seeVals_use h
      rcases h with h | ⟨xs50, rfl, h⟩
      · exact fb h
      replace h := seeCons_use h
      rcases h with h | ⟨a51, q52, rfl, h⟩
      · exact fb h
      replace h := seeV_use h
      rcases h with h | ⟨rfl, h⟩
      · exact fb h
      replace h := seeNil_use h
      rcases h with h | ⟨rfl, h⟩
      · exact fb h
      replace h := seeNil_use h
      rcases h with h | ⟨rfl, h⟩
      · exact fb h
      replace h := seeCons_use h
      rcases h with h | ⟨a53, q54, rfl, h⟩
      · exact fb h
      replace h := seeBlk_use h
      rcases h with h | ⟨cs55, rfl, h⟩
      · exact fb h
      replace h := seeCons_use h
      rcases h with h | ⟨a56, q57, rfl, h⟩
      · exact fb h
      replace h := seeInts_use h
      rcases h with h | ⟨xs58, rfl, h⟩
      · exact fb h
      replace h := seeX_use h
      rcases h with h | ⟨rfl, h⟩
      · exact fb h
      replace h := seeCons_use h
      rcases h with h | ⟨a59, q60, rfl, h⟩
      · exact fb h
      replace h := seeInts_use h
      rcases h with h | ⟨xs61, rfl, h⟩
      · exact fb h
      replace h := seeX_use h
      rcases h with h | ⟨rfl, h⟩
      · exact fb h
      replace h := seeCons_use h
      rcases h with h | ⟨a62, q63, rfl, h⟩
      · exact fb h
      replace h := seeInts_use h
      rcases h with h | ⟨xs64, rfl, h⟩
      · exact fb h
      replace h := seeX_use h
      rcases h with h | ⟨rfl, h⟩
      · exact fb h
      replace h := seeCons_use h
      rcases h with h | ⟨a65, q66, rfl, h⟩
      · exact fb h
      replace h := seeStrs_use h
      rcases h with h | ⟨xs67, rfl, h⟩
      · exact fb h
      replace h := seeCons_use h
      rcases h with h | ⟨a68, q69, rfl, h⟩
      · exact fb h
      replace h := seeX_use h
      rcases h with h | ⟨rfl, h⟩
      · exact fb h
      replace h := seeNil_use h
      rcases h with h | ⟨rfl, h⟩
      · exact fb h
      replace h := seeCons_use h
      rcases h with h | ⟨a70, q71, rfl, h⟩
      · exact fb h
      replace h := seeInts_use h
      rcases h with h | ⟨xs72, rfl, h⟩
      · exact fb h
      replace h := seeX_use h
      rcases h with h | ⟨rfl, h⟩
      · exact fb h
      replace h := seeNil_use h
      rcases h with h | ⟨rfl, h⟩
      · exact fb h
      replace h := seeCons_use h
      rcases h with h | ⟨a73, q74, rfl, h⟩
      · exact fb h
      replace h := seeBlk_use h
      rcases h with h | ⟨cs75, rfl, h⟩
      · exact fb h
      replace h := seeCons_use h
      rcases h with h | ⟨a76, q77, rfl, h⟩
      · exact fb h
      replace h := seeVals_use h
      rcases h with h | ⟨xs78, rfl, h⟩
      · exact fb h
      replace h := seeCons_use h
      rcases h with h | ⟨a79, q80, rfl, h⟩
      · exact fb h
      replace h := seeV_use h
      rcases h with h | ⟨rfl, h⟩
      · exact fb h
      replace h := seeNil_use h
      rcases h with h | ⟨rfl, h⟩
      · exact fb h
      replace h := seeNil_use h
      rcases h with h | ⟨rfl, h⟩
      · exact fb h
      replace h := seeCons_use h
      rcases h with h | ⟨a81, q82, rfl, h⟩
      · exact fb h
      replace h := seeBlk_use h
      rcases h with h | ⟨cs83, rfl, h⟩
      · exact fb h
      replace h := seeCons_use h
      rcases h with h | ⟨a84, q85, rfl, h⟩
      · exact fb h
      replace h := seeInts_use h
      rcases h with h | ⟨xs_m_5_0, rfl, h⟩
      · exact fb h
      replace h := seeNil_use h
      rcases h with h | ⟨rfl, h⟩
      · exact fb h
      replace h := seeNil_use h
      rcases h with h | ⟨rfl, h⟩
      · exact fb h
      obtain ⟨rfl, n, h⟩ := h
      exact loop_use named (T70_1_ok C0_ok) (LoopsOk.none _ _) (RL45_10f_ok G70_1 K n _ _ _ _ _ _) h hS0 ha hlen ⟨e1, e2, e3, e4, e5, e6, e7, e8, e9, e10, e11, trivial⟩ (eqm ▸ hS2) hρ2 hd hQ
    · cases h
  · exact hW r lf h
abbrev YL45_10g : Type := Code → Int → Int → Int → Int → List Int → List Int → (Prop) → (Int → Prop) → (Prop) → Prop
set_option maxHeartbeats 4000000 in
set_option maxRecDepth 100000 in
def HL45_10g (f70_2 : Y70_2) (rec : Int → Prop) (i_1 : Int) (i_2 : Int) (i_11 : Int) (i_49 : Int) (xs_m_0_0 : List Int) (xs_m_5_0 : List Int) (k1 : Prop) (k2 : Int → Prop) (k3 : Prop) : Prop :=
  (bif (decide (i_49 < (16 : Int))) then (bif (decide (i_1 < (0 : Int))) then (k1) else (bif (decide (i_11 < (0 : Int))) then (k1) else (bif (decide (i_11 > (IntKind.wrap .i64 (((((List.length xs_m_0_0) - (0 : Nat)) : Nat) : Int) - (12 : Int))))) then (k1) else (bif ((decide ((0 : Int) ≤ (IntKind.wrap .i64 (i_11 + (12 : Int))))) && ((decide ((Int.toNat (IntKind.wrap .i64 (i_11 + (12 : Int)))) ≤ ((List.length xs_m_0_0) - (0 : Nat)))) && ((decide ((0 : Int) ≤ i_11)) && (decide (i_11 ≤ (IntKind.wrap .i64 (i_11 + (12 : Int)))))))) then (f70_2 (Int.toNat i_11) ((Int.toNat (IntKind.wrap .i64 (i_11 + (12 : Int)))) - (Int.toNat i_11)) xs_m_0_0 (3 : Int) (8 : Int) (20 : Int) (4 : Int) ([(120 : Int)] : List Int) ([(95 : Int), (95 : Int), (116 : Int), (108 : Int), (115 : Int), (95 : Int), (103 : Int), (101 : Int), (116 : Int), (95 : Int), (97 : Int), (100 : Int), (100 : Int), (114 : Int)] : List Int) (-4 : Int) (-4 : Int) (fun (xs2 : List Int) => (bif (xs2 == ([(72 : Int), (141 : Int), (61 : Int), (0 : Int), (0 : Int), (0 : Int), (0 : Int), (232 : Int), (0 : Int), (0 : Int), (0 : Int), (0 : Int)] : List Int)) then (k2 i_49) else (rec (IntKind.wrap .i64 (i_49 + (1 : Int))))))) else False)))) else (k3))
def RL45_10g (f70_2 : Y70_2) : Nat → Int → Int → Int → Int → List Int → List Int → (Prop) → (Int → Prop) → (Prop) → Prop
  | 0, _, _, _, _, _, _, _, _, _ => False
  | n + 1, i_1, i_2, i_11, i_49, xs_m_0_0, xs_m_5_0, k1, k2, k3 => HL45_10g f70_2 (fun (i_49 : Int) => RL45_10g f70_2 n i_1 i_2 i_11 i_49 xs_m_0_0 xs_m_5_0 k1 k2 k3) i_1 i_2 i_11 i_49 xs_m_0_0 xs_m_5_0 k1 k2 k3
noncomputable def XL45_10g : Code := sub [true, true, false, true, false, false, true, true, false, false, true, true, true, true, true, false, false] (bodyOf Try.prog 45)
theorem HL45_10g_ok (f70_2 : Y70_2) (n : Nat) (i_1 : Int) (i_2 : Int) (i_11 : Int) (i_49 : Int) (xs_m_0_0 : List Int) (xs_m_5_0 : List Int) (K : Ex → Env → Mem → Prop) : cround 1 [0, 1, 2, 6, 8, 9, 10, 11, 27, 28, 49] [0, 1, 2, 6, 7, 27, 28] (fun ρ m K => cexec Try.prog (T70_2 f70_2 C0) (fun _ => none) 1 1000 XL45_10g ρ m K) (n + 1) (selE 93 [(0, (.sl 0 (0 : Nat) (none : Option Nat) (none : Option Nat))), (1, (.I .i64 i_1)), (2, (.I .i64 i_2)), (6, (.ptr 1 (0 : Nat) 0)), (8, (.I .i64 (2 : Int))), (9, (.ptr 2 (0 : Nat) 0)), (10, (.sl 3 (0 : Nat) (none : Option Nat) (none : Option Nat))), (11, (.I .i64 i_11)), (27, (.agg [(.I .i64 (0 : Int)), .nilf, .nilf, .nilf, (.I .i64 (19 : Int)), (.fn (.func 59) [] []), (.fn (.func 60) [] []), (.fn (.func 61) [] [(.ptr 4 (0 : Nat) 0)]), (.I .i64 (20 : Int)), (.fn (.func 62) [] []), (.fn (.func 63) [] []), (.fn (.func 64) [] [(.ptr 4 (0 : Nat) 0)]), (.I .i64 (22 : Int)), (.fn (.func 65) [] []), (.fn (.func 66) [] []), (.fn (.func 67) [] []), (.I .i64 (23 : Int)), (.fn (.func 68) [] []), (.fn (.func 69) [] []), (.fn (.func 67) [] [])])), (28, (.I .i64 (2 : Int))), (49, (.I .i64 i_49))]) [⟨[.ints .u8 xs_m_0_0], 5, false, false⟩, ⟨[.ints .i64 ([(0 : Int)] : List Int), .ints .i64 ([(0 : Int)] : List Int), .ints .i64 ([(0 : Int)] : List Int), .ints .i64 ([(0 : Int)] : List Int)], 88, false, true⟩, ⟨[.ints .i64 ([(20 : Int)] : List Int), .vals [(.fn (.func 62) [] [])], .vals [(.fn (.func 63) [] [])], .vals [(.fn (.func 64) [] [(.ptr 4 (0 : Nat) 0)])]], 83, false, true⟩, ⟨[.ints .i64 ([(3 : Int), (8 : Int)] : List Int), .ints .i64 ([(4 : Int), (4 : Int)] : List Int), .ints .i64 ([(20 : Int), (4 : Int)] : List Int), .strs ([([(120 : Int)] : List Int), ([(95 : Int), (95 : Int), (116 : Int), (108 : Int), (115 : Int), (95 : Int), (103 : Int), (101 : Int), (116 : Int), (95 : Int), (97 : Int), (100 : Int), (100 : Int), (114 : Int)] : List Int)] : List (List Int)), .ints .i64 ([(-4 : Int), (-4 : Int)] : List Int)], 32, false, true⟩, ⟨[.vals [(.sl 5 (0 : Nat) (none : Option Nat) (none : Option Nat))]], 22, false, true⟩, ⟨[.ints .u8 xs_m_5_0], 5, false, true⟩] K =
    HL45_10g f70_2 (fun (i_49 : Int) => cround 1 [0, 1, 2, 6, 8, 9, 10, 11, 27, 28, 49] [0, 1, 2, 6, 7, 27, 28] (fun ρ m K => cexec Try.prog (T70_2 f70_2 C0) (fun _ => none) 1 1000 XL45_10g ρ m K) n (selE 93 [(0, (.sl 0 (0 : Nat) (none : Option Nat) (none : Option Nat))), (1, (.I .i64 i_1)), (2, (.I .i64 i_2)), (6, (.ptr 1 (0 : Nat) 0)), (8, (.I .i64 (2 : Int))), (9, (.ptr 2 (0 : Nat) 0)), (10, (.sl 3 (0 : Nat) (none : Option Nat) (none : Option Nat))), (11, (.I .i64 i_11)), (27, (.agg [(.I .i64 (0 : Int)), .nilf, .nilf, .nilf, (.I .i64 (19 : Int)), (.fn (.func 59) [] []), (.fn (.func 60) [] []), (.fn (.func 61) [] [(.ptr 4 (0 : Nat) 0)]), (.I .i64 (20 : Int)), (.fn (.func 62) [] []), (.fn (.func 63) [] []), (.fn (.func 64) [] [(.ptr 4 (0 : Nat) 0)]), (.I .i64 (22 : Int)), (.fn (.func 65) [] []), (.fn (.func 66) [] []), (.fn (.func 67) [] []), (.I .i64 (23 : Int)), (.fn (.func 68) [] []), (.fn (.func 69) [] []), (.fn (.func 67) [] [])])), (28, (.I .i64 (2 : Int))), (49, (.I .i64 i_49))]) [⟨[.ints .u8 xs_m_0_0], 5, false, false⟩, ⟨[.ints .i64 ([(0 : Int)] : List Int), .ints .i64 ([(0 : Int)] : List Int), .ints .i64 ([(0 : Int)] : List Int), .ints .i64 ([(0 : Int)] : List Int)], 88, false, true⟩, ⟨[.ints .i64 ([(20 : Int)] : List Int), .vals [(.fn (.func 62) [] [])], .vals [(.fn (.func 63) [] [])], .vals [(.fn (.func 64) [] [(.ptr 4 (0 : Nat) 0)])]], 83, false, true⟩, ⟨[.ints .i64 ([(3 : Int), (8 : Int)] : List Int), .ints .i64 ([(4 : Int), (4 : Int)] : List Int), .ints .i64 ([(20 : Int), (4 : Int)] : List Int), .strs ([([(120 : Int)] : List Int), ([(95 : Int), (95 : Int), (116 : Int), (108 : Int), (115 : Int), (95 : Int), (103 : Int), (101 : Int), (116 : Int), (95 : Int), (97 : Int), (100 : Int), (100 : Int), (114 : Int)] : List Int)] : List (List Int)), .ints .i64 ([(-4 : Int), (-4 : Int)] : List Int)], 32, false, true⟩, ⟨[.vals [(.sl 5 (0 : Nat) (none : Option Nat) (none : Option Nat))]], 22, false, true⟩, ⟨[.ints .u8 xs_m_5_0], 5, false, true⟩] K) i_1 i_2 i_11 i_49 xs_m_0_0 xs_m_5_0 (K .ret (selE 93 [(0, (.sl 0 (0 : Nat) (none : Option Nat) (none : Option Nat))), (1, (.I .i64 i_1)), (2, (.I .i64 i_2)), (6, (.ptr 1 (0 : Nat) 0)), (7, (.B false)), (27, (.agg [(.I .i64 (0 : Int)), .nilf, .nilf, .nilf, (.I .i64 (19 : Int)), (.fn (.func 59) [] []), (.fn (.func 60) [] []), (.fn (.func 61) [] [(.ptr 2 (0 : Nat) 0)]), (.I .i64 (20 : Int)), (.fn (.func 62) [] []), (.fn (.func 63) [] []), (.fn (.func 64) [] [(.ptr 2 (0 : Nat) 0)]), (.I .i64 (22 : Int)), (.fn (.func 65) [] []), (.fn (.func 66) [] []), (.fn (.func 67) [] []), (.I .i64 (23 : Int)), (.fn (.func 68) [] []), (.fn (.func 69) [] []), (.fn (.func 67) [] [])])), (28, (.I .i64 (2 : Int)))]) [⟨[.ints .u8 xs_m_0_0], 5, false, false⟩, ⟨[.ints .i64 ([(0 : Int)] : List Int), .ints .i64 ([(0 : Int)] : List Int), .ints .i64 ([(0 : Int)] : List Int), .ints .i64 ([(0 : Int)] : List Int)], 88, false, true⟩, ⟨[.vals [(.sl 3 (0 : Nat) (none : Option Nat) (none : Option Nat))]], 22, false, true⟩, ⟨[.ints .u8 xs_m_5_0], 5, false, true⟩]) (fun (u0 : Int) => K .ret (selE 93 [(0, (.sl 0 (0 : Nat) (none : Option Nat) (none : Option Nat))), (1, (.I .i64 i_1)), (2, (.I .i64 i_2)), (6, (.ptr 1 (0 : Nat) 0)), (7, (.B true)), (27, (.agg [(.I .i64 (0 : Int)), .nilf, .nilf, .nilf, (.I .i64 (19 : Int)), (.fn (.func 59) [] []), (.fn (.func 60) [] []), (.fn (.func 61) [] [(.ptr 2 (0 : Nat) 0)]), (.I .i64 (20 : Int)), (.fn (.func 62) [] []), (.fn (.func 63) [] []), (.fn (.func 64) [] [(.ptr 2 (0 : Nat) 0)]), (.I .i64 (22 : Int)), (.fn (.func 65) [] []), (.fn (.func 66) [] []), (.fn (.func 67) [] []), (.I .i64 (23 : Int)), (.fn (.func 68) [] []), (.fn (.func 69) [] []), (.fn (.func 67) [] [])])), (28, (.I .i64 (2 : Int)))]) [⟨[.ints .u8 xs_m_0_0], 5, false, false⟩, ⟨[.ints .i64 ([(2 : Int)] : List Int), .ints .i64 ([i_11] : List Int), .ints .i64 ([(12 : Int)] : List Int), .ints .i64 ([u0] : List Int)], 88, false, true⟩, ⟨[.vals [(.sl 3 (0 : Nat) (none : Option Nat) (none : Option Nat))]], 22, false, true⟩, ⟨[.ints .u8 xs_m_5_0], 5, false, true⟩]) (K (.exit 2) (selE 93 [(0, (.sl 0 (0 : Nat) (none : Option Nat) (none : Option Nat))), (1, (.I .i64 i_1)), (2, (.I .i64 i_2)), (6, (.ptr 1 (0 : Nat) 0)), (7, .undef), (27, (.agg [(.I .i64 (0 : Int)), .nilf, .nilf, .nilf, (.I .i64 (19 : Int)), (.fn (.func 59) [] []), (.fn (.func 60) [] []), (.fn (.func 61) [] [(.ptr 2 (0 : Nat) 0)]), (.I .i64 (20 : Int)), (.fn (.func 62) [] []), (.fn (.func 63) [] []), (.fn (.func 64) [] [(.ptr 2 (0 : Nat) 0)]), (.I .i64 (22 : Int)), (.fn (.func 65) [] []), (.fn (.func 66) [] []), (.fn (.func 67) [] []), (.I .i64 (23 : Int)), (.fn (.func 68) [] []), (.fn (.func 69) [] []), (.fn (.func 67) [] [])])), (28, (.I .i64 (2 : Int)))]) [⟨[.ints .u8 xs_m_0_0], 5, false, false⟩, ⟨[.ints .i64 ([(0 : Int)] : List Int), .ints .i64 ([(0 : Int)] : List Int), .ints .i64 ([(0 : Int)] : List Int), .ints .i64 ([(0 : Int)] : List Int)], 88, false, true⟩, ⟨[.vals [(.sl 3 (0 : Nat) (none : Option Nat) (none : Option Nat))]], 22, false, true⟩, ⟨[.ints .u8 xs_m_5_0], 5, false, true⟩]) := by kernel_rfl
theorem RL45_10g_ok (f70_2 : Y70_2) (K : Ex → Env → Mem → Prop) : ∀ (n : Nat) (i_1 : Int) (i_2 : Int) (i_11 : Int) (i_49 : Int) (xs_m_0_0 : List Int) (xs_m_5_0 : List Int), cround 1 [0, 1, 2, 6, 8, 9, 10, 11, 27, 28, 49] [0, 1, 2, 6, 7, 27, 28] (fun ρ m K => cexec Try.prog (T70_2 f70_2 C0) (fun _ => none) 1 1000 XL45_10g ρ m K) n (selE 93 [(0, (.sl 0 (0 : Nat) (none : Option Nat) (none : Option Nat))), (1, (.I .i64 i_1)), (2, (.I .i64 i_2)), (6, (.ptr 1 (0 : Nat) 0)), (8, (.I .i64 (2 : Int))), (9, (.ptr 2 (0 : Nat) 0)), (10, (.sl 3 (0 : Nat) (none : Option Nat) (none : Option Nat))), (11, (.I .i64 i_11)), (27, (.agg [(.I .i64 (0 : Int)), .nilf, .nilf, .nilf, (.I .i64 (19 : Int)), (.fn (.func 59) [] []), (.fn (.func 60) [] []), (.fn (.func 61) [] [(.ptr 4 (0 : Nat) 0)]), (.I .i64 (20 : Int)), (.fn (.func 62) [] []), (.fn (.func 63) [] []), (.fn (.func 64) [] [(.ptr 4 (0 : Nat) 0)]), (.I .i64 (22 : Int)), (.fn (.func 65) [] []), (.fn (.func 66) [] []), (.fn (.func 67) [] []), (.I .i64 (23 : Int)), (.fn (.func 68) [] []), (.fn (.func 69) [] []), (.fn (.func 67) [] [])])), (28, (.I .i64 (2 : Int))), (49, (.I .i64 i_49))]) [⟨[.ints .u8 xs_m_0_0], 5, false, false⟩, ⟨[.ints .i64 ([(0 : Int)] : List Int), .ints .i64 ([(0 : Int)] : List Int), .ints .i64 ([(0 : Int)] : List Int), .ints .i64 ([(0 : Int)] : List Int)], 88, false, true⟩, ⟨[.ints .i64 ([(20 : Int)] : List Int), .vals [(.fn (.func 62) [] [])], .vals [(.fn (.func 63) [] [])], .vals [(.fn (.func 64) [] [(.ptr 4 (0 : Nat) 0)])]], 83, false, true⟩, ⟨[.ints .i64 ([(3 : Int), (8 : Int)] : List Int), .ints .i64 ([(4 : Int), (4 : Int)] : List Int), .ints .i64 ([(20 : Int), (4 : Int)] : List Int), .strs ([([(120 : Int)] : List Int), ([(95 : Int), (95 : Int), (116 : Int), (108 : Int), (115 : Int), (95 : Int), (103 : Int), (101 : Int), (116 : Int), (95 : Int), (97 : Int), (100 : Int), (100 : Int), (114 : Int)] : List Int)] : List (List Int)), .ints .i64 ([(-4 : Int), (-4 : Int)] : List Int)], 32, false, true⟩, ⟨[.vals [(.sl 5 (0 : Nat) (none : Option Nat) (none : Option Nat))]], 22, false, true⟩, ⟨[.ints .u8 xs_m_5_0], 5, false, true⟩] K = RL45_10g f70_2 n i_1 i_2 i_11 i_49 xs_m_0_0 xs_m_5_0 (K .ret (selE 93 [(0, (.sl 0 (0 : Nat) (none : Option Nat) (none : Option Nat))), (1, (.I .i64 i_1)), (2, (.I .i64 i_2)), (6, (.ptr 1 (0 : Nat) 0)), (7, (.B false)), (27, (.agg [(.I .i64 (0 : Int)), .nilf, .nilf, .nilf, (.I .i64 (19 : Int)), (.fn (.func 59) [] []), (.fn (.func 60) [] []), (.fn (.func 61) [] [(.ptr 2 (0 : Nat) 0)]), (.I .i64 (20 : Int)), (.fn (.func 62) [] []), (.fn (.func 63) [] []), (.fn (.func 64) [] [(.ptr 2 (0 : Nat) 0)]), (.I .i64 (22 : Int)), (.fn (.func 65) [] []), (.fn (.func 66) [] []), (.fn (.func 67) [] []), (.I .i64 (23 : Int)), (.fn (.func 68) [] []), (.fn (.func 69) [] []), (.fn (.func 67) [] [])])), (28, (.I .i64 (2 : Int)))]) [⟨[.ints .u8 xs_m_0_0], 5, false, false⟩, ⟨[.ints .i64 ([(0 : Int)] : List Int), .ints .i64 ([(0 : Int)] : List Int), .ints .i64 ([(0 : Int)] : List Int), .ints .i64 ([(0 : Int)] : List Int)], 88, false, true⟩, ⟨[.vals [(.sl 3 (0 : Nat) (none : Option Nat) (none : Option Nat))]], 22, false, true⟩, ⟨[.ints .u8 xs_m_5_0], 5, false, true⟩]) (fun (u0 : Int) => K .ret (selE 93 [(0, (.sl 0 (0 : Nat) (none : Option Nat) (none : Option Nat))), (1, (.I .i64 i_1)), (2, (.I .i64 i_2)), (6, (.ptr 1 (0 : Nat) 0)), (7, (.B true)), (27, (.agg [(.I .i64 (0 : Int)), .nilf, .nilf, .nilf, (.I .i64 (19 : Int)), (.fn (.func 59) [] []), (.fn (.func 60) [] []), (.fn (.func 61) [] [(.ptr 2 (0 : Nat) 0)]), (.I .i64 (20 : Int)), (.fn (.func 62) [] []), (.fn (.func 63) [] []), (.fn (.func 64) [] [(.ptr 2 (0 : Nat) 0)]), (.I .i64 (22 : Int)), (.fn (.func 65) [] []), (.fn (.func 66) [] []), (.fn (.func 67) [] []), (.I .i64 (23 : Int)), (.fn (.func 68) [] []), (.fn (.func 69) [] []), (.fn (.func 67) [] [])])), (28, (.I .i64 (2 : Int)))]) [⟨[.ints .u8 xs_m_0_0], 5, false, false⟩, ⟨[.ints .i64 ([(2 : Int)] : List Int), .ints .i64 ([i_11] : List Int), .ints .i64 ([(12 : Int)] : List Int), .ints .i64 ([u0] : List Int)], 88, false, true⟩, ⟨[.vals [(.sl 3 (0 : Nat) (none : Option Nat) (none : Option Nat))]], 22, false, true⟩, ⟨[.ints .u8 xs_m_5_0], 5, false, true⟩]) (K (.exit 2) (selE 93 [(0, (.sl 0 (0 : Nat) (none : Option Nat) (none : Option Nat))), (1, (.I .i64 i_1)), (2, (.I .i64 i_2)), (6, (.ptr 1 (0 : Nat) 0)), (7, .undef), (27, (.agg [(.I .i64 (0 : Int)), .nilf, .nilf, .nilf, (.I .i64 (19 : Int)), (.fn (.func 59) [] []), (.fn (.func 60) [] []), (.fn (.func 61) [] [(.ptr 2 (0 : Nat) 0)]), (.I .i64 (20 : Int)), (.fn (.func 62) [] []), (.fn (.func 63) [] []), (.fn (.func 64) [] [(.ptr 2 (0 : Nat) 0)]), (.I .i64 (22 : Int)), (.fn (.func 65) [] []), (.fn (.func 66) [] []), (.fn (.func 67) [] []), (.I .i64 (23 : Int)), (.fn (.func 68) [] []), (.fn (.func 69) [] []), (.fn (.func 67) [] [])])), (28, (.I .i64 (2 : Int)))]) [⟨[.ints .u8 xs_m_0_0], 5, false, false⟩, ⟨[.ints .i64 ([(0 : Int)] : List Int), .ints .i64 ([(0 : Int)] : List Int), .ints .i64 ([(0 : Int)] : List Int), .ints .i64 ([(0 : Int)] : List Int)], 88, false, true⟩, ⟨[.vals [(.sl 3 (0 : Nat) (none : Option Nat) (none : Option Nat))]], 22, false, true⟩, ⟨[.ints .u8 xs_m_5_0], 5, false, true⟩])
  | 0, i_1, i_2, i_11, i_49, xs_m_0_0, xs_m_5_0 => rfl
  | n + 1, i_1, i_2, i_11, i_49, xs_m_0_0, xs_m_5_0 => by
    have ih := RL45_10g_ok f70_2 K n
    rw [HL45_10g_ok f70_2 n i_1 i_2 i_11 i_49 xs_m_0_0 xs_m_5_0 K]
    show HL45_10g f70_2 _ i_1 i_2 i_11 i_49 xs_m_0_0 xs_m_5_0 (K .ret (selE 93 [(0, (.sl 0 (0 : Nat) (none : Option Nat) (none : Option Nat))), (1, (.I .i64 i_1)), (2, (.I .i64 i_2)), (6, (.ptr 1 (0 : Nat) 0)), (7, (.B false)), (27, (.agg [(.I .i64 (0 : Int)), .nilf, .nilf, .nilf, (.I .i64 (19 : Int)), (.fn (.func 59) [] []), (.fn (.func 60) [] []), (.fn (.func 61) [] [(.ptr 2 (0 : Nat) 0)]), (.I .i64 (20 : Int)), (.fn (.func 62) [] []), (.fn (.func 63) [] []), (.fn (.func 64) [] [(.ptr 2 (0 : Nat) 0)]), (.I .i64 (22 : Int)), (.fn (.func 65) [] []), (.fn (.func 66) [] []), (.fn (.func 67) [] []), (.I .i64 (23 : Int)), (.fn (.func 68) [] []), (.fn (.func 69) [] []), (.fn (.func 67) [] [])])), (28, (.I .i64 (2 : Int)))]) [⟨[.ints .u8 xs_m_0_0], 5, false, false⟩, ⟨[.ints .i64 ([(0 : Int)] : List Int), .ints .i64 ([(0 : Int)] : List Int), .ints .i64 ([(0 : Int)] : List Int), .ints .i64 ([(0 : Int)] : List Int)], 88, false, true⟩, ⟨[.vals [(.sl 3 (0 : Nat) (none : Option Nat) (none : Option Nat))]], 22, false, true⟩, ⟨[.ints .u8 xs_m_5_0], 5, false, true⟩]) (fun (u0 : Int) => K .ret (selE 93 [(0, (.sl 0 (0 : Nat) (none : Option Nat) (none : Option Nat))), (1, (.I .i64 i_1)), (2, (.I .i64 i_2)), (6, (.ptr 1 (0 : Nat) 0)), (7, (.B true)), (27, (.agg [(.I .i64 (0 : Int)), .nilf, .nilf, .nilf, (.I .i64 (19 : Int)), (.fn (.func 59) [] []), (.fn (.func 60) [] []), (.fn (.func 61) [] [(.ptr 2 (0 : Nat) 0)]), (.I .i64 (20 : Int)), (.fn (.func 62) [] []), (.fn (.func 63) [] []), (.fn (.func 64) [] [(.ptr 2 (0 : Nat) 0)]), (.I .i64 (22 : Int)), (.fn (.func 65) [] []), (.fn (.func 66) [] []), (.fn (.func 67) [] []), (.I .i64 (23 : Int)), (.fn (.func 68) [] []), (.fn (.func 69) [] []), (.fn (.func 67) [] [])])), (28, (.I .i64 (2 : Int)))]) [⟨[.ints .u8 xs_m_0_0], 5, false, false⟩, ⟨[.ints .i64 ([(2 : Int)] : List Int), .ints .i64 ([i_11] : List Int), .ints .i64 ([(12 : Int)] : List Int), .ints .i64 ([u0] : List Int)], 88, false, true⟩, ⟨[.vals [(.sl 3 (0 : Nat) (none : Option Nat) (none : Option Nat))]], 22, false, true⟩, ⟨[.ints .u8 xs_m_5_0], 5, false, true⟩]) (K (.exit 2) (selE 93 [(0, (.sl 0 (0 : Nat) (none : Option Nat) (none : Option Nat))), (1, (.I .i64 i_1)), (2, (.I .i64 i_2)), (6, (.ptr 1 (0 : Nat) 0)), (7, .undef), (27, (.agg [(.I .i64 (0 : Int)), .nilf, .nilf, .nilf, (.I .i64 (19 : Int)), (.fn (.func 59) [] []), (.fn (.func 60) [] []), (.fn (.func 61) [] [(.ptr 2 (0 : Nat) 0)]), (.I .i64 (20 : Int)), (.fn (.func 62) [] []), (.fn (.func 63) [] []), (.fn (.func 64) [] [(.ptr 2 (0 : Nat) 0)]), (.I .i64 (22 : Int)), (.fn (.func 65) [] []), (.fn (.func 66) [] []), (.fn (.func 67) [] []), (.I .i64 (23 : Int)), (.fn (.func 68) [] []), (.fn (.func 69) [] []), (.fn (.func 67) [] [])])), (28, (.I .i64 (2 : Int)))]) [⟨[.ints .u8 xs_m_0_0], 5, false, false⟩, ⟨[.ints .i64 ([(0 : Int)] : List Int), .ints .i64 ([(0 : Int)] : List Int), .ints .i64 ([(0 : Int)] : List Int), .ints .i64 ([(0 : Int)] : List Int)], 88, false, true⟩, ⟨[.vals [(.sl 3 (0 : Nat) (none : Option Nat) (none : Option Nat))]], 22, false, true⟩, ⟨[.ints .u8 xs_m_5_0], 5, false, true⟩]) = HL45_10g f70_2 _ i_1 i_2 i_11 i_49 xs_m_0_0 xs_m_5_0 (K .ret (selE 93 [(0, (.sl 0 (0 : Nat) (none : Option Nat) (none : Option Nat))), (1, (.I .i64 i_1)), (2, (.I .i64 i_2)), (6, (.ptr 1 (0 : Nat) 0)), (7, (.B false)), (27, (.agg [(.I .i64 (0 : Int)), .nilf, .nilf, .nilf, (.I .i64 (19 : Int)), (.fn (.func 59) [] []), (.fn (.func 60) [] []), (.fn (.func 61) [] [(.ptr 2 (0 : Nat) 0)]), (.I .i64 (20 : Int)), (.fn (.func 62) [] []), (.fn (.func 63) [] []), (.fn (.func 64) [] [(.ptr 2 (0 : Nat) 0)]), (.I .i64 (22 : Int)), (.fn (.func 65) [] []), (.fn (.func 66) [] []), (.fn (.func 67) [] []), (.I .i64 (23 : Int)), (.fn (.func 68) [] []), (.fn (.func 69) [] []), (.fn (.func 67) [] [])])), (28, (.I .i64 (2 : Int)))]) [⟨[.ints .u8 xs_m_0_0], 5, false, false⟩, ⟨[.ints .i64 ([(0 : Int)] : List Int), .ints .i64 ([(0 : Int)] : List Int), .ints .i64 ([(0 : Int)] : List Int), .ints .i64 ([(0 : Int)] : List Int)], 88, false, true⟩, ⟨[.vals [(.sl 3 (0 : Nat) (none : Option Nat) (none : Option Nat))]], 22, false, true⟩, ⟨[.ints .u8 xs_m_5_0], 5, false, true⟩]) (fun (u0 : Int) => K .ret (selE 93 [(0, (.sl 0 (0 : Nat) (none : Option Nat) (none : Option Nat))), (1, (.I .i64 i_1)), (2, (.I .i64 i_2)), (6, (.ptr 1 (0 : Nat) 0)), (7, (.B true)), (27, (.agg [(.I .i64 (0 : Int)), .nilf, .nilf, .nilf, (.I .i64 (19 : Int)), (.fn (.func 59) [] []), (.fn (.func 60) [] []), (.fn (.func 61) [] [(.ptr 2 (0 : Nat) 0)]), (.I .i64 (20 : Int)), (.fn (.func 62) [] []), (.fn (.func 63) [] []), (.fn (.func 64) [] [(.ptr 2 (0 : Nat) 0)]), (.I .i64 (22 : Int)), (.fn (.func 65) [] []), (.fn (.func 66) [] []), (.fn (.func 67) [] []), (.I .i64 (23 : Int)), (.fn (.func 68) [] []), (.fn (.func 69) [] []), (.fn (.func 67) [] [])])), (28, (.I .i64 (2 : Int)))]) [⟨[.ints .u8 xs_m_0_0], 5, false, false⟩, ⟨[.ints .i64 ([(2 : Int)] : List Int), .ints .i64 ([i_11] : List Int), .ints .i64 ([(12 : Int)] : List Int), .ints .i64 ([u0] : List Int)], 88, false, true⟩, ⟨[.vals [(.sl 3 (0 : Nat) (none : Option Nat) (none : Option Nat))]], 22, false, true⟩, ⟨[.ints .u8 xs_m_5_0], 5, false, true⟩]) (K (.exit 2) (selE 93 [(0, (.sl 0 (0 : Nat) (none : Option Nat) (none : Option Nat))), (1, (.I .i64 i_1)), (2, (.I .i64 i_2)), (6, (.ptr 1 (0 : Nat) 0)), (7, .undef), (27, (.agg [(.I .i64 (0 : Int)), .nilf, .nilf, .nilf, (.I .i64 (19 : Int)), (.fn (.func 59) [] []), (.fn (.func 60) [] []), (.fn (.func 61) [] [(.ptr 2 (0 : Nat) 0)]), (.I .i64 (20 : Int)), (.fn (.func 62) [] []), (.fn (.func 63) [] []), (.fn (.func 64) [] [(.ptr 2 (0 : Nat) 0)]), (.I .i64 (22 : Int)), (.fn (.func 65) [] []), (.fn (.func 66) [] []), (.fn (.func 67) [] []), (.I .i64 (23 : Int)), (.fn (.func 68) [] []), (.fn (.func 69) [] []), (.fn (.func 67) [] [])])), (28, (.I .i64 (2 : Int)))]) [⟨[.ints .u8 xs_m_0_0], 5, false, false⟩, ⟨[.ints .i64 ([(0 : Int)] : List Int), .ints .i64 ([(0 : Int)] : List Int), .ints .i64 ([(0 : Int)] : List Int), .ints .i64 ([(0 : Int)] : List Int)], 88, false, true⟩, ⟨[.vals [(.sl 3 (0 : Nat) (none : Option Nat) (none : Option Nat))]], 22, false, true⟩, ⟨[.ints .u8 xs_m_5_0], 5, false, true⟩])
    refine congrArg (fun r => HL45_10g f70_2 r i_1 i_2 i_11 i_49 xs_m_0_0 xs_m_5_0 (K .ret (selE 93 [(0, (.sl 0 (0 : Nat) (none : Option Nat) (none : Option Nat))), (1, (.I .i64 i_1)), (2, (.I .i64 i_2)), (6, (.ptr 1 (0 : Nat) 0)), (7, (.B false)), (27, (.agg [(.I .i64 (0 : Int)), .nilf, .nilf, .nilf, (.I .i64 (19 : Int)), (.fn (.func 59) [] []), (.fn (.func 60) [] []), (.fn (.func 61) [] [(.ptr 2 (0 : Nat) 0)]), (.I .i64 (20 : Int)), (.fn (.func 62) [] []), (.fn (.func 63) [] []), (.fn (.func 64) [] [(.ptr 2 (0 : Nat) 0)]), (.I .i64 (22 : Int)), (.fn (.func 65) [] []), (.fn (.func 66) [] []), (.fn (.func 67) [] []), (.I .i64 (23 : Int)), (.fn (.func 68) [] []), (.fn (.func 69) [] []), (.fn (.func 67) [] [])])), (28, (.I .i64 (2 : Int)))]) [⟨[.ints .u8 xs_m_0_0], 5, false, false⟩, ⟨[.ints .i64 ([(0 : Int)] : List Int), .ints .i64 ([(0 : Int)] : List Int), .ints .i64 ([(0 : Int)] : List Int), .ints .i64 ([(0 : Int)] : List Int)], 88, false, true⟩, ⟨[.vals [(.sl 3 (0 : Nat) (none : Option Nat) (none : Option Nat))]], 22, false, true⟩, ⟨[.ints .u8 xs_m_5_0], 5, false, true⟩]) (fun (u0 : Int) => K .ret (selE 93 [(0, (.sl 0 (0 : Nat) (none : Option Nat) (none : Option Nat))), (1, (.I .i64 i_1)), (2, (.I .i64 i_2)), (6, (.ptr 1 (0 : Nat) 0)), (7, (.B true)), (27, (.agg [(.I .i64 (0 : Int)), .nilf, .nilf, .nilf, (.I .i64 (19 : Int)), (.fn (.func 59) [] []), (.fn (.func 60) [] []), (.fn (.func 61) [] [(.ptr 2 (0 : Nat) 0)]), (.I .i64 (20 : Int)), (.fn (.func 62) [] []), (.fn (.func 63) [] []), (.fn (.func 64) [] [(.ptr 2 (0 : Nat) 0)]), (.I .i64 (22 : Int)), (.fn (.func 65) [] []), (.fn (.func 66) [] []), (.fn (.func 67) [] []), (.I .i64 (23 : Int)), (.fn (.func 68) [] []), (.fn (.func 69) [] []), (.fn (.func 67) [] [])])), (28, (.I .i64 (2 : Int)))]) [⟨[.ints .u8 xs_m_0_0], 5, false, false⟩, ⟨[.ints .i64 ([(2 : Int)] : List Int), .ints .i64 ([i_11] : List Int), .ints .i64 ([(12 : Int)] : List Int), .ints .i64 ([u0] : List Int)], 88, false, true⟩, ⟨[.vals [(.sl 3 (0 : Nat) (none : Option Nat) (none : Option Nat))]], 22, false, true⟩, ⟨[.ints .u8 xs_m_5_0], 5, false, true⟩]) (K (.exit 2) (selE 93 [(0, (.sl 0 (0 : Nat) (none : Option Nat) (none : Option Nat))), (1, (.I .i64 i_1)), (2, (.I .i64 i_2)), (6, (.ptr 1 (0 : Nat) 0)), (7, .undef), (27, (.agg [(.I .i64 (0 : Int)), .nilf, .nilf, .nilf, (.I .i64 (19 : Int)), (.fn (.func 59) [] []), (.fn (.func 60) [] []), (.fn (.func 61) [] [(.ptr 2 (0 : Nat) 0)]), (.I .i64 (20 : Int)), (.fn (.func 62) [] []), (.fn (.func 63) [] []), (.fn (.func 64) [] [(.ptr 2 (0 : Nat) 0)]), (.I .i64 (22 : Int)), (.fn (.func 65) [] []), (.fn (.func 66) [] []), (.fn (.func 67) [] []), (.I .i64 (23 : Int)), (.fn (.func 68) [] []), (.fn (.func 69) [] []), (.fn (.func 67) [] [])])), (28, (.I .i64 (2 : Int)))]) [⟨[.ints .u8 xs_m_0_0], 5, false, false⟩, ⟨[.ints .i64 ([(0 : Int)] : List Int), .ints .i64 ([(0 : Int)] : List Int), .ints .i64 ([(0 : Int)] : List Int), .ints .i64 ([(0 : Int)] : List Int)], 88, false, true⟩, ⟨[.vals [(.sl 3 (0 : Nat) (none : Option Nat) (none : Option Nat))]], 22, false, true⟩, ⟨[.ints .u8 xs_m_5_0], 5, false, true⟩])) ?_
    funext i_49
    exact ih i_1 i_2 i_11 i_49 xs_m_0_0 xs_m_5_0
def GL45_10g : YL45_10g := fun x i_1 i_2 i_11 i_49 xs_m_0_0 xs_m_5_0 k1 k2 k3 => x = XL45_10g ∧ ∃ n, RL45_10g G70_2 n i_1 i_2 i_11 i_49 xs_m_0_0 xs_m_5_0 k1 k2 k3
def VL45_10g (l : YL45_10g) (F : Prop) (x : Code) (ρ : Env) (m : Mem) (K : Ex → Env → Mem → Prop) : Prop :=
  match ρ.has (93 - 1) with
  | true => (seeV (.sl 0 (0 : Nat) (none : Option Nat) (none : Option Nat)) (ρ.get 0) F (seeI .i64 (ρ.get 1) F fun i_1 => (seeI .i64 (ρ.get 2) F fun i_2 => (seeV (.ptr 1 (0 : Nat) 0) (ρ.get 6) F (seeV (.I .i64 (2 : Int)) (ρ.get 8) F (seeV (.ptr 2 (0 : Nat) 0) (ρ.get 9) F (seeV (.sl 3 (0 : Nat) (none : Option Nat) (none : Option Nat)) (ρ.get 10) F (seeI .i64 (ρ.get 11) F fun i_11 => (seeV (.agg [(.I .i64 (0 : Int)), .nilf, .nilf, .nilf, (.I .i64 (19 : Int)), (.fn (.func 59) [] []), (.fn (.func 60) [] []), (.fn (.func 61) [] [(.ptr 4 (0 : Nat) 0)]), (.I .i64 (20 : Int)), (.fn (.func 62) [] []), (.fn (.func 63) [] []), (.fn (.func 64) [] [(.ptr 4 (0 : Nat) 0)]), (.I .i64 (22 : Int)), (.fn (.func 65) [] []), (.fn (.func 66) [] []), (.fn (.func 67) [] []), (.I .i64 (23 : Int)), (.fn (.func 68) [] []), (.fn (.func 69) [] []), (.fn (.func 67) [] [])]) (ρ.get 27) F (seeV (.I .i64 (2 : Int)) (ρ.get 28) F (seeI .i64 (ρ.get 49) F fun i_49 => (seeCons m F fun a12 q13 => (seeBlk 5 false false a12 F fun cs14 => (seeCons cs14 F fun a15 q16 => (seeInts .u8 a15 F fun xs_m_0_0 => (seeNil q16 F (seeCons q13 F fun a17 q18 => (seeBlk 88 false true a17 F fun cs19 => (seeCons cs19 F fun a20 q21 => (seeInts .i64 a20 F fun xs22 => (seeX ([(0 : Int)] : List Int) xs22 F (seeCons q21 F fun a23 q24 => (seeInts .i64 a23 F fun xs25 => (seeX ([(0 : Int)] : List Int) xs25 F (seeCons q24 F fun a26 q27 => (seeInts .i64 a26 F fun xs28 => (seeX ([(0 : Int)] : List Int) xs28 F (seeCons q27 F fun a29 q30 => (seeInts .i64 a29 F fun xs31 => (seeX ([(0 : Int)] : List Int) xs31 F (seeNil q30 F (seeCons q18 F fun a32 q33 => (seeBlk 83 false true a32 F fun cs34 => (seeCons cs34 F fun a35 q36 => (seeInts .i64 a35 F fun xs37 => (seeX ([(20 : Int)] : List Int) xs37 F (seeCons q36 F fun a38 q39 => (seeVals a38 F fun xs40 => (seeCons xs40 F fun a41 q42 => (seeV (.fn (.func 62) [] []) a41 F (seeNil q42 F (seeCons q39 F fun a43 q44 => (seeVals a43 F fun xs45 => (seeCons xs45 F fun a46 q47 => (seeV (.fn (.func 63) [] []) a46 F (seeNil q47 F (seeCons q44 F fun a48 q49 => (seeVals a48 F fun xs50 => (seeCons xs50 F fun a51 q52 => (seeV (.fn (.func 64) [] [(.ptr 4 (0 : Nat) 0)]) a51 F (seeNil q52 F (seeNil q49 F (seeCons q33 F fun a53 q54 => (seeBlk 32 false true a53 F fun cs55 => (seeCons cs55 F fun a56 q57 => (seeInts .i64 a56 F fun xs58 => (seeX ([(3 : Int), (8 : Int)] : List Int) xs58 F (seeCons q57 F fun a59 q60 => (seeInts .i64 a59 F fun xs61 => (seeX ([(4 : Int), (4 : Int)] : List Int) xs61 F (seeCons q60 F fun a62 q63 => (seeInts .i64 a62 F fun xs64 => (seeX ([(20 : Int), (4 : Int)] : List Int) xs64 F (seeCons q63 F fun a65 q66 => (seeStrs a65 F fun xs67 => (seeCons xs67 F fun a68 q69 => (seeX ([(120 : Int)] : List Int) a68 F (seeCons q69 F fun a70 q71 => (seeX ([(95 : Int), (95 : Int), (116 : Int), (108 : Int), (115 : Int), (95 : Int), (103 : Int), (101 : Int), (116 : Int), (95 : Int), (97 : Int), (100 : Int), (100 : Int), (114 : Int)] : List Int) a70 F (seeNil q71 F (seeCons q66 F fun a72 q73 => (seeInts .i64 a72 F fun xs74 => (seeX ([(-4 : Int), (-4 : Int)] : List Int) xs74 F (seeNil q73 F (seeCons q54 F fun a75 q76 => (seeBlk 22 false true a75 F fun cs77 => (seeCons cs77 F fun a78 q79 => (seeVals a78 F fun xs80 => (seeCons xs80 F fun a81 q82 => (seeV (.sl 5 (0 : Nat) (none : Option Nat) (none : Option Nat)) a81 F (seeNil q82 F (seeNil q79 F (seeCons q76 F fun a83 q84 => (seeBlk 5 false true a83 F fun cs85 => (seeCons cs85 F fun a86 q87 => (seeInts .u8 a86 F fun xs_m_5_0 => (seeNil q87 F (seeNil q84 F (l x i_1 i_2 i_11 i_49 xs_m_0_0 xs_m_5_0 (K .ret (selE 93 [(0, (.sl 0 (0 : Nat) (none : Option Nat) (none : Option Nat))), (1, (.I .i64 i_1)), (2, (.I .i64 i_2)), (6, (.ptr 1 (0 : Nat) 0)), (7, (.B false)), (27, (.agg [(.I .i64 (0 : Int)), .nilf, .nilf, .nilf, (.I .i64 (19 : Int)), (.fn (.func 59) [] []), (.fn (.func 60) [] []), (.fn (.func 61) [] [(.ptr 2 (0 : Nat) 0)]), (.I .i64 (20 : Int)), (.fn (.func 62) [] []), (.fn (.func 63) [] []), (.fn (.func 64) [] [(.ptr 2 (0 : Nat) 0)]), (.I .i64 (22 : Int)), (.fn (.func 65) [] []), (.fn (.func 66) [] []), (.fn (.func 67) [] []), (.I .i64 (23 : Int)), (.fn (.func 68) [] []), (.fn (.func 69) [] []), (.fn (.func 67) [] [])])), (28, (.I .i64 (2 : Int)))]) [⟨[.ints .u8 xs_m_0_0], 5, false, false⟩, ⟨[.ints .i64 ([(0 : Int)] : List Int), .ints .i64 ([(0 : Int)] : List Int), .ints .i64 ([(0 : Int)] : List Int), .ints .i64 ([(0 : Int)] : List Int)], 88, false, true⟩, ⟨[.vals [(.sl 3 (0 : Nat) (none : Option Nat) (none : Option Nat))]], 22, false, true⟩, ⟨[.ints .u8 xs_m_5_0], 5, false, true⟩]) (fun (u0 : Int) => K .ret (selE 93 [(0, (.sl 0 (0 : Nat) (none : Option Nat) (none : Option Nat))), (1, (.I .i64 i_1)), (2, (.I .i64 i_2)), (6, (.ptr 1 (0 : Nat) 0)), (7, (.B true)), (27, (.agg [(.I .i64 (0 : Int)), .nilf, .nilf, .nilf, (.I .i64 (19 : Int)), (.fn (.func 59) [] []), (.fn (.func 60) [] []), (.fn (.func 61) [] [(.ptr 2 (0 : Nat) 0)]), (.I .i64 (20 : Int)), (.fn (.func 62) [] []), (.fn (.func 63) [] []), (.fn (.func 64) [] [(.ptr 2 (0 : Nat) 0)]), (.I .i64 (22 : Int)), (.fn (.func 65) [] []), (.fn (.func 66) [] []), (.fn (.func 67) [] []), (.I .i64 (23 : Int)), (.fn (.func 68) [] []), (.fn (.func 69) [] []), (.fn (.func 67) [] [])])), (28, (.I .i64 (2 : Int)))]) [⟨[.ints .u8 xs_m_0_0], 5, false, false⟩, ⟨[.ints .i64 ([(2 : Int)] : List Int), .ints .i64 ([i_11] : List Int), .ints .i64 ([(12 : Int)] : List Int), .ints .i64 ([u0] : List Int)], 88, false, true⟩, ⟨[.vals [(.sl 3 (0 : Nat) (none : Option Nat) (none : Option Nat))]], 22, false, true⟩, ⟨[.ints .u8 xs_m_5_0], 5, false, true⟩]) (K (.exit 2) (selE 93 [(0, (.sl 0 (0 : Nat) (none : Option Nat) (none : Option Nat))), (1, (.I .i64 i_1)), (2, (.I .i64 i_2)), (6, (.ptr 1 (0 : Nat) 0)), (7, .undef), (27, (.agg [(.I .i64 (0 : Int)), .nilf, .nilf, .nilf, (.I .i64 (19 : Int)), (.fn (.func 59) [] []), (.fn (.func 60) [] []), (.fn (.func 61) [] [(.ptr 2 (0 : Nat) 0)]), (.I .i64 (20 : Int)), (.fn (.func 62) [] []), (.fn (.func 63) [] []), (.fn (.func 64) [] [(.ptr 2 (0 : Nat) 0)]), (.I .i64 (22 : Int)), (.fn (.func 65) [] []), (.fn (.func 66) [] []), (.fn (.func 67) [] []), (.I .i64 (23 : Int)), (.fn (.func 68) [] []), (.fn (.func 69) [] []), (.fn (.func 67) [] [])])), (28, (.I .i64 (2 : Int)))]) [⟨[.ints .u8 xs_m_0_0], 5, false, false⟩, ⟨[.ints .i64 ([(0 : Int)] : List Int), .ints .i64 ([(0 : Int)] : List Int), .ints .i64 ([(0 : Int)] : List Int), .ints .i64 ([(0 : Int)] : List Int)], 88, false, true⟩, ⟨[.vals [(.sl 3 (0 : Nat) (none : Option Nat) (none : Option Nat))]], 22, false, true⟩, ⟨[.ints .u8 xs_m_5_0], 5, false, true⟩]))))))))))))))))))))))))))))))))))))))))))))))))))))))))))))))))))))))))))))))))))))))))))
  | false => False
def WL45_10g (l : YL45_10g) (W : Masks) : Masks := fun r =>
  match Nat.beq r 10 with
  | true => some fun x ρ m K => VL45_10g l (match W r with | some lf => lf x ρ m K | none => False) x (tidyE 1 [0, 1, 2, 6, 8, 9, 10, 11, 27, 28, 49] ρ m) (tidyM 1 [0, 1, 2, 6, 8, 9, 10, 11, 27, 28, 49] ρ m) K
  | false => W r
set_option maxRecDepth 100000 in
theorem WL45_10g_ok {W : Masks} (hW : LoopsOk Try.prog 1 W) : LoopsOk Try.prog 1 (WL45_10g GL45_10g W) := by
  intro r lf h
  unfold WL45_10g at h
  split at h
  · cases h
    intro x E0 m0 w0 ds hS0 ha ρ m K E a w Q hS hρ hd h hQ
    have fb : (match W r with | some lf => lf x ρ m K | none => False) → (Code.loop x).wp Try.prog Q a w := fun h => by
      split at h
      · rename_i lf hlf
        exact hW r lf hlf x hS0 ha ρ m K E a w Q hS hρ hd h hQ
      · cases h
    obtain ⟨E2, hS2, hρ2⟩ := tidy_rel hS0 hS hρ [0, 1, 2, 6, 8, 9, 10, 11, 27, 28, 49]
    rw [ha] at hS2 hρ2
    unfold VL45_10g at h
    split at h
    · rename_i hlen
      replace h := seeV_use h
      rcases h with h | ⟨e1, h⟩
      · exact fb h
      replace h := seeI_use h
      rcases h with h | ⟨i_1, e2, h⟩
      · exact fb h
      replace h := seeI_use h
      rcases h with h | ⟨i_2, e3, h⟩
      · exact fb h
      replace h := seeV_use h
      rcases h with h | ⟨e4, h⟩
      · exact fb h
      replace h := seeV_use h
      rcases h with h | ⟨e5, h⟩
      · exact fb h
      replace h := seeV_use h
      rcases h with h | ⟨e6, h⟩
      · exact fb h
      replace h := seeV_use h
      rcases h with h | ⟨e7, h⟩
      · exact fb h
      replace h := seeI_use h
      rcases h with h | ⟨i_11, e8, h⟩
      · exact fb h
      replace h := seeV_use h
      rcases h with h | ⟨e9, h⟩
      · exact fb h
      replace h := seeV_use h
      rcases h with h | ⟨e10, h⟩
      · exact fb h
      replace h := seeI_use h
      rcases h with h | ⟨i_49, e11, h⟩
      · exact fb h
      replace h := seeCons_use h
      rcases h with h | ⟨a12, q13, eqm, h⟩
      · exact fb h
      replace h := seeBlk_use h
      rcases h with h | ⟨cs14, rfl, h⟩
      · exact fb h
      replace h := seeCons_use h
      rcases h with h | ⟨a15, q16, rfl, h⟩
      · exact fb h
      replace h := seeInts_use h
      rcases h with h | ⟨xs_m_0_0, rfl, h⟩
      · exact fb h
      replace h := seeNil_use h
      rcases h with h | ⟨rfl, h⟩
      · exact fb h
      replace h := seeCons_use h
      rcases h with h | ⟨a17, q18, rfl, h⟩
      · exact fb h
      replace h := seeBlk_use h
      rcases h with h | ⟨cs19, rfl, h⟩
      · exact fb h
      replace h := seeCons_use h
      rcases h with h | ⟨a20, q21, rfl, h⟩
      · exact fb h
      replace h := seeInts_use h
      rcases h with h | ⟨xs22, rfl, h⟩
      · exact fb h
      replace h := seeX_use h
      rcases h with h | ⟨rfl, h⟩
      · exact fb h
      replace h := seeCons_use h
      rcases h with h | ⟨a23, q24, rfl, h⟩
      · exact fb h
      replace h := seeInts_use h
      rcases h with h | ⟨xs25, rfl, h⟩
      · exact fb h
      replace h := seeX_use h
      rcases h with h | ⟨rfl, h⟩
      · exact fb h
      replace h := seeCons_use h
      rcases h with h | ⟨a26, q27, rfl, h⟩
      · exact fb h
      replace h := seeInts_use h
      rcases h with h | ⟨xs28, rfl, h⟩
      · exact fb h
      replace h := seeX_use h
      rcases h with h | ⟨rfl, h⟩
      · exact fb h
      replace h := seeCons_use h
      rcases h with h | ⟨a29, q30, rfl, h⟩
      · exact fb h
      replace h := seeInts_use h
      rcases h with h | ⟨xs31, rfl, h⟩
      · exact fb h
      replace h := seeX_use h
      rcases h with h | ⟨rfl, h⟩
      · exact fb h
      replace h := seeNil_use h
      rcases h with h | ⟨rfl, h⟩
      · exact fb h
      replace h := seeCons_use h
      rcases h with h | ⟨a32, q33, rfl, h⟩
      · exact fb h
      replace h := seeBlk_use h
      rcases h with h | ⟨cs34, rfl, h⟩
      · exact fb h
      replace h := seeCons_use h
      rcases h with h | ⟨a35, q36, rfl, h⟩
      · exact fb h
      replace h := seeInts_use h
      rcases h with h | ⟨xs37, rfl, h⟩
      · exact fb h
      replace h := seeX_use h
      rcases h with h | ⟨rfl, h⟩
      · exact fb h
      replace h := seeCons_use h
      rcases h with h | ⟨a38, q39, rfl, h⟩
      · exact fb h
      replace h := seeVals_use h
      rcases h with h | ⟨xs40, rfl, h⟩
      · exact fb h
      replace h := seeCons_use h
      rcases h with h | ⟨a41, q42, rfl, h⟩
      · exact fb h
      replace h := seeV_use h
      rcases h with h | ⟨rfl, h⟩
      · exact fb h
      replace h := seeNil_use h
      rcases h with h | ⟨rfl, h⟩
      · exact fb h
      replace h := seeCons_use h
      rcases h with h | ⟨a43, q44, rfl, h⟩
      · exact fb h
      replace h := seeVals_use h
      rcases h with h | ⟨xs45, rfl, h⟩
      · exact fb h
      replace h := seeCons_use h
      rcases h with h | ⟨a46, q47, rfl, h⟩
      · exact fb h
      replace h := seeV_use h
      rcases h with h | ⟨rfl, h⟩
      · exact fb h
      replace h := seeNil_use h
      rcases h with h | ⟨rfl, h⟩
      · exact fb h
      replace h := seeCons_use h
      rcases h with h | ⟨a48, q49, rfl, h⟩
      · exact fb h
      replace h := seeVals_use h
      rcases h with h | ⟨xs50, rfl, h⟩
      · exact fb h
      replace h := seeCons_use h
      rcases h with h | ⟨a51, q52, rfl, h⟩
      · exact fb h
      replace h := seeV_use h
      rcases h with h | ⟨rfl, h⟩
      · exact fb h
      replace h := seeNil_use h
      rcases h with h | ⟨rfl, h⟩
      · exact fb h
      replace h := seeNil_use h
      rcases h with h | ⟨rfl, h⟩
      · exact fb h
      replace h := seeCons_use h
      rcases h with h | ⟨a53, q54, rfl, h⟩
      · exact fb h
      replace h := seeBlk_use h
      rcases h with h | ⟨cs55, rfl, h⟩
      · exact fb h
      replace h := seeCons_use h
      rcases h with h | ⟨a56, q57, rfl, h⟩
      · exact fb h
      replace h := seeInts_use h
      rcases h with h | ⟨xs58, rfl, h⟩
      · exact fb h
      replace h := seeX_use h
      rcases h with h | ⟨rfl, h⟩
      · exact fb h
      replace h := seeCons_use h
      rcases h with h | ⟨a59, q60, rfl, h⟩
      · exact fb h
      replace h := seeInts_use h
      rcases h with h | ⟨xs61, rfl, h⟩
      · exact fb h
      replace h := seeX_use h
      rcases h with h | ⟨rfl, h⟩
      · exact fb h
      replace h := seeCons_use h
      rcases h with h | ⟨a62, q63, rfl, h⟩
      · exact fb h
      replace h := seeInts_use h
      rcases h with h | ⟨xs64, rfl, h⟩
      · exact fb h
      replace h := seeX_use h
      rcases h with h | ⟨rfl, h⟩
      · exact fb h
      replace h := seeCons_use h
      rcases h with h | ⟨a65, q66, rfl, h⟩
      · exact fb h
      replace h := seeStrs_use h
      rcases h with h | ⟨xs67, rfl, h⟩
      · exact fb h
      replace h := seeCons_use h
      rcases h with h | ⟨a68, q69, rfl, h⟩
      · exact fb h
      replace h := seeX_use h
      rcases h with h | ⟨rfl, h⟩
      · exact fb h
      replace h := seeCons_use h
      rcases h with h | ⟨a70, q71, rfl, h⟩
      · exact fb h
      replace h := seeX_use h
      rcases h with h | ⟨rfl, h⟩
      · exact fb h
      replace h := seeNil_use h
      rcases h with h | ⟨rfl, h⟩
      · exact fb h
      replace h := seeCons_use h
      rcases h with h | ⟨a72, q73, rfl, h⟩
      · exact fb h
      replace h := seeInts_use h
      rcases h with h | ⟨xs74, rfl, h⟩
      · exact fb h
      replace h := seeX_use h
      rcases h with h | ⟨rfl, h⟩
      · exact fb h
      replace h := seeNil_use h
      rcases h with h | ⟨rfl, h⟩
      · exact fb h
      replace h := seeCons_use h
      rcases h with h | ⟨a75, q76, rfl, h⟩
      · exact fb h
      replace h := seeBlk_use h
      rcases h with h | ⟨cs77, rfl, h⟩
      · exact fb h
      replace h := seeCons_use h
      rcases h with h | ⟨a78, q79, rfl, h⟩
      · exact fb h
      replace h := seeVals_use h
      rcases h with h | ⟨xs80, rfl, h⟩
      · exact fb h
      replace h := seeCons_use h
      rcases h with h | ⟨a81, q82, rfl, h⟩
      · exact fb h
      replace h := seeV_use h
      rcases h with h | ⟨rfl, h⟩
      · exact fb h
      replace h := seeNil_use h
      rcases h with h | ⟨rfl, h⟩
      · exact fb h
      replace h := seeNil_use h
      rcases h with h | ⟨rfl, h⟩
      · exact fb h
      replace h := seeCons_use h
      rcases h with h | ⟨a83, q84, rfl, h⟩
      · exact fb h
      replace h := seeBlk_use h
      rcases h with h | ⟨cs85, rfl, h⟩
      · exact fb h
      replace h := seeCons_use h
      rcases h with h | ⟨a86, q87, rfl, h⟩
      · exact fb h
      replace h := seeInts_use h
      rcases h with h | ⟨xs_m_5_0, rfl, h⟩
      · exact fb h
      replace h := seeNil_use h
      rcases h with h | ⟨rfl, h⟩
      · exact fb h
      replace h := seeNil_use h
      rcases h with h | ⟨rfl, h⟩
      · exact fb h
      obtain ⟨rfl, n, h⟩ := h
      exact loop_use named (T70_2_ok C0_ok) (LoopsOk.none _ _) (RL45_10g_ok G70_2 K n _ _ _ _ _ _) h hS0 ha hlen ⟨e1, e2, e3, e4, e5, e6, e7, e8, e9, e10, e11, trivial⟩ (eqm ▸ hS2) hρ2 hd hQ
    · cases h
  · exact hW r lf h
abbrev YL45_10h : Type := Code → Int → Int → Int → Int → List Int → List Int → (Prop) → (Int → Prop) → (Prop) → Prop
set_option maxHeartbeats 4000000 in
set_option maxRecDepth 100000 in
def HL45_10h (f70_2 : Y70_2) (rec : Int → Prop) (i_1 : Int) (i_2 : Int) (i_11 : Int) (i_49 : Int) (xs_m_0_0 : List Int) (xs_m_5_0 : List Int) (k1 : Prop) (k2 : Int → Prop) (k3 : Prop) : Prop :=
  (bif (decide (i_49 < (16 : Int))) then (bif (decide (i_1 < (0 : Int))) then (k1) else (bif (decide (i_11 < (0 : Int))) then (k1) else (bif (decide (i_11 > (IntKind.wrap .i64 (((((List.length xs_m_0_0) - (0 : Nat)) : Nat) : Int) - (16 : Int))))) then (k1) else (bif ((decide ((0 : Int) ≤ (IntKind.wrap .i64 (i_11 + (16 : Int))))) && ((decide ((Int.toNat (IntKind.wrap .i64 (i_11 + (16 : Int)))) ≤ ((List.length xs_m_0_0) - (0 : Nat)))) && ((decide ((0 : Int) ≤ i_11)) && (decide (i_11 ≤ (IntKind.wrap .i64 (i_11 + (16 : Int)))))))) then (f70_2 (Int.toNat i_11) ((Int.toNat (IntKind.wrap .i64 (i_11 + (16 : Int)))) - (Int.toNat i_11)) xs_m_0_0 (4 : Int) (12 : Int) (19 : Int) (4 : Int) ([(120 : Int)] : List Int) ([(95 : Int), (95 : Int), (116 : Int), (108 : Int), (115 : Int), (95 : Int), (103 : Int), (101 : Int), (116 : Int), (95 : Int), (97 : Int), (100 : Int), (100 : Int), (114 : Int)] : List Int) (-4 : Int) (-4 : Int) (fun (xs2 : List Int) => (bif (xs2 == ([(102 : Int), (72 : Int), (141 : Int), (61 : Int), (0 : Int), (0 : Int), (0 : Int), (0 : Int), (102 : Int), (102 : Int), (72 : Int), (232 : Int), (0 : Int), (0 : Int), (0 : Int), (0 : Int)] : List Int)) then (k2 i_49) else (rec (IntKind.wrap .i64 (i_49 + (1 : Int))))))) else False)))) else (k3))
def RL45_10h (f70_2 : Y70_2) : Nat → Int → Int → Int → Int → List Int → List Int → (Prop) → (Int → Prop) → (Prop) → Prop
  | 0, _, _, _, _, _, _, _, _, _ => False
  | n + 1, i_1, i_2, i_11, i_49, xs_m_0_0, xs_m_5_0, k1, k2, k3 => HL45_10h f70_2 (fun (i_49 : Int) => RL45_10h f70_2 n i_1 i_2 i_11 i_49 xs_m_0_0 xs_m_5_0 k1 k2 k3) i_1 i_2 i_11 i_49 xs_m_0_0 xs_m_5_0 k1 k2 k3
noncomputable def XL45_10h : Code := sub [true, true, false, true, false, false, true, true, false, false, true, true, true, true, true, false, false] (bodyOf Try.prog 45)
theorem HL45_10h_ok (f70_2 : Y70_2) (n : Nat) (i_1 : Int) (i_2 : Int) (i_11 : Int) (i_49 : Int) (xs_m_0_0 : List Int) (xs_m_5_0 : List Int) (K : Ex → Env → Mem → Prop) : cround 1 [0, 1, 2, 6, 8, 9, 10, 11, 27, 28, 49] [0, 1, 2, 6, 7, 27, 28] (fun ρ m K => cexec Try.prog (T70_2 f70_2 C0) (fun _ => none) 1 1000 XL45_10h ρ m K) (n + 1) (selE 93 [(0, (.sl 0 (0 : Nat) (none : Option Nat) (none : Option Nat))), (1, (.I .i64 i_1)), (2, (.I .i64 i_2)), (6, (.ptr 1 (0 : Nat) 0)), (8, (.I .i64 (1 : Int))), (9, (.ptr 2 (0 : Nat) 0)), (10, (.sl 3 (0 : Nat) (none : Option Nat) (none : Option Nat))), (11, (.I .i64 i_11)), (27, (.agg [(.I .i64 (0 : Int)), .nilf, .nilf, .nilf, (.I .i64 (19 : Int)), (.fn (.func 59) [] []), (.fn (.func 60) [] []), (.fn (.func 61) [] [(.ptr 4 (0 : Nat) 0)]), (.I .i64 (20 : Int)), (.fn (.func 62) [] []), (.fn (.func 63) [] []), (.fn (.func 64) [] [(.ptr 4 (0 : Nat) 0)]), (.I .i64 (22 : Int)), (.fn (.func 65) [] []), (.fn (.func 66) [] []), (.fn (.func 67) [] []), (.I .i64 (23 : Int)), (.fn (.func 68) [] []), (.fn (.func 69) [] []), (.fn (.func 67) [] [])])), (28, (.I .i64 (1 : Int))), (49, (.I .i64 i_49))]) [⟨[.ints .u8 xs_m_0_0], 5, false, false⟩, ⟨[.ints .i64 ([(0 : Int)] : List Int), .ints .i64 ([(0 : Int)] : List Int), .ints .i64 ([(0 : Int)] : List Int), .ints .i64 ([(0 : Int)] : List Int)], 88, false, true⟩, ⟨[.ints .i64 ([(19 : Int)] : List Int), .vals [(.fn (.func 59) [] [])], .vals [(.fn (.func 60) [] [])], .vals [(.fn (.func 61) [] [(.ptr 4 (0 : Nat) 0)])]], 83, false, true⟩, ⟨[.ints .i64 ([(4 : Int), (12 : Int)] : List Int), .ints .i64 ([(4 : Int), (4 : Int)] : List Int), .ints .i64 ([(19 : Int), (4 : Int)] : List Int), .strs ([([(120 : Int)] : List Int), ([(95 : Int), (95 : Int), (116 : Int), (108 : Int), (115 : Int), (95 : Int), (103 : Int), (101 : Int), (116 : Int), (95 : Int), (97 : Int), (100 : Int), (100 : Int), (114 : Int)] : List Int)] : List (List Int)), .ints .i64 ([(-4 : Int), (-4 : Int)] : List Int)], 32, false, true⟩, ⟨[.vals [(.sl 5 (0 : Nat) (none : Option Nat) (none : Option Nat))]], 22, false, true⟩, ⟨[.ints .u8 xs_m_5_0], 5, false, true⟩] K =
    HL45_10h f70_2 (fun (i_49 : Int) => cround 1 [0, 1, 2, 6, 8, 9, 10, 11, 27, 28, 49] [0, 1, 2, 6, 7, 27, 28] (fun ρ m K => cexec Try.prog (T70_2 f70_2 C0) (fun _ => none) 1 1000 XL45_10h ρ m K) n (selE 93 [(0, (.sl 0 (0 : Nat) (none : Option Nat) (none : Option Nat))), (1, (.I .i64 i_1)), (2, (.I .i64 i_2)), (6, (.ptr 1 (0 : Nat) 0)), (8, (.I .i64 (1 : Int))), (9, (.ptr 2 (0 : Nat) 0)), (10, (.sl 3 (0 : Nat) (none : Option Nat) (none : Option Nat))), (11, (.I .i64 i_11)), (27, (.agg [(.I .i64 (0 : Int)), .nilf, .nilf, .nilf, (.I .i64 (19 : Int)), (.fn (.func 59) [] []), (.fn (.func 60) [] []), (.fn (.func 61) [] [(.ptr 4 (0 : Nat) 0)]), (.I .i64 (20 : Int)), (.fn (.func 62) [] []), (.fn (.func 63) [] []), (.fn (.func 64) [] [(.ptr 4 (0 : Nat) 0)]), (.I .i64 (22 : Int)), (.fn (.func 65) [] []), (.fn (.func 66) [] []), (.fn (.func 67) [] []), (.I .i64 (23 : Int)), (.fn (.func 68) [] []), (.fn (.func 69) [] []), (.fn (.func 67) [] [])])), (28, (.I .i64 (1 : Int))), (49, (.I .i64 i_49))]) [⟨[.ints .u8 xs_m_0_0], 5, false, false⟩, ⟨[.ints .i64 ([(0 : Int)] : List Int), .ints .i64 ([(0 : Int)] : List Int), .ints .i64 ([(0 : Int)] : List Int), .ints .i64 ([(0 : Int)] : List Int)], 88, false, true⟩, ⟨[.ints .i64 ([(19 : Int)] : List Int), .vals [(.fn (.func 59) [] [])], .vals [(.fn (.func 60) [] [])], .vals [(.fn (.func 61) [] [(.ptr 4 (0 : Nat) 0)])]], 83, false, true⟩, ⟨[.ints .i64 ([(4 : Int), (12 : Int)] : List Int), .ints .i64 ([(4 : Int), (4 : Int)] : List Int), .ints .i64 ([(19 : Int), (4 : Int)] : List Int), .strs ([([(120 : Int)] : List Int), ([(95 : Int), (95 : Int), (116 : Int), (108 : Int), (115 : Int), (95 : Int), (103 : Int), (101 : Int), (116 : Int), (95 : Int), (97 : Int), (100 : Int), (100 : Int), (114 : Int)] : List Int)] : List (List Int)), .ints .i64 ([(-4 : Int), (-4 : Int)] : List Int)], 32, false, true⟩, ⟨[.vals [(.sl 5 (0 : Nat) (none : Option Nat) (none : Option Nat))]], 22, false, true⟩, ⟨[.ints .u8 xs_m_5_0], 5, false, true⟩] K) i_1 i_2 i_11 i_49 xs_m_0_0 xs_m_5_0 (K .ret (selE 93 [(0, (.sl 0 (0 : Nat) (none : Option Nat) (none : Option Nat))), (1, (.I .i64 i_1)), (2, (.I .i64 i_2)), (6, (.ptr 1 (0 : Nat) 0)), (7, (.B false)), (27, (.agg [(.I .i64 (0 : Int)), .nilf, .nilf, .nilf, (.I .i64 (19 : Int)), (.fn (.func 59) [] []), (.fn (.func 60) [] []), (.fn (.func 61) [] [(.ptr 2 (0 : Nat) 0)]), (.I .i64 (20 : Int)), (.fn (.func 62) [] []), (.fn (.func 63) [] []), (.fn (.func 64) [] [(.ptr 2 (0 : Nat) 0)]), (.I .i64 (22 : Int)), (.fn (.func 65) [] []), (.fn (.func 66) [] []), (.fn (.func 67) [] []), (.I .i64 (23 : Int)), (.fn (.func 68) [] []), (.fn (.func 69) [] []), (.fn (.func 67) [] [])])), (28, (.I .i64 (1 : Int)))]) [⟨[.ints .u8 xs_m_0_0], 5, false, false⟩, ⟨[.ints .i64 ([(0 : Int)] : List Int), .ints .i64 ([(0 : Int)] : List Int), .ints .i64 ([(0 : Int)] : List Int), .ints .i64 ([(0 : Int)] : List Int)], 88, false, true⟩, ⟨[.vals [(.sl 3 (0 : Nat) (none : Option Nat) (none : Option Nat))]], 22, false, true⟩, ⟨[.ints .u8 xs_m_5_0], 5, false, true⟩]) (fun (u0 : Int) => K .ret (selE 93 [(0, (.sl 0 (0 : Nat) (none : Option Nat) (none : Option Nat))), (1, (.I .i64 i_1)), (2, (.I .i64 i_2)), (6, (.ptr 1 (0 : Nat) 0)), (7, (.B true)), (27, (.agg [(.I .i64 (0 : Int)), .nilf, .nilf, .nilf, (.I .i64 (19 : Int)), (.fn (.func 59) [] []), (.fn (.func 60) [] []), (.fn (.func 61) [] [(.ptr 2 (0 : Nat) 0)]), (.I .i64 (20 : Int)), (.fn (.func 62) [] []), (.fn (.func 63) [] []), (.fn (.func 64) [] [(.ptr 2 (0 : Nat) 0)]), (.I .i64 (22 : Int)), (.fn (.func 65) [] []), (.fn (.func 66) [] []), (.fn (.func 67) [] []), (.I .i64 (23 : Int)), (.fn (.func 68) [] []), (.fn (.func 69) [] []), (.fn (.func 67) [] [])])), (28, (.I .i64 (1 : Int)))]) [⟨[.ints .u8 xs_m_0_0], 5, false, false⟩, ⟨[.ints .i64 ([(1 : Int)] : List Int), .ints .i64 ([i_11] : List Int), .ints .i64 ([(16 : Int)] : List Int), .ints .i64 ([u0] : List Int)], 88, false, true⟩, ⟨[.vals [(.sl 3 (0 : Nat) (none : Option Nat) (none : Option Nat))]], 22, false, true⟩, ⟨[.ints .u8 xs_m_5_0], 5, false, true⟩]) (K (.exit 2) (selE 93 [(0, (.sl 0 (0 : Nat) (none : Option Nat) (none : Option Nat))), (1, (.I .i64 i_1)), (2, (.I .i64 i_2)), (6, (.ptr 1 (0 : Nat) 0)), (7, .undef), (27, (.agg [(.I .i64 (0 : Int)), .nilf, .nilf, .nilf, (.I .i64 (19 : Int)), (.fn (.func 59) [] []), (.fn (.func 60) [] []), (.fn (.func 61) [] [(.ptr 2 (0 : Nat) 0)]), (.I .i64 (20 : Int)), (.fn (.func 62) [] []), (.fn (.func 63) [] []), (.fn (.func 64) [] [(.ptr 2 (0 : Nat) 0)]), (.I .i64 (22 : Int)), (.fn (.func 65) [] []), (.fn (.func 66) [] []), (.fn (.func 67) [] []), (.I .i64 (23 : Int)), (.fn (.func 68) [] []), (.fn (.func 69) [] []), (.fn (.func 67) [] [])])), (28, (.I .i64 (1 : Int)))]) [⟨[.ints .u8 xs_m_0_0], 5, false, false⟩, ⟨[.ints .i64 ([(0 : Int)] : List Int), .ints .i64 ([(0 : Int)] : List Int), .ints .i64 ([(0 : Int)] : List Int), .ints .i64 ([(0 : Int)] : List Int)], 88, false, true⟩, ⟨[.vals [(.sl 3 (0 : Nat) (none : Option Nat) (none : Option Nat))]], 22, false, true⟩, ⟨[.ints .u8 xs_m_5_0], 5, false, true⟩]) := by kernel_rfl
theorem RL45_10h_ok (f70_2 : Y70_2) (K : Ex → Env → Mem → Prop) : ∀ (n : Nat) (i_1 : Int) (i_2 : Int) (i_11 : Int) (i_49 : Int) (xs_m_0_0 : List Int) (xs_m_5_0 : List Int), cround 1 [0, 1, 2, 6, 8, 9, 10, 11, 27, 28, 49] [0, 1, 2, 6, 7, 27, 28] (fun ρ m K => cexec Try.prog (T70_2 f70_2 C0) (fun _ => none) 1 1000 XL45_10h ρ m K) n (selE 93 [(0, (.sl 0 (0 : Nat) (none : Option Nat) (none : Option Nat))), (1, (.I .i64 i_1)), (2, (.I .i64 i_2)), (6, (.ptr 1 (0 : Nat) 0)), (8, (.I .i64 (1 : Int))), (9, (.ptr 2 (0 : Nat) 0)), (10, (.sl 3 (0 : Nat) (none : Option Nat) (none : Option Nat))), (11, (.I .i64 i_11)), (27, (.agg [(.I .i64 (0 : Int)), .nilf, .nilf, .nilf, (.I .i64 (19 : Int)), (.fn (.func 59) [] []), (.fn (.func 60) [] []), (.fn (.func 61) [] [(.ptr 4 (0 : Nat) 0)]), (.I .i64 (20 : Int)), (.fn (.func 62) [] []), (.fn (.func 63) [] []), (.fn (.func 64) [] [(.ptr 4 (0 : Nat) 0)]), (.I .i64 (22 : Int)), (.fn (.func 65) [] []), (.fn (.func 66) [] []), (.fn (.func 67) [] []), (.I .i64 (23 : Int)), (.fn (.func 68) [] []), (.fn (.func 69) [] []), (.fn (.func 67) [] [])])), (28, (.I .i64 (1 : Int))), (49, (.I .i64 i_49))]) [⟨[.ints .u8 xs_m_0_0], 5, false, false⟩, ⟨[.ints .i64 ([(0 : Int)] : List Int), .ints .i64 ([(0 : Int)] : List Int), .ints .i64 ([(0 : Int)] : List Int), .ints .i64 ([(0 : Int)] : List Int)], 88, false, true⟩, ⟨[.ints .i64 ([(19 : Int)] : List Int), .vals [(.fn (.func 59) [] [])], .vals [(.fn (.func 60) [] [])], .vals [(.fn (.func 61) [] [(.ptr 4 (0 : Nat) 0)])]], 83, false, true⟩, ⟨[.ints .i64 ([(4 : Int), (12 : Int)] : List Int), .ints .i64 ([(4 : Int), (4 : Int)] : List Int), .ints .i64 ([(19 : Int), (4 : Int)] : List Int), .strs ([([(120 : Int)] : List Int), ([(95 : Int), (95 : Int), (116 : Int), (108 : Int), (115 : Int), (95 : Int), (103 : Int), (101 : Int), (116 : Int), (95 : Int), (97 : Int), (100 : Int), (100 : Int), (114 : Int)] : List Int)] : List (List Int)), .ints .i64 ([(-4 : Int), (-4 : Int)] : List Int)], 32, false, true⟩, ⟨[.vals [(.sl 5 (0 : Nat) (none : Option Nat) (none : Option Nat))]], 22, false, true⟩, ⟨[.ints .u8 xs_m_5_0], 5, false, true⟩] K = RL45_10h f70_2 n i_1 i_2 i_11 i_49 xs_m_0_0 xs_m_5_0 (K .ret (selE 93 [(0, (.sl 0 (0 : Nat) (none : Option Nat) (none : Option Nat))), (1, (.I .i64 i_1)), (2, (.I .i64 i_2)), (6, (.ptr 1 (0 : Nat) 0)), (7, (.B false)), (27, (.agg [(.I .i64 (0 : Int)), .nilf, .nilf, .nilf, (.I .i64 (19 : Int)), (.fn (.func 59) [] []), (.fn (.func 60) [] []), (.fn (.func 61) [] [(.ptr 2 (0 : Nat) 0)]), (.I .i64 (20 : Int)), (.fn (.func 62) [] []), (.fn (.func 63) [] []), (.fn (.func 64) [] [(.ptr 2 (0 : Nat) 0)]), (.I .i64 (22 : Int)), (.fn (.func 65) [] []), (.fn (.func 66) [] []), (.fn (.func 67) [] []), (.I .i64 (23 : Int)), (.fn (.func 68) [] []), (.fn (.func 69) [] []), (.fn (.func 67) [] [])])), (28, (.I .i64 (1 : Int)))]) [⟨[.ints .u8 xs_m_0_0], 5, false, false⟩, ⟨[.ints .i64 ([(0 : Int)] : List Int), .ints .i64 ([(0 : Int)] : List Int), .ints .i64 ([(0 : Int)] : List Int), .ints .i64 ([(0 : Int)] : List Int)], 88, false, true⟩, ⟨[.vals [(.sl 3 (0 : Nat) (none : Option Nat) (none : Option Nat))]], 22, false, true⟩, ⟨[.ints .u8 xs_m_5_0], 5, false, true⟩]) (fun (u0 : Int) => K .ret (selE 93 [(0, (.sl 0 (0 : Nat) (none : Option Nat) (none : Option Nat))), (1, (.I .i64 i_1)), (2, (.I .i64 i_2)), (6, (.ptr 1 (0 : Nat) 0)), (7, (.B true)), (27, (.agg [(.I .i64 (0 : Int)), .nilf, .nilf, .nilf, (.I .i64 (19 : Int)), (.fn (.func 59) [] []), (.fn (.func 60) [] []), (.fn (.func 61) [] [(.ptr 2 (0 : Nat) 0)]), (.I .i64 (20 : Int)), (.fn (.func 62) [] []), (.fn (.func 63) [] []), (.fn (.func 64) [] [(.ptr 2 (0 : Nat) 0)]), (.I .i64 (22 : Int)), (.fn (.func 65) [] []), (.fn (.func 66) [] []), (.fn (.func 67) [] []), (.I .i64 (23 : Int)), (.fn (.func 68) [] []), (.fn (.func 69) [] []), (.fn (.func 67) [] [])])), (28, (.I .i64 (1 : Int)))]) [⟨[.ints .u8 xs_m_0_0], 5, false, false⟩, ⟨[.ints .i64 ([(1 : Int)] : List Int), .ints .i64 ([i_11] : List Int), .ints .i64 ([(16 : Int)] : List Int), .ints .i64 ([u0] : List Int)], 88, false, true⟩, ⟨[.vals [(.sl 3 (0 : Nat) (none : Option Nat) (none : Option Nat))]], 22, false, true⟩, ⟨[.ints .u8 xs_m_5_0], 5, false, true⟩]) (K (.exit 2) (selE 93 [(0, (.sl 0 (0 : Nat) (none : Option Nat) (none : Option Nat))), (1, (.I .i64 i_1)), (2, (.I .i64 i_2)), (6, (.ptr 1 (0 : Nat) 0)), (7, .undef), (27, (.agg [(.I .i64 (0 : Int)), .nilf, .nilf, .nilf, (.I .i64 (19 : Int)), (.fn (.func 59) [] []), (.fn (.func 60) [] []), (.fn (.func 61) [] [(.ptr 2 (0 : Nat) 0)]), (.I .i64 (20 : Int)), (.fn (.func 62) [] []), (.fn (.func 63) [] []), (.fn (.func 64) [] [(.ptr 2 (0 : Nat) 0)]), (.I .i64 (22 : Int)), (.fn (.func 65) [] []), (.fn (.func 66) [] []), (.fn (.func 67) [] []), (.I .i64 (23 : Int)), (.fn (.func 68) [] []), (.fn (.func 69) [] []), (.fn (.func 67) [] [])])), (28, (.I .i64 (1 : Int)))]) [⟨[.ints .u8 xs_m_0_0], 5, false, false⟩, ⟨[.ints .i64 ([(0 : Int)] : List Int), .ints .i64 ([(0 : Int)] : List Int), .ints .i64 ([(0 : Int)] : List Int), .ints .i64 ([(0 : Int)] : List Int)], 88, false, true⟩, ⟨[.vals [(.sl 3 (0 : Nat) (none : Option Nat) (none : Option Nat))]], 22, false, true⟩, ⟨[.ints .u8 xs_m_5_0], 5, false, true⟩])
  | 0, i_1, i_2, i_11, i_49, xs_m_0_0, xs_m_5_0 => rfl
  | n + 1, i_1, i_2, i_11, i_49, xs_m_0_0, xs_m_5_0 => by
    have ih := RL45_10h_ok f70_2 K n
    rw [HL45_10h_ok f70_2 n i_1 i_2 i_11 i_49 xs_m_0_0 xs_m_5_0 K]
    show HL45_10h f70_2 _ i_1 i_2 i_11 i_49 xs_m_0_0 xs_m_5_0 (K .ret (selE 93 [(0, (.sl 0 (0 : Nat) (none : Option Nat) (none : Option Nat))), (1, (.I .i64 i_1)), (2, (.I .i64 i_2)), (6, (.ptr 1 (0 : Nat) 0)), (7, (.B false)), (27, (.agg [(.I .i64 (0 : Int)), .nilf, .nilf, .nilf, (.I .i64 (19 : Int)), (.fn (.func 59) [] []), (.fn (.func 60) [] []), (.fn (.func 61) [] [(.ptr 2 (0 : Nat) 0)]), (.I .i64 (20 : Int)), (.fn (.func 62) [] []), (.fn (.func 63) [] []), (.fn (.func 64) [] [(.ptr 2 (0 : Nat) 0)]), (.I .i64 (22 : Int)), (.fn (.func 65) [] []), (.fn (.func 66) [] []), (.fn (.func 67) [] []), (.I .i64 (23 : Int)), (.fn (.func 68) [] []), (.fn (.func 69) [] []), (.fn (.func 67) [] [])])), (28, (.I .i64 (1 : Int)))]) [⟨[.ints .u8 xs_m_0_0], 5, false, false⟩, ⟨[.ints .i64 ([(0 : Int)] : List Int), .ints .i64 ([(0 : Int)] : List Int), .ints .i64 ([(0 : Int)] : List Int), .ints .i64 ([(0 : Int)] : List Int)], 88, false, true⟩, ⟨[.vals [(.sl 3 (0 : Nat) (none : Option Nat) (none : Option Nat))]], 22, false, true⟩, ⟨[.ints .u8 xs_m_5_0], 5, false, true⟩]) (fun (u0 : Int) => K .ret (selE 93 [(0, (.sl 0 (0 : Nat) (none : Option Nat) (none : Option Nat))), (1, (.I .i64 i_1)), (2, (.I .i64 i_2)), (6, (.ptr 1 (0 : Nat) 0)), (7, (.B true)), (27, (.agg [(.I .i64 (0 : Int)), .nilf, .nilf, .nilf, (.I .i64 (19 : Int)), (.fn (.func 59) [] []), (.fn (.func 60) [] []), (.fn (.func 61) [] [(.ptr 2 (0 : Nat) 0)]), (.I .i64 (20 : Int)), (.fn (.func 62) [] []), (.fn (.func 63) [] []), (.fn (.func 64) [] [(.ptr 2 (0 : Nat) 0)]), (.I .i64 (22 : Int)), (.fn (.func 65) [] []), (.fn (.func 66) [] []), (.fn (.func 67) [] []), (.I .i64 (23 : Int)), (.fn (.func 68) [] []), (.fn (.func 69) [] []), (.fn (.func 67) [] [])])), (28, (.I .i64 (1 : Int)))]) [⟨[.ints .u8 xs_m_0_0], 5, false, false⟩, ⟨[.ints .i64 ([(1 : Int)] : List Int), .ints .i64 ([i_11] : List Int), .ints .i64 ([(16 : Int)] : List Int), .ints .i64 ([u0] : List Int)], 88, false, true⟩, ⟨[.vals [(.sl 3 (0 : Nat) (none : Option Nat) (none : Option Nat))]], 22, false, true⟩, ⟨[.ints .u8 xs_m_5_0], 5, false, true⟩]) (K (.exit 2) (selE 93 [(0, (.sl 0 (0 : Nat) (none : Option Nat) (none : Option Nat))), (1, (.I .i64 i_1)), (2, (.I .i64 i_2)), (6, (.ptr 1 (0 : Nat) 0)), (7, .undef), (27, (.agg [(.I .i64 (0 : Int)), .nilf, .nilf, .nilf, (.I .i64 (19 : Int)), (.fn (.func 59) [] []), (.fn (.func 60) [] []), (.fn (.func 61) [] [(.ptr 2 (0 : Nat) 0)]), (.I .i64 (20 : Int)), (.fn (.func 62) [] []), (.fn (.func 63) [] []), (.fn (.func 64) [] [(.ptr 2 (0 : Nat) 0)]), (.I .i64 (22 : Int)), (.fn (.func 65) [] []), (.fn (.func 66) [] []), (.fn (.func 67) [] []), (.I .i64 (23 : Int)), (.fn (.func 68) [] []), (.fn (.func 69) [] []), (.fn (.func 67) [] [])])), (28, (.I .i64 (1 : Int)))]) [⟨[.ints .u8 xs_m_0_0], 5, false, false⟩, ⟨[.ints .i64 ([(0 : Int)] : List Int), .ints .i64 ([(0 : Int)] : List Int), .ints .i64 ([(0 : Int)] : List Int), .ints .i64 ([(0 : Int)] : List Int)], 88, false, true⟩, ⟨[.vals [(.sl 3 (0 : Nat) (none : Option Nat) (none : Option Nat))]], 22, false, true⟩, ⟨[.ints .u8 xs_m_5_0], 5, false, true⟩]) = HL45_10h f70_2 _ i_1 i_2 i_11 i_49 xs_m_0_0 xs_m_5_0 (K .ret (selE 93 [(0, (.sl 0 (0 : Nat) (none : Option Nat) (none : Option Nat))), (1, (.I .i64 i_1)), (2, (.I .i64 i_2)), (6, (.ptr 1 (0 : Nat) 0)), (7, (.B false)), (27, (.agg [(.I .i64 (0 : Int)), .nilf, .nilf, .nilf, (.I .i64 (19 : Int)), (.fn (.func 59) [] []), (.fn (.func 60) [] []), (.fn (.func 61) [] [(.ptr 2 (0 : Nat) 0)]), (.I .i64 (20 : Int)), (.fn (.func 62) [] []), (.fn (.func 63) [] []), (.fn (.func 64) [] [(.ptr 2 (0 : Nat) 0)]), (.I .i64 (22 : Int)), (.fn (.func 65) [] []), (.fn (.func 66) [] []), (.fn (.func 67) [] []), (.I .i64 (23 : Int)), (.fn (.func 68) [] []), (.fn (.func 69) [] []), (.fn (.func 67) [] [])])), (28, (.I .i64 (1 : Int)))]) [⟨[.ints .u8 xs_m_0_0], 5, false, false⟩, ⟨[.ints .i64 ([(0 : Int)] : List Int), .ints .i64 ([(0 : Int)] : List Int), .ints .i64 ([(0 : Int)] : List Int), .ints .i64 ([(0 : Int)] : List Int)], 88, false, true⟩, ⟨[.vals [(.sl 3 (0 : Nat) (none : Option Nat) (none : Option Nat))]], 22, false, true⟩, ⟨[.ints .u8 xs_m_5_0], 5, false, true⟩]) (fun (u0 : Int) => K .ret (selE 93 [(0, (.sl 0 (0 : Nat) (none : Option Nat) (none : Option Nat))), (1, (.I .i64 i_1)), (2, (.I .i64 i_2)), (6, (.ptr 1 (0 : Nat) 0)), (7, (.B true)), (27, (.agg [(.I .i64 (0 : Int)), .nilf, .nilf, .nilf, (.I .i64 (19 : Int)), (.fn (.func 59) [] []), (.fn (.func 60) [] []), (.fn (.func 61) [] [(.ptr 2 (0 : Nat) 0)]), (.I .i64 (20 : Int)), (.fn (.func 62) [] []), (.fn (.func 63) [] []), (.fn (.func 64) [] [(.ptr 2 (0 : Nat) 0)]), (.I .i64 (22 : Int)), (.fn (.func 65) [] []), (.fn (.func 66) [] []), (.fn (.func 67) [] []), (.I .i64 (23 : Int)), (.fn (.func 68) [] []), (.fn (.func 69) [] []), (.fn (.func 67) [] [])])), (28, (.I .i64 (1 : Int)))]) [⟨[.ints .u8 xs_m_0_0], 5, false, false⟩, ⟨[.ints .i64 ([(1 : Int)] : List Int), .ints .i64 ([i_11] : List Int), .ints .i64 ([(16 : Int)] : List Int), .ints .i64 ([u0] : List Int)], 88, false, true⟩, ⟨[.vals [(.sl 3 (0 : Nat) (none : Option Nat) (none : Option Nat))]], 22, false, true⟩, ⟨[.ints .u8 xs_m_5_0], 5, false, true⟩]) (K (.exit 2) (selE 93 [(0, (.sl 0 (0 : Nat) (none : Option Nat) (none : Option Nat))), (1, (.I .i64 i_1)), (2, (.I .i64 i_2)), (6, (.ptr 1 (0 : Nat) 0)), (7, .undef), (27, (.agg [(.I .i64 (0 : Int)), .nilf, .nilf, .nilf, (.I .i64 (19 : Int)), (.fn (.func 59) [] []), (.fn (.func 60) [] []), (.fn (.func 61) [] [(.ptr 2 (0 : Nat) 0)]), (.I .i64 (20 : Int)), (.fn (.func 62) [] []), (.fn (.func 63) [] []), (.fn (.func 64) [] [(.ptr 2 (0 : Nat) 0)]), (.I .i64 (22 : Int)), (.fn (.func 65) [] []), (.fn (.func 66) [] []), (.fn (.func 67) [] []), (.I .i64 (23 : Int)), (.fn (.func 68) [] []), (.fn (.func 69) [] []), (.fn (.func 67) [] [])])), (28, (.I .i64 (1 : Int)))]) [⟨[.ints .u8 xs_m_0_0], 5, false, false⟩, ⟨[.ints .i64 ([(0 : Int)] : List Int), .ints .i64 ([(0 : Int)] : List Int), .ints .i64 ([(0 : Int)] : List Int), .ints .i64 ([(0 : Int)] : List Int)], 88, false, true⟩, ⟨[.vals [(.sl 3 (0 : Nat) (none : Option Nat) (none : Option Nat))]], 22, false, true⟩, ⟨[.ints .u8 xs_m_5_0], 5, false, true⟩])
    refine congrArg (fun r => HL45_10h f70_2 r i_1 i_2 i_11 i_49 xs_m_0_0 xs_m_5_0 (K .ret (selE 93 [(0, (.sl 0 (0 : Nat) (none : Option Nat) (none : Option Nat))), (1, (.I .i64 i_1)), (2, (.I .i64 i_2)), (6, (.ptr 1 (0 : Nat) 0)), (7, (.B false)), (27, (.agg [(.I .i64 (0 : Int)), .nilf, .nilf, .nilf, (.I .i64 (19 : Int)), (.fn (.func 59) [] []), (.fn (.func 60) [] []), (.fn (.func 61) [] [(.ptr 2 (0 : Nat) 0)]), (.I .i64 (20 : Int)), (.fn (.func 62) [] []), (.fn (.func 63) [] []), (.fn (.func 64) [] [(.ptr 2 (0 : Nat) 0)]), (.I .i64 (22 : Int)), (.fn (.func 65) [] []), (.fn (.func 66) [] []), (.fn (.func 67) [] []), (.I .i64 (23 : Int)), (.fn (.func 68) [] []), (.fn (.func 69) [] []), (.fn (.func 67) [] [])])), (28, (.I .i64 (1 : Int)))]) [⟨[.ints .u8 xs_m_0_0], 5, false, false⟩, ⟨[.ints .i64 ([(0 : Int)] : List Int), .ints .i64 ([(0 : Int)] : List Int), .ints .i64 ([(0 : Int)] : List Int), .ints .i64 ([(0 : Int)] : List Int)], 88, false, true⟩, ⟨[.vals [(.sl 3 (0 : Nat) (none : Option Nat) (none : Option Nat))]], 22, false, true⟩, ⟨[.ints .u8 xs_m_5_0], 5, false, true⟩]) (fun (u0 : Int) => K .ret (selE 93 [(0, (.sl 0 (0 : Nat) (none : Option Nat) (none : Option Nat))), (1, (.I .i64 i_1)), (2, (.I .i64 i_2)), (6, (.ptr 1 (0 : Nat) 0)), (7, (.B true)), (27, (.agg [(.I .i64 (0 : Int)), .nilf, .nilf, .nilf, (.I .i64 (19 : Int)), (.fn (.func 59) [] []), (.fn (.func 60) [] []), (.fn (.func 61) [] [(.ptr 2 (0 : Nat) 0)]), (.I .i64 (20 : Int)), (.fn (.func 62) [] []), (.fn (.func 63) [] []), (.fn (.func 64) [] [(.ptr 2 (0 : Nat) 0)]), (.I .i64 (22 : Int)), (.fn (.func 65) [] []), (.fn (.func 66) [] []), (.fn (.func 67) [] []), (.I .i64 (23 : Int)), (.fn (.func 68) [] []), (.fn (.func 69) [] []), (.fn (.func 67) [] [])])), (28, (.I .i64 (1 : Int)))]) [⟨[.ints .u8 xs_m_0_0], 5, false, false⟩, ⟨[.ints .i64 ([(1 : Int)] : List Int), .ints .i64 ([i_11] : List Int), .ints .i64 ([(16 : Int)] : List Int), .ints .i64 ([u0] : List Int)], 88, false, true⟩, ⟨[.vals [(.sl 3 (0 : Nat) (none : Option Nat) (none : Option Nat))]], 22, false, true⟩, ⟨[.ints .u8 xs_m_5_0], 5, false, true⟩]) (K (.exit 2) (selE 93 [(0, (.sl 0 (0 : Nat) (none : Option Nat) (none : Option Nat))), (1, (.I .i64 i_1)), (2, (.I .i64 i_2)), (6, (.ptr 1 (0 : Nat) 0)), (7, .undef), (27, (.agg [(.I .i64 (0 : Int)), .nilf, .nilf, .nilf, (.I .i64 (19 : Int)), (.fn (.func 59) [] []), (.fn (.func 60) [] []), (.fn (.func 61) [] [(.ptr 2 (0 : Nat) 0)]), (.I .i64 (20 : Int)), (.fn (.func 62) [] []), (.fn (.func 63) [] []), (.fn (.func 64) [] [(.ptr 2 (0 : Nat) 0)]), (.I .i64 (22 : Int)), (.fn (.func 65) [] []), (.fn (.func 66) [] []), (.fn (.func 67) [] []), (.I .i64 (23 : Int)), (.fn (.func 68) [] []), (.fn (.func 69) [] []), (.fn (.func 67) [] [])])), (28, (.I .i64 (1 : Int)))]) [⟨[.ints .u8 xs_m_0_0], 5, false, false⟩, ⟨[.ints .i64 ([(0 : Int)] : List Int), .ints .i64 ([(0 : Int)] : List Int), .ints .i64 ([(0 : Int)] : List Int), .ints .i64 ([(0 : Int)] : List Int)], 88, false, true⟩, ⟨[.vals [(.sl 3 (0 : Nat) (none : Option Nat) (none : Option Nat))]], 22, false, true⟩, ⟨[.ints .u8 xs_m_5_0], 5, false, true⟩])) ?_
    funext i_49
    exact ih i_1 i_2 i_11 i_49 xs_m_0_0 xs_m_5_0
def GL45_10h : YL45_10h := fun x i_1 i_2 i_11 i_49 xs_m_0_0 xs_m_5_0 k1 k2 k3 => x = XL45_10h ∧ ∃ n, RL45_10h G70_2 n i_1 i_2 i_11 i_49 xs_m_0_0 xs_m_5_0 k1 k2 k3
def VL45_10h (l : YL45_10h) (F : Prop) (x : Code) (ρ : Env) (m : Mem) (K : Ex → Env → Mem → Prop) : Prop :=
  match ρ.has (93 - 1) with
  | true => (seeV (.sl 0 (0 : Nat) (none : Option Nat) (none : Option Nat)) (ρ.get 0) F (seeI .i64 (ρ.get 1) F fun i_1 => (seeI .i64 (ρ.get 2) F fun i_2 => (seeV (.ptr 1 (0 : Nat) 0) (ρ.get 6) F (seeV (.I .i64 (1 : Int)) (ρ.get 8) F (seeV (.ptr 2 (0 : Nat) 0) (ρ.get 9) F (seeV (.sl 3 (0 : Nat) (none : Option Nat) (none : Option Nat)) (ρ.get 10) F (seeI .i64 (ρ.get 11) F fun i_11 => (seeV (.agg [(.I .i64 (0 : Int)), .nilf, .nilf, .nilf, (.I .i64 (19 : Int)), (.fn (.func 59) [] []), (.fn (.func 60) [] []), (.fn (.func 61) [] [(.ptr 4 (0 : Nat) 0)]), (.I .i64 (20 : Int)), (.fn (.func 62) [] []), (.fn (.func 63) [] []), (.fn (.func 64) [] [(.ptr 4 (0 : Nat) 0)]), (.I .i64 (22 : Int)), (.fn (.func 65) [] []), (.fn (.func 66) [] []), (.fn (.func 67) [] []), (.I .i64 (23 : Int)), (.fn (.func 68) [] []), (.fn (.func 69) [] []), (.fn (.func 67) [] [])]) (ρ.get 27) F (seeV (.I .i64 (1 : Int)) (ρ.get 28) F (seeI .i64 (ρ.get 49) F fun i_49 => (seeCons m F fun a12 q13 => (seeBlk 5 false false a12 F fun cs14 => (seeCons cs14 F fun a15 q16 => (seeInts .u8 a15 F fun xs_m_0_0 => (seeNil q16 F (seeCons q13 F fun a17 q18 => (seeBlk 88 false true a17 F fun cs19 => (seeCons cs19 F fun a20 q21 => (seeInts .i64 a20 F fun xs22 => (seeX ([(0 : Int)] : List Int) xs22 F (seeCons q21 F fun a23 q24 => (seeInts .i64 a23 F fun xs25 => (seeX ([(0 : Int)] : List Int) xs25 F (seeCons q24 F fun a26 q27 => (seeInts .i64 a26 F fun xs28 => (seeX ([(0 : Int)] : List Int) xs28 F (seeCons q27 F fun a29 q30 => (seeInts .i64 a29 F fun xs31 => (seeX ([(0 : Int)] : List Int) xs31 F (seeNil q30 F (seeCons q18 F fun a32 q33 => (seeBlk 83 false true a32 F fun cs34 => (seeCons cs34 F fun a35 q36 => (seeInts .i64 a35 F fun xs37 => (seeX ([(19 : Int)] : List Int) xs37 F (seeCons q36 F fun a38 q39 => (seeVals a38 F fun xs40 => (seeCons xs40 F fun a41 q42 => (seeV (.fn (.func 59) [] []) a41 F (seeNil q42 F (seeCons q39 F fun a43 q44 => (seeVals a43 F fun xs45 => (seeCons xs45 F fun a46 q47 => (seeV (.fn (.func 60) [] []) a46 F (seeNil q47 F (seeCons q44 F fun a48 q49 => (seeVals a48 F fun xs50 => (seeCons xs50 F fun a51 q52 => (seeV (.fn (.func 61) [] [(.ptr 4 (0 : Nat) 0)]) a51 F (seeNil q52 F (seeNil q49 F (seeCons q33 F fun a53 q54 => (seeBlk 32 false true a53 F fun cs55 => (seeCons cs55 F fun a56 q57 => (seeInts .i64 a56 F fun xs58 => (seeX ([(4 : Int), (12 : Int)] : List Int) xs58 F (seeCons q57 F fun a59 q60 => (seeInts .i64 a59 F fun xs61 => (seeX ([(4 : Int), (4 : Int)] : List Int) xs61 F (seeCons q60 F fun a62 q63 => (seeInts .i64 a62 F fun xs64 => (seeX ([(19 : Int), (4 : Int)] : List Int) xs64 F (seeCons q63 F fun a65 q66 => (seeStrs a65 F fun xs67 => (seeCons xs67 F fun a68 q69 => (seeX ([(120 : Int)] : List Int) a68 F (seeCons q69 F fun a70 q71 => (seeX ([(95 : Int), (95 : Int), (116 : Int), (108 : Int), (115 : Int), (95 : Int), (103 : Int), (101 : Int), (116 : Int), (95 : Int), (97 : Int), (100 : Int), (100 : Int), (114 : Int)] : List Int) a70 F (seeNil q71 F (seeCons q66 F fun a72 q73 => (seeInts .i64 a72 F fun xs74 => (seeX ([(-4 : Int), (-4 : Int)] : List Int) xs74 F (seeNil q73 F (seeCons q54 F fun a75 q76 => (seeBlk 22 false true a75 F fun cs77 => (seeCons cs77 F fun a78 q79 => (seeVals a78 F fun xs80 => (seeCons xs80 F fun a81 q82 => (seeV (.sl 5 (0 : Nat) (none : Option Nat) (none : Option Nat)) a81 F (seeNil q82 F (seeNil q79 F (seeCons q76 F fun a83 q84 => (seeBlk 5 false true a83 F fun cs85 => (seeCons cs85 F fun a86 q87 => (seeInts .u8 a86 F fun xs_m_5_0 => (seeNil q87 F (seeNil q84 F (l x i_1 i_2 i_11 i_49 xs_m_0_0 xs_m_5_0 (K .ret (selE 93 [(0, (.sl 0 (0 : Nat) (none : Option Nat) (none : Option Nat))), (1, (.I .i64 i_1)), (2, (.I .i64 i_2)), (6, (.ptr 1 (0 : Nat) 0)), (7, (.B false)), (27, (.agg [(.I .i64 (0 : Int)), .nilf, .nilf, .nilf, (.I .i64 (19 : Int)), (.fn (.func 59) [] []), (.fn (.func 60) [] []), (.fn (.func 61) [] [(.ptr 2 (0 : Nat) 0)]), (.I .i64 (20 : Int)), (.fn (.func 62) [] []), (.fn (.func 63) [] []), (.fn (.func 64) [] [(.ptr 2 (0 : Nat) 0)]), (.I .i64 (22 : Int)), (.fn (.func 65) [] []), (.fn (.func 66) [] []), (.fn (.func 67) [] []), (.I .i64 (23 : Int)), (.fn (.func 68) [] []), (.fn (.func 69) [] []), (.fn (.func 67) [] [])])), (28, (.I .i64 (1 : Int)))]) [⟨[.ints .u8 xs_m_0_0], 5, false, false⟩, ⟨[.ints .i64 ([(0 : Int)] : List Int), .ints .i64 ([(0 : Int)] : List Int), .ints .i64 ([(0 : Int)] : List Int), .ints .i64 ([(0 : Int)] : List Int)], 88, false, true⟩, ⟨[.vals [(.sl 3 (0 : Nat) (none : Option Nat) (none : Option Nat))]], 22, false, true⟩, ⟨[.ints .u8 xs_m_5_0], 5, false, true⟩]) (fun (u0 : Int) => K .ret (selE 93 [(0, (.sl 0 (0 : Nat) (none : Option Nat) (none : Option Nat))), (1, (.I .i64 i_1)), (2, (.I .i64 i_2)), (6, (.ptr 1 (0 : Nat) 0)), (7, (.B true)), (27, (.agg [(.I .i64 (0 : Int)), .nilf, .nilf, .nilf, (.I .i64 (19 : Int)), (.fn (.func 59) [] []), (.fn (.func 60) [] []), (.fn (.func 61) [] [(.ptr 2 (0 : Nat) 0)]), (.I .i64 (20 : Int)), (.fn (.func 62) [] []), (.fn (.func 63) [] []), (.fn (.func 64) [] [(.ptr 2 (0 : Nat) 0)]), (.I .i64 (22 : Int)), (.fn (.func 65) [] []), (.fn (.func 66) [] []), (.fn (.func 67) [] []), (.I .i64 (23 : Int)), (.fn (.func 68) [] []), (.fn (.func 69) [] []), (.fn (.func 67) [] [])])), (28, (.I .i64 (1 : Int)))]) [⟨[.ints .u8 xs_m_0_0], 5, false, false⟩, ⟨[.ints .i64 ([(1 : Int)] : List Int), .ints .i64 ([i_11] : List Int), .ints .i64 ([(16 : Int)] : List Int), .ints .i64 ([u0] : List Int)], 88, false, true⟩, ⟨[.vals [(.sl 3 (0 : Nat) (none : Option Nat) (none : Option Nat))]], 22, false, true⟩, ⟨[.ints .u8 xs_m_5_0], 5, false, true⟩]) (K (.exit 2) (selE 93 [(0, (.sl 0 (0 : Nat) (none : Option Nat) (none : Option Nat))), (1, (.I .i64 i_1)), (2, (.I .i64 i_2)), (6, (.ptr 1 (0 : Nat) 0)), (7, .undef), (27, (.agg [(.I .i64 (0 : Int)), .nilf, .nilf, .nilf, (.I .i64 (19 : Int)), (.fn (.func 59) [] []), (.fn (.func 60) [] []), (.fn (.func 61) [] [(.ptr 2 (0 : Nat) 0)]), (.I .i64 (20 : Int)), (.fn (.func 62) [] []), (.fn (.func 63) [] []), (.fn (.func 64) [] [(.ptr 2 (0 : Nat) 0)]), (.I .i64 (22 : Int)), (.fn (.func 65) [] []), (.fn (.func 66) [] []), (.fn (.func 67) [] []), (.I .i64 (23 : Int)), (.fn (.func 68) [] []), (.fn (.func 69) [] []), (.fn (.func 67) [] [])])), (28, (.I .i64 (1 : Int)))]) [⟨[.ints .u8 xs_m_0_0], 5, false, false⟩, ⟨[.ints .i64 ([(0 : Int)] : List Int), .ints .i64 ([(0 : Int)] : List Int), .ints .i64 ([(0 : Int)] : List Int), .ints .i64 ([(0 : Int)] : List Int)], 88, false, true⟩, ⟨[.vals [(.sl 3 (0 : Nat) (none : Option Nat) (none : Option Nat))]], 22, false, true⟩, ⟨[.ints .u8 xs_m_5_0], 5, false, true⟩]))))))))))))))))))))))))))))))))))))))))))))))))))))))))))))))))))))))))))))))))))))))))))
  | false => False
def WL45_10h (l : YL45_10h) (W : Masks) : Masks := fun r =>
  match Nat.beq r 10 with
  | true => some fun x ρ m K => VL45_10h l (match W r with | some lf => lf x ρ m K | none => False) x (tidyE 1 [0, 1, 2, 6, 8, 9, 10, 11, 27, 28, 49] ρ m) (tidyM 1 [0, 1, 2, 6, 8, 9, 10, 11, 27, 28, 49] ρ m) K
  | false => W r
set_option maxRecDepth 100000 in
theorem WL45_10h_ok {W : Masks} (hW : LoopsOk Try.prog 1 W) : LoopsOk Try.prog 1 (WL45_10h GL45_10h W) := by
  intro r lf h
  unfold WL45_10h at h
  split at h
  · cases h
    intro x E0 m0 w0 ds hS0 ha ρ m K E a w Q hS hρ hd h hQ
    have fb : (match W r with | some lf => lf x ρ m K | none => False) → (Code.loop x).wp Try.prog Q a w := fun h => by
      split at h
      · rename_i lf hlf
        exact hW r lf hlf x hS0 ha ρ m K E a w Q hS hρ hd h hQ
      · cases h
    obtain ⟨E2, hS2, hρ2⟩ := tidy_rel hS0 hS hρ [0, 1, 2, 6, 8, 9, 10, 11, 27, 28, 49]
    rw [ha] at hS2 hρ2
    unfold VL45_10h at h
    split at h
    · rename_i hlen
      replace h := seeV_use h
      rcases h with h | ⟨e1, h⟩
      · exact fb h
      replace h := seeI_use h
      rcases h with h | ⟨i_1, e2, h⟩
      · exact fb h
      replace h := seeI_use h
      rcases h with h | ⟨i_2, e3, h⟩
      · exact fb h
      replace h := seeV_use h
      rcases h with h | ⟨e4, h⟩
      · exact fb h
      replace h := seeV_use h
      rcases h with h | ⟨e5, h⟩
      · exact fb h
      replace h := seeV_use h
      rcases h with h | ⟨e6, h⟩
      · exact fb h
      replace h := seeV_use h
      rcases h with h | ⟨e7, h⟩
      · exact fb h
      replace h := seeI_use h
      rcases h with h | ⟨i_11, e8, h⟩
      · exact fb h
      replace h := seeV_use h
      rcases h with h | ⟨e9, h⟩
      · exact fb h
      replace h := seeV_use h
      rcases h with h | ⟨e10, h⟩
      · exact fb h
      replace h := seeI_use h
      rcases h with h | ⟨i_49, e11, h⟩
      · exact fb h
      replace h := seeCons_use h
      rcases h with h | ⟨a12, q13, eqm, h⟩
      · exact fb h
      replace h := seeBlk_use h
      rcases h with h | ⟨cs14, rfl, h⟩
      · exact fb h
      replace h := seeCons_use h
      rcases h with h | ⟨a15, q16, rfl, h⟩
      · exact fb h
      replace h := seeInts_use h
      rcases h with h | ⟨xs_m_0_0, rfl, h⟩
      · exact fb h
      replace h := seeNil_use h
      rcases h with h | ⟨rfl, h⟩
      · exact fb h
      replace h := seeCons_use h
      rcases h with h | ⟨a17, q18, rfl, h⟩
      · exact fb h
      replace h := seeBlk_use h
      rcases h with h | ⟨cs19, rfl, h⟩
      · exact fb h
      replace h := seeCons_use h
      rcases h with h | ⟨a20, q21, rfl, h⟩
      · exact fb h
      replace h := seeInts_use h
      rcases h with h | ⟨xs22, rfl, h⟩
      · exact fb h
      replace h := seeX_use h
      rcases h with h | ⟨rfl, h⟩
      · exact fb h
      replace h := seeCons_use h
      rcases h with h | ⟨a23, q24, rfl, h⟩
      · exact fb h
      replace h := seeInts_use h
      rcases h with h | ⟨xs25, rfl, h⟩
      · exact fb h
      replace h := seeX_use h
      rcases h with h | ⟨rfl, h⟩
      · exact fb h
      replace h := seeCons_use h
      rcases h with h | ⟨a26, q27, rfl, h⟩
      · exact fb h
      replace h := seeInts_use h
      rcases h with h | ⟨xs28, rfl, h⟩
      · exact fb h
      replace h := seeX_use h
      rcases h with h | ⟨rfl, h⟩
      · exact fb h
      replace h := seeCons_use h
      rcases h with h | ⟨a29, q30, rfl, h⟩
      · exact fb h
      replace h := seeInts_use h
      rcases h with h | ⟨xs31, rfl, h⟩
      · exact fb h
      replace h := seeX_use h
      rcases h with h | ⟨rfl, h⟩
      · exact fb h
      replace h := seeNil_use h
      rcases h with h | ⟨rfl, h⟩
      · exact fb h
      replace h := seeCons_use h
      rcases h with h | ⟨a32, q33, rfl, h⟩
      · exact fb h
      replace h := seeBlk_use h
      rcases h with h | ⟨cs34, rfl, h⟩
      · exact fb h
      replace h := seeCons_use h
      rcases h with h | ⟨a35, q36, rfl, h⟩
      · exact fb h
      replace h := seeInts_use h
      rcases h with h | ⟨xs37, rfl, h⟩
      · exact fb h
      replace h := seeX_use h
      rcases h with h | ⟨rfl, h⟩
      · exact fb h
      replace h := seeCons_use h
      rcases h with h | ⟨a38, q39, rfl, h⟩
      · exact fb h
      replace h := seeVals_use h
      rcases h with h | ⟨xs40, rfl, h⟩
      · exact fb h
      replace h := seeCons_use h
      rcases h with h | ⟨a41, q42, rfl, h⟩
      · exact fb h
      replace h := seeV_use h
      rcases h with h | ⟨rfl, h⟩
      · exact fb h
      replace h := seeNil_use h
      rcases h with h | ⟨rfl, h⟩
      · exact fb h
      replace h := seeCons_use h
      rcases h with h | ⟨a43, q44, rfl, h⟩
      · exact fb h
      replace h := seeVals_use h
      rcases h with h | ⟨xs45, rfl, h⟩
      · exact fb h
      replace h := seeCons_use h
      rcases h with h | ⟨a46, q47, rfl, h⟩
      · exact fb h
      replace h := seeV_use h
      rcases h with h | ⟨rfl, h⟩
      · exact fb h
      replace h := seeNil_use h
      rcases h with h | ⟨rfl, h⟩
      · exact fb h
      replace h := seeCons_use h
      rcases h with h | ⟨a48, q49, rfl, h⟩
      · exact fb h
      replace h := seeVals_use h
      rcases h with h | ⟨xs50, rfl, h⟩
      · exact fb h
      replace h := seeCons_use h
      rcases h with h | ⟨a51, q52, rfl, h⟩
      · exact fb h
      replace h := seeV_use h
      rcases h with h | ⟨rfl, h⟩
      · exact fb h
      replace h := seeNil_use h
      rcases h with h | ⟨rfl, h⟩
      · exact fb h
      replace h := seeNil_use h
      rcases h with h | ⟨rfl, h⟩
      · exact fb h
      replace h := seeCons_use h
      rcases h with h | ⟨a53, q54, rfl, h⟩
      · exact fb h
      replace h := seeBlk_use h
      rcases h with h | ⟨cs55, rfl, h⟩
      · exact fb h
      replace h := seeCons_use h
      rcases h with h | ⟨a56, q57, rfl, h⟩
      · exact fb h
      replace h := seeInts_use h
      rcases h with h | ⟨xs58, rfl, h⟩
      · exact fb h
      replace h := seeX_use h
      rcases h with h | ⟨rfl, h⟩
      · exact fb h
      replace h := seeCons_use h
      rcases h with h | ⟨a59, q60, rfl, h⟩
      · exact fb h
      replace h := seeInts_use h
      rcases h with h | ⟨xs61, rfl, h⟩
      · exact fb h
      replace h := seeX_use h
      rcases h with h | ⟨rfl, h⟩
      · exact fb h
      replace h := seeCons_use h
      rcases h with h | ⟨a62, q63, rfl, h⟩
      · exact fb h
      replace h := seeInts_use h
      rcases h with h | ⟨xs64, rfl, h⟩
      · exact fb h
      replace h := seeX_use h
      rcases h with h | ⟨rfl, h⟩
      · exact fb h
      replace h := seeCons_use h
      rcases h with h | ⟨a65, q66, rfl, h⟩
      · exact fb h
      replace h := seeStrs_use h
      rcases h with h | ⟨xs67, rfl, h⟩
      · exact fb h
      replace h := seeCons_use h
      rcases h with h | ⟨a68, q69, rfl, h⟩
      · exact fb h
      replace h := seeX_use h
      rcases h with h | ⟨rfl, h⟩
      · exact fb h
      replace h := seeCons_use h
      rcases h with h | ⟨a70, q71, rfl, h⟩
      · exact fb h
      replace h := seeX_use h
      rcases h with h | ⟨rfl, h⟩
      · exact fb h
      replace h := seeNil_use h
      rcases h with h | ⟨rfl, h⟩
      · exact fb h
      replace h := seeCons_use h
      rcases h with h | ⟨a72, q73, rfl, h⟩
      · exact fb h
      replace h := seeInts_use h
      rcases h with h | ⟨xs74, rfl, h⟩
      · exact fb h
      replace h := seeX_use h
      rcases h with h | ⟨rfl, h⟩
      · exact fb h
      replace h := seeNil_use h
      rcases h with h | ⟨rfl, h⟩
      · exact fb h
      replace h := seeCons_use h
      rcases h with h | ⟨a75, q76, rfl, h⟩
      · exact fb h
      replace h := seeBlk_use h
      rcases h with h | ⟨cs77, rfl, h⟩
      · exact fb h
      replace h := seeCons_use h
      rcases h with h | ⟨a78, q79, rfl, h⟩
      · exact fb h
      replace h := seeVals_use h
      rcases h with h | ⟨xs80, rfl, h⟩
      · exact fb h
      replace h := seeCons_use h
      rcases h with h | ⟨a81, q82, rfl, h⟩
      · exact fb h
      replace h := seeV_use h
      rcases h with h | ⟨rfl, h⟩
      · exact fb h
      replace h := seeNil_use h
      rcases h with h | ⟨rfl, h⟩
      · exact fb h
      replace h := seeNil_use h
      rcases h with h | ⟨rfl, h⟩
      · exact fb h
      replace h := seeCons_use h
      rcases h with h | ⟨a83, q84, rfl, h⟩
      · exact fb h
      replace h := seeBlk_use h
      rcases h with h | ⟨cs85, rfl, h⟩
      · exact fb h
      replace h := seeCons_use h
      rcases h with h | ⟨a86, q87, rfl, h⟩
      · exact fb h
      replace h := seeInts_use h
      rcases h with h | ⟨xs_m_5_0, rfl, h⟩
      · exact fb h
      replace h := seeNil_use h
      rcases h with h | ⟨rfl, h⟩
      · exact fb h
      replace h := seeNil_use h
      rcases h with h | ⟨rfl, h⟩
      · exact fb h
      obtain ⟨rfl, n, h⟩ := h
      exact loop_use named (T70_2_ok C0_ok) (LoopsOk.none _ _) (RL45_10h_ok G70_2 K n _ _ _ _ _ _) h hS0 ha hlen ⟨e1, e2, e3, e4, e5, e6, e7, e8, e9, e10, e11, trivial⟩ (eqm ▸ hS2) hρ2 hd hQ
    · cases h
  · exact hW r lf h
theorem at45 : Try.prog.funcs[45]? = some (fnOf Try.prog 45) := by kernel_rfl
abbrev Y45x : Type := Int → Int → List Int → (Int → Bool → Prop) → (Int → Prop) → (Int → Prop) → (Int → Int → Prop) → (Int → Int → Prop) → (Int → Int → Prop) → (Int → Int → Prop) → Prop
set_option maxHeartbeats 4000000 in
set_option maxRecDepth 100000 in
def F45x  (l45_10e : YL45_10e) (l45_10f : YL45_10f) (l45_10g : YL45_10g) (l45_10h : YL45_10h) (pa : Int) (t : Int) (xs : List Int) (k1 : Int → Bool → Prop) (k2 : Int → Prop) (k3 : Int → Prop) (k4 : Int → Int → Prop) (k5 : Int → Int → Prop) (k6 : Int → Int → Prop) (k7 : Int → Int → Prop) : Prop :=
  (bif (t == (23 : Int)) then (bif (decide (pa ≥ (0 : Int))) then (k1 (0 : Int) (decide (pa ≤ (IntKind.wrap .i64 (((((List.length xs) - (0 : Nat)) : Nat) : Int) - (4 : Int)))))) else (k2 (0 : Int))) else (bif ((19 : Int) != t) then (bif ((20 : Int) != t) then (bif ((22 : Int) != t) then (bif ((23 : Int) != t) then (k3 (0 : Int)) else (l45_10e XL45_10e pa t (IntKind.wrap .i64 (pa - (3 : Int))) (0 : Int) xs ([(100 : Int), (72 : Int), (139 : Int), (4 : Int), (37 : Int), (0 : Int), (0 : Int), (0 : Int), (0 : Int)] : List Int) ((k3 (0 : Int))) (fun (n1 : Int) => (k4 (IntKind.wrap .i64 (pa - (3 : Int))) n1)) ((k3 (0 : Int))))) else (l45_10f XL45_10f pa t (IntKind.wrap .i64 (pa - (3 : Int))) (0 : Int) xs ([(100 : Int), (72 : Int), (139 : Int), (4 : Int), (37 : Int), (0 : Int), (0 : Int), (0 : Int), (0 : Int)] : List Int) ((k3 (0 : Int))) (fun (n2 : Int) => (k5 (IntKind.wrap .i64 (pa - (3 : Int))) n2)) ((bif ((23 : Int) != t) then (k3 (0 : Int)) else (l45_10e XL45_10e pa t (IntKind.wrap .i64 (pa - (3 : Int))) (0 : Int) xs ([(100 : Int), (72 : Int), (139 : Int), (4 : Int), (37 : Int), (0 : Int), (0 : Int), (0 : Int), (0 : Int)] : List Int) ((k3 (0 : Int))) (fun (n3 : Int) => (k4 (IntKind.wrap .i64 (pa - (3 : Int))) n3)) ((k3 (0 : Int)))))))) else (l45_10g XL45_10g pa t (IntKind.wrap .i64 (pa - (3 : Int))) (0 : Int) xs ([(100 : Int), (72 : Int), (139 : Int), (4 : Int), (37 : Int), (0 : Int), (0 : Int), (0 : Int), (0 : Int)] : List Int) ((k3 (0 : Int))) (fun (n4 : Int) => (k6 (IntKind.wrap .i64 (pa - (3 : Int))) n4)) ((bif ((22 : Int) != t) then (bif ((23 : Int) != t) then (k3 (0 : Int)) else (l45_10e XL45_10e pa t (IntKind.wrap .i64 (pa - (3 : Int))) (0 : Int) xs ([(100 : Int), (72 : Int), (139 : Int), (4 : Int), (37 : Int), (0 : Int), (0 : Int), (0 : Int), (0 : Int)] : List Int) ((k3 (0 : Int))) (fun (n5 : Int) => (k4 (IntKind.wrap .i64 (pa - (3 : Int))) n5)) ((k3 (0 : Int))))) else (l45_10f XL45_10f pa t (IntKind.wrap .i64 (pa - (3 : Int))) (0 : Int) xs ([(100 : Int), (72 : Int), (139 : Int), (4 : Int), (37 : Int), (0 : Int), (0 : Int), (0 : Int), (0 : Int)] : List Int) ((k3 (0 : Int))) (fun (n6 : Int) => (k5 (IntKind.wrap .i64 (pa - (3 : Int))) n6)) ((bif ((23 : Int) != t) then (k3 (0 : Int)) else (l45_10e XL45_10e pa t (IntKind.wrap .i64 (pa - (3 : Int))) (0 : Int) xs ([(100 : Int), (72 : Int), (139 : Int), (4 : Int), (37 : Int), (0 : Int), (0 : Int), (0 : Int), (0 : Int)] : List Int) ((k3 (0 : Int))) (fun (n7 : Int) => (k4 (IntKind.wrap .i64 (pa - (3 : Int))) n7)) ((k3 (0 : Int))))))))))) else (l45_10h XL45_10h pa t (IntKind.wrap .i64 (pa - (4 : Int))) (0 : Int) xs ([(100 : Int), (72 : Int), (139 : Int), (4 : Int), (37 : Int), (0 : Int), (0 : Int), (0 : Int), (0 : Int)] : List Int) ((k3 (0 : Int))) (fun (n8 : Int) => (k7 (IntKind.wrap .i64 (pa - (4 : Int))) n8)) ((bif ((20 : Int) != t) then (bif ((22 : Int) != t) then (bif ((23 : Int) != t) then (k3 (0 : Int)) else (l45_10e XL45_10e pa t (IntKind.wrap .i64 (pa - (3 : Int))) (0 : Int) xs ([(100 : Int), (72 : Int), (139 : Int), (4 : Int), (37 : Int), (0 : Int), (0 : Int), (0 : Int), (0 : Int)] : List Int) ((k3 (0 : Int))) (fun (n9 : Int) => (k4 (IntKind.wrap .i64 (pa - (3 : Int))) n9)) ((k3 (0 : Int))))) else (l45_10f XL45_10f pa t (IntKind.wrap .i64 (pa - (3 : Int))) (0 : Int) xs ([(100 : Int), (72 : Int), (139 : Int), (4 : Int), (37 : Int), (0 : Int), (0 : Int), (0 : Int), (0 : Int)] : List Int) ((k3 (0 : Int))) (fun (n10 : Int) => (k5 (IntKind.wrap .i64 (pa - (3 : Int))) n10)) ((bif ((23 : Int) != t) then (k3 (0 : Int)) else (l45_10e XL45_10e pa t (IntKind.wrap .i64 (pa - (3 : Int))) (0 : Int) xs ([(100 : Int), (72 : Int), (139 : Int), (4 : Int), (37 : Int), (0 : Int), (0 : Int), (0 : Int), (0 : Int)] : List Int) ((k3 (0 : Int))) (fun (n11 : Int) => (k4 (IntKind.wrap .i64 (pa - (3 : Int))) n11)) ((k3 (0 : Int)))))))) else (l45_10g XL45_10g pa t (IntKind.wrap .i64 (pa - (3 : Int))) (0 : Int) xs ([(100 : Int), (72 : Int), (139 : Int), (4 : Int), (37 : Int), (0 : Int), (0 : Int), (0 : Int), (0 : Int)] : List Int) ((k3 (0 : Int))) (fun (n12 : Int) => (k6 (IntKind.wrap .i64 (pa - (3 : Int))) n12)) ((bif ((22 : Int) != t) then (bif ((23 : Int) != t) then (k3 (0 : Int)) else (l45_10e XL45_10e pa t (IntKind.wrap .i64 (pa - (3 : Int))) (0 : Int) xs ([(100 : Int), (72 : Int), (139 : Int), (4 : Int), (37 : Int), (0 : Int), (0 : Int), (0 : Int), (0 : Int)] : List Int) ((k3 (0 : Int))) (fun (n13 : Int) => (k4 (IntKind.wrap .i64 (pa - (3 : Int))) n13)) ((k3 (0 : Int))))) else (l45_10f XL45_10f pa t (IntKind.wrap .i64 (pa - (3 : Int))) (0 : Int) xs ([(100 : Int), (72 : Int), (139 : Int), (4 : Int), (37 : Int), (0 : Int), (0 : Int), (0 : Int), (0 : Int)] : List Int) ((k3 (0 : Int))) (fun (n14 : Int) => (k5 (IntKind.wrap .i64 (pa - (3 : Int))) n14)) ((bif ((23 : Int) != t) then (k3 (0 : Int)) else (l45_10e XL45_10e pa t (IntKind.wrap .i64 (pa - (3 : Int))) (0 : Int) xs ([(100 : Int), (72 : Int), (139 : Int), (4 : Int), (37 : Int), (0 : Int), (0 : Int), (0 : Int), (0 : Int)] : List Int) ((k3 (0 : Int))) (fun (n15 : Int) => (k4 (IntKind.wrap .i64 (pa - (3 : Int))) n15)) ((k3 (0 : Int)))))))))))))))
theorem F45x_ok  (l45_10e : YL45_10e) (l45_10f : YL45_10f) (l45_10g : YL45_10g) (l45_10h : YL45_10h) (pa : Int) (t : Int) (xs : List Int) (K : V → Mem → Prop) : cbody Try.prog C0 (WL45_10e l45_10e (WL45_10f l45_10f (WL45_10g l45_10g (WL45_10h l45_10h (fun _ => none))))) 1000 (fnOf Try.prog 45) [(.sl 0 (0 : Nat) (none : Option Nat) (none : Option Nat)), (.I .i64 pa), (.I .i64 t)] [⟨[.ints .u8 xs], 5, false, false⟩] K =
    F45x  l45_10e l45_10f l45_10g l45_10h pa t xs (fun (u0 : Int) (u1 : Bool) => K (.tup [(.agg [(.I .i64 (4 : Int)), (.I .i64 pa), (.I .i64 (4 : Int)), (.I .i64 u0)]), (.B u1)]) [⟨[.ints .u8 xs], 5, false, false⟩]) (fun (u0 : Int) => K (.tup [(.agg [(.I .i64 (4 : Int)), (.I .i64 pa), (.I .i64 (4 : Int)), (.I .i64 u0)]), (.B false)]) [⟨[.ints .u8 xs], 5, false, false⟩]) (fun (u0 : Int) => K (.tup [(.agg [(.I .i64 (0 : Int)), (.I .i64 (0 : Int)), (.I .i64 (0 : Int)), (.I .i64 u0)]), (.B false)]) [⟨[.ints .u8 xs], 5, false, false⟩]) (fun (u0 : Int) (u1 : Int) => K (.tup [(.agg [(.I .i64 (4 : Int)), (.I .i64 u0), (.I .i64 (7 : Int)), (.I .i64 u1)]), (.B true)]) [⟨[.ints .u8 xs], 5, false, false⟩]) (fun (u0 : Int) (u1 : Int) => K (.tup [(.agg [(.I .i64 (3 : Int)), (.I .i64 u0), (.I .i64 (7 : Int)), (.I .i64 u1)]), (.B true)]) [⟨[.ints .u8 xs], 5, false, false⟩]) (fun (u0 : Int) (u1 : Int) => K (.tup [(.agg [(.I .i64 (2 : Int)), (.I .i64 u0), (.I .i64 (12 : Int)), (.I .i64 u1)]), (.B true)]) [⟨[.ints .u8 xs], 5, false, false⟩]) (fun (u0 : Int) (u1 : Int) => K (.tup [(.agg [(.I .i64 (1 : Int)), (.I .i64 u0), (.I .i64 (16 : Int)), (.I .i64 u1)]), (.B true)]) [⟨[.ints .u8 xs], 5, false, false⟩]) := by kernel_rfl
def G45x : Y45x := F45x  GL45_10e GL45_10f GL45_10g GL45_10h
def VT45x (f : Y45x) (F : Prop) (args : List V) (m : Mem) (K : V → Mem → Prop) : Prop :=
  (seeCons args F fun a1 q2 => (seeV (.sl 0 (0 : Nat) (none : Option Nat) (none : Option Nat)) a1 F (seeCons q2 F fun a3 q4 => (seeI .i64 a3 F fun pa => (seeCons q4 F fun a5 q6 => (seeI .i64 a5 F fun t => (seeNil q6 F (seeCons m F fun a7 q8 => (seeBlk 5 false false a7 F fun cs9 => (seeCons cs9 F fun a10 q11 => (seeInts .u8 a10 F fun xs => (seeNil q11 F (seeNil q8 F (f pa t xs (fun (u0 : Int) (u1 : Bool) => K (.tup [(.agg [(.I .i64 (4 : Int)), (.I .i64 pa), (.I .i64 (4 : Int)), (.I .i64 u0)]), (.B u1)]) [⟨[.ints .u8 xs], 5, false, false⟩]) (fun (u0 : Int) => K (.tup [(.agg [(.I .i64 (4 : Int)), (.I .i64 pa), (.I .i64 (4 : Int)), (.I .i64 u0)]), (.B false)]) [⟨[.ints .u8 xs], 5, false, false⟩]) (fun (u0 : Int) => K (.tup [(.agg [(.I .i64 (0 : Int)), (.I .i64 (0 : Int)), (.I .i64 (0 : Int)), (.I .i64 u0)]), (.B false)]) [⟨[.ints .u8 xs], 5, false, false⟩]) (fun (u0 : Int) (u1 : Int) => K (.tup [(.agg [(.I .i64 (4 : Int)), (.I .i64 u0), (.I .i64 (7 : Int)), (.I .i64 u1)]), (.B true)]) [⟨[.ints .u8 xs], 5, false, false⟩]) (fun (u0 : Int) (u1 : Int) => K (.tup [(.agg [(.I .i64 (3 : Int)), (.I .i64 u0), (.I .i64 (7 : Int)), (.I .i64 u1)]), (.B true)]) [⟨[.ints .u8 xs], 5, false, false⟩]) (fun (u0 : Int) (u1 : Int) => K (.tup [(.agg [(.I .i64 (2 : Int)), (.I .i64 u0), (.I .i64 (12 : Int)), (.I .i64 u1)]), (.B true)]) [⟨[.ints .u8 xs], 5, false, false⟩]) (fun (u0 : Int) (u1 : Int) => K (.tup [(.agg [(.I .i64 (1 : Int)), (.I .i64 u0), (.I .i64 (16 : Int)), (.I .i64 u1)]), (.B true)]) [⟨[.ints .u8 xs], 5, false, false⟩])))))))))))))))
def T45x (f : Y45x) (C : CC) : CC := fun g args m K =>
  match Nat.beq g 45 with
  | true => VT45x f (C g args m K) args m K
  | false => C g args m K
set_option maxRecDepth 100000 in
theorem T45x_ok {C : CC} (hC : CallsOk Try.prog C) : CallsOk Try.prog (T45x G45x C) := by
  intro g args m K E w cargs hS ha h
  unfold T45x at h
  split at h
  · rename_i hg
    obtain rfl := Nat.eq_of_beq_eq_true hg
    unfold VT45x at h
    replace h := seeCons_use h
    rcases h with h | ⟨a1, q2, rfl, h⟩
    · exact hC _ _ _ _ _ _ _ hS ha h
    replace h := seeV_use h
    rcases h with h | ⟨rfl, h⟩
    · exact hC _ _ _ _ _ _ _ hS ha h
    replace h := seeCons_use h
    rcases h with h | ⟨a3, q4, rfl, h⟩
    · exact hC _ _ _ _ _ _ _ hS ha h
    replace h := seeI_use h
    rcases h with h | ⟨pa, rfl, h⟩
    · exact hC _ _ _ _ _ _ _ hS ha h
    replace h := seeCons_use h
    rcases h with h | ⟨a5, q6, rfl, h⟩
    · exact hC _ _ _ _ _ _ _ hS ha h
    replace h := seeI_use h
    rcases h with h | ⟨t, rfl, h⟩
    · exact hC _ _ _ _ _ _ _ hS ha h
    replace h := seeNil_use h
    rcases h with h | ⟨rfl, h⟩
    · exact hC _ _ _ _ _ _ _ hS ha h
    replace h := seeCons_use h
    rcases h with h | ⟨a7, q8, rfl, h⟩
    · exact hC _ _ _ _ _ _ _ hS ha h
    replace h := seeBlk_use h
    rcases h with h | ⟨cs9, rfl, h⟩
    · exact hC _ _ _ _ _ _ _ hS ha h
    replace h := seeCons_use h
    rcases h with h | ⟨a10, q11, rfl, h⟩
    · exact hC _ _ _ _ _ _ _ hS ha h
    replace h := seeInts_use h
    rcases h with h | ⟨xs, rfl, h⟩
    · exact hC _ _ _ _ _ _ _ hS ha h
    replace h := seeNil_use h
    rcases h with h | ⟨rfl, h⟩
    · exact hC _ _ _ _ _ _ _ hS ha h
    replace h := seeNil_use h
    rcases h with h | ⟨rfl, h⟩
    · exact hC _ _ _ _ _ _ _ hS ha h
    exact cbody_use named C0_ok at45 (l := 1) rfl (WL45_10e_ok (WL45_10f_ok (WL45_10g_ok (WL45_10h_ok (LoopsOk.none _ _))))) (F45x_ok  GL45_10e GL45_10f GL45_10g GL45_10h pa t xs K) hS ha h
  · exact hC _ _ _ _ _ _ _ hS ha h
theorem at15 : Try.prog.funcs[15]? = some (fnOf Try.prog 15) := by kernel_rfl
abbrev Y15x : Type := Int → Int → Int → List Int → (Prop) → (Prop) → (Prop) → (List Int → Prop) → Prop
set_option maxHeartbeats 4000000 in
set_option maxRecDepth 100000 in
def F15x (f46 : Y46) (f47 : Y47) (f45x : Y45x) (pa : Int) (t : Int) (off : Int) (xs : List Int) (k1 : Prop) (k2 : Prop) (k3 : Prop) (k4 : List Int → Prop) : Prop :=
  (bif (decide (((((List.length xs) - (0 : Nat)) : Nat) : Int) > (1048576 : Int))) then (k1) else (f45x pa t xs (fun (n1 : Int) (b2 : Bool) => (bif (!b2) then (k2) else (f46 off (fun (b3 : Bool) => (bif (!b3) then (k3) else (f47 off ((bif (t != (23 : Int)) then (bif ((n1 == n1) && true) then (bif (decide (n1 ≥ (8 : Int))) then (bif ((decide ((0 : Int) ≤ pa)) && ((decide ((Int.toNat pa) ≤ ((List.length xs) - (0 : Nat)))) && ((decide ((0 : Int) ≤ pa)) && (decide (pa ≤ pa))))) then (bif ((decide ((Int.toNat pa) < ((Int.toNat pa) + (3 : Nat)))) && ((decide ((((Int.toNat pa) + (3 : Nat)) * (1 : Nat)) ≤ (140737488355328 : Nat))) && (decide (((Int.toNat pa) + (3 : Nat)) ≤ (140737488355328 : Nat))))) then (bif ((decide ((0 : Int) ≤ (IntKind.wrap .i64 (pa + (4 : Int))))) && (decide ((Int.toNat (IntKind.wrap .i64 (pa + (4 : Int)))) ≤ ((List.length xs) - (0 : Nat))))) then (bif ((decide (((((List.length ((List.take (Int.toNat pa) xs) ++ ([(73 : Int), (199 : Int), (IntKind.wrap .u8 ((192 : Int) + (IntKind.wrap .u8 (ibits .and .i64 n1 (7 : Int)))))] : List Int))) - (0 : Nat)) + ((List.length xs) - (Int.toNat (IntKind.wrap .i64 (pa + (4 : Int)))))) * (1 : Nat)) ≤ (140737488355328 : Nat))) && (decide ((((List.length ((List.take (Int.toNat pa) xs) ++ ([(73 : Int), (199 : Int), (IntKind.wrap .u8 ((192 : Int) + (IntKind.wrap .u8 (ibits .and .i64 n1 (7 : Int)))))] : List Int))) - (0 : Nat)) + ((List.length xs) - (Int.toNat (IntKind.wrap .i64 (pa + (4 : Int)))))) ≤ (140737488355328 : Nat)))) then (k4 (((List.take (Int.toNat pa) xs) ++ ([(73 : Int), (199 : Int), (IntKind.wrap .u8 ((192 : Int) + (IntKind.wrap .u8 (ibits .and .i64 n1 (7 : Int)))))] : List Int)) ++ (List.drop (Int.toNat (IntKind.wrap .i64 (pa + (4 : Int)))) xs))) else False) else False) else False) else False) else (bif ((decide ((0 : Int) ≤ pa)) && ((decide ((Int.toNat pa) ≤ ((List.length xs) - (0 : Nat)))) && ((decide ((0 : Int) ≤ pa)) && (decide (pa ≤ pa))))) then (bif ((decide ((Int.toNat pa) < ((Int.toNat pa) + (3 : Nat)))) && ((decide ((((Int.toNat pa) + (3 : Nat)) * (1 : Nat)) ≤ (140737488355328 : Nat))) && (decide (((Int.toNat pa) + (3 : Nat)) ≤ (140737488355328 : Nat))))) then (bif ((decide ((0 : Int) ≤ (IntKind.wrap .i64 (pa + (4 : Int))))) && (decide ((Int.toNat (IntKind.wrap .i64 (pa + (4 : Int)))) ≤ ((List.length xs) - (0 : Nat))))) then (bif ((decide (((((List.length ((List.take (Int.toNat pa) xs) ++ ([(72 : Int), (199 : Int), (IntKind.wrap .u8 ((192 : Int) + (IntKind.wrap .u8 (ibits .and .i64 n1 (7 : Int)))))] : List Int))) - (0 : Nat)) + ((List.length xs) - (Int.toNat (IntKind.wrap .i64 (pa + (4 : Int)))))) * (1 : Nat)) ≤ (140737488355328 : Nat))) && (decide ((((List.length ((List.take (Int.toNat pa) xs) ++ ([(72 : Int), (199 : Int), (IntKind.wrap .u8 ((192 : Int) + (IntKind.wrap .u8 (ibits .and .i64 n1 (7 : Int)))))] : List Int))) - (0 : Nat)) + ((List.length xs) - (Int.toNat (IntKind.wrap .i64 (pa + (4 : Int)))))) ≤ (140737488355328 : Nat)))) then (k4 (((List.take (Int.toNat pa) xs) ++ ([(72 : Int), (199 : Int), (IntKind.wrap .u8 ((192 : Int) + (IntKind.wrap .u8 (ibits .and .i64 n1 (7 : Int)))))] : List Int)) ++ (List.drop (Int.toNat (IntKind.wrap .i64 (pa + (4 : Int)))) xs))) else False) else False) else False) else False)) else False) else (bif ((decide ((0 : Int) ≤ pa)) && ((decide ((Int.toNat pa) ≤ ((List.length xs) - (0 : Nat)))) && ((decide ((0 : Int) ≤ pa)) && (decide (pa ≤ pa))))) then (bif ((decide ((0 : Int) ≤ (IntKind.wrap .i64 (pa + (4 : Int))))) && (decide ((Int.toNat (IntKind.wrap .i64 (pa + (4 : Int)))) ≤ ((List.length xs) - (0 : Nat))))) then (bif ((decide ((Int.toNat pa) < ((Int.toNat pa) + ((List.length xs) - (Int.toNat (IntKind.wrap .i64 (pa + (4 : Int)))))))) && ((decide ((((Int.toNat pa) + ((List.length xs) - (Int.toNat (IntKind.wrap .i64 (pa + (4 : Int)))))) * (1 : Nat)) ≤ (140737488355328 : Nat))) && (decide (((Int.toNat pa) + ((List.length xs) - (Int.toNat (IntKind.wrap .i64 (pa + (4 : Int)))))) ≤ (140737488355328 : Nat))))) then (k4 ((List.take (Int.toNat pa) xs) ++ (List.drop (Int.toNat (IntKind.wrap .i64 (pa + (4 : Int)))) xs))) else False) else False) else False))) (fun (xs4 : List Int) => (bif (t != (23 : Int)) then (bif ((n1 == n1) && true) then (bif (decide (n1 ≥ (8 : Int))) then (bif ((decide ((((3 : Nat) + ((List.length xs4) - (0 : Nat))) * (1 : Nat)) ≤ (140737488355328 : Nat))) && (decide (((3 : Nat) + ((List.length xs4) - (0 : Nat))) ≤ (140737488355328 : Nat)))) then (bif ((decide ((0 : Int) ≤ pa)) && ((decide ((Int.toNat pa) ≤ ((List.length xs) - (0 : Nat)))) && ((decide ((0 : Int) ≤ pa)) && (decide (pa ≤ pa))))) then (bif ((decide ((Int.toNat pa) < ((Int.toNat pa) + ((List.length (([(73 : Int), (199 : Int), (IntKind.wrap .u8 ((192 : Int) + (IntKind.wrap .u8 (ibits .and .i64 n1 (7 : Int)))))] : List Int) ++ xs4)) - (0 : Nat))))) && ((decide ((((Int.toNat pa) + ((List.length (([(73 : Int), (199 : Int), (IntKind.wrap .u8 ((192 : Int) + (IntKind.wrap .u8 (ibits .and .i64 n1 (7 : Int)))))] : List Int) ++ xs4)) - (0 : Nat))) * (1 : Nat)) ≤ (140737488355328 : Nat))) && (decide (((Int.toNat pa) + ((List.length (([(73 : Int), (199 : Int), (IntKind.wrap .u8 ((192 : Int) + (IntKind.wrap .u8 (ibits .and .i64 n1 (7 : Int)))))] : List Int) ++ xs4)) - (0 : Nat))) ≤ (140737488355328 : Nat))))) then (bif ((decide ((0 : Int) ≤ (IntKind.wrap .i64 (pa + (4 : Int))))) && (decide ((Int.toNat (IntKind.wrap .i64 (pa + (4 : Int)))) ≤ ((List.length xs) - (0 : Nat))))) then (bif ((decide (((((List.length ((List.take (Int.toNat pa) xs) ++ (([(73 : Int), (199 : Int), (IntKind.wrap .u8 ((192 : Int) + (IntKind.wrap .u8 (ibits .and .i64 n1 (7 : Int)))))] : List Int) ++ xs4))) - (0 : Nat)) + ((List.length xs) - (Int.toNat (IntKind.wrap .i64 (pa + (4 : Int)))))) * (1 : Nat)) ≤ (140737488355328 : Nat))) && (decide ((((List.length ((List.take (Int.toNat pa) xs) ++ (([(73 : Int), (199 : Int), (IntKind.wrap .u8 ((192 : Int) + (IntKind.wrap .u8 (ibits .and .i64 n1 (7 : Int)))))] : List Int) ++ xs4))) - (0 : Nat)) + ((List.length xs) - (Int.toNat (IntKind.wrap .i64 (pa + (4 : Int)))))) ≤ (140737488355328 : Nat)))) then (k4 (((List.take (Int.toNat pa) xs) ++ (([(73 : Int), (199 : Int), (IntKind.wrap .u8 ((192 : Int) + (IntKind.wrap .u8 (ibits .and .i64 n1 (7 : Int)))))] : List Int) ++ xs4)) ++ (List.drop (Int.toNat (IntKind.wrap .i64 (pa + (4 : Int)))) xs))) else False) else False) else False) else False) else False) else (bif ((decide ((((3 : Nat) + ((List.length xs4) - (0 : Nat))) * (1 : Nat)) ≤ (140737488355328 : Nat))) && (decide (((3 : Nat) + ((List.length xs4) - (0 : Nat))) ≤ (140737488355328 : Nat)))) then (bif ((decide ((0 : Int) ≤ pa)) && ((decide ((Int.toNat pa) ≤ ((List.length xs) - (0 : Nat)))) && ((decide ((0 : Int) ≤ pa)) && (decide (pa ≤ pa))))) then (bif ((decide ((Int.toNat pa) < ((Int.toNat pa) + ((List.length (([(72 : Int), (199 : Int), (IntKind.wrap .u8 ((192 : Int) + (IntKind.wrap .u8 (ibits .and .i64 n1 (7 : Int)))))] : List Int) ++ xs4)) - (0 : Nat))))) && ((decide ((((Int.toNat pa) + ((List.length (([(72 : Int), (199 : Int), (IntKind.wrap .u8 ((192 : Int) + (IntKind.wrap .u8 (ibits .and .i64 n1 (7 : Int)))))] : List Int) ++ xs4)) - (0 : Nat))) * (1 : Nat)) ≤ (140737488355328 : Nat))) && (decide (((Int.toNat pa) + ((List.length (([(72 : Int), (199 : Int), (IntKind.wrap .u8 ((192 : Int) + (IntKind.wrap .u8 (ibits .and .i64 n1 (7 : Int)))))] : List Int) ++ xs4)) - (0 : Nat))) ≤ (140737488355328 : Nat))))) then (bif ((decide ((0 : Int) ≤ (IntKind.wrap .i64 (pa + (4 : Int))))) && (decide ((Int.toNat (IntKind.wrap .i64 (pa + (4 : Int)))) ≤ ((List.length xs) - (0 : Nat))))) then (bif ((decide (((((List.length ((List.take (Int.toNat pa) xs) ++ (([(72 : Int), (199 : Int), (IntKind.wrap .u8 ((192 : Int) + (IntKind.wrap .u8 (ibits .and .i64 n1 (7 : Int)))))] : List Int) ++ xs4))) - (0 : Nat)) + ((List.length xs) - (Int.toNat (IntKind.wrap .i64 (pa + (4 : Int)))))) * (1 : Nat)) ≤ (140737488355328 : Nat))) && (decide ((((List.length ((List.take (Int.toNat pa) xs) ++ (([(72 : Int), (199 : Int), (IntKind.wrap .u8 ((192 : Int) + (IntKind.wrap .u8 (ibits .and .i64 n1 (7 : Int)))))] : List Int) ++ xs4))) - (0 : Nat)) + ((List.length xs) - (Int.toNat (IntKind.wrap .i64 (pa + (4 : Int)))))) ≤ (140737488355328 : Nat)))) then (k4 (((List.take (Int.toNat pa) xs) ++ (([(72 : Int), (199 : Int), (IntKind.wrap .u8 ((192 : Int) + (IntKind.wrap .u8 (ibits .and .i64 n1 (7 : Int)))))] : List Int) ++ xs4)) ++ (List.drop (Int.toNat (IntKind.wrap .i64 (pa + (4 : Int)))) xs))) else False) else False) else False) else False) else False)) else False) else (bif ((decide ((0 : Int) ≤ pa)) && ((decide ((Int.toNat pa) ≤ ((List.length xs) - (0 : Nat)))) && ((decide ((0 : Int) ≤ pa)) && (decide (pa ≤ pa))))) then (bif ((decide ((Int.toNat pa) < ((Int.toNat pa) + ((List.length xs4) - (0 : Nat))))) && ((decide ((((Int.toNat pa) + ((List.length xs4) - (0 : Nat))) * (1 : Nat)) ≤ (140737488355328 : Nat))) && (decide (((Int.toNat pa) + ((List.length xs4) - (0 : Nat))) ≤ (140737488355328 : Nat))))) then (bif ((decide ((0 : Int) ≤ (IntKind.wrap .i64 (pa + (4 : Int))))) && (decide ((Int.toNat (IntKind.wrap .i64 (pa + (4 : Int)))) ≤ ((List.length xs) - (0 : Nat))))) then (bif ((decide (((((List.length ((List.take (Int.toNat pa) xs) ++ xs4)) - (0 : Nat)) + ((List.length xs) - (Int.toNat (IntKind.wrap .i64 (pa + (4 : Int)))))) * (1 : Nat)) ≤ (140737488355328 : Nat))) && (decide ((((List.length ((List.take (Int.toNat pa) xs) ++ xs4)) - (0 : Nat)) + ((List.length xs) - (Int.toNat (IntKind.wrap .i64 (pa + (4 : Int)))))) ≤ (140737488355328 : Nat)))) then (k4 (((List.take (Int.toNat pa) xs) ++ xs4) ++ (List.drop (Int.toNat (IntKind.wrap .i64 (pa + (4 : Int)))) xs))) else False) else False) else False) else False)))))) ((k3))))) (fun (n5 : Int) => (k2)) (fun (n6 : Int) => (k2)) (fun (n7 : Int) (n8 : Int) => (f46 off (fun (b9 : Bool) => (bif (!b9) then (k3) else (f47 off ((bif (t != (23 : Int)) then (bif ((n8 == n8) && true) then (bif (decide (n8 ≥ (8 : Int))) then (bif ((decide ((0 : Int) ≤ n7)) && ((decide ((Int.toNat n7) ≤ ((List.length xs) - (0 : Nat)))) && ((decide ((0 : Int) ≤ n7)) && (decide (n7 ≤ n7))))) then (bif ((decide ((Int.toNat n7) < ((Int.toNat n7) + (3 : Nat)))) && ((decide ((((Int.toNat n7) + (3 : Nat)) * (1 : Nat)) ≤ (140737488355328 : Nat))) && (decide (((Int.toNat n7) + (3 : Nat)) ≤ (140737488355328 : Nat))))) then (bif ((decide ((0 : Int) ≤ (IntKind.wrap .i64 (n7 + (7 : Int))))) && (decide ((Int.toNat (IntKind.wrap .i64 (n7 + (7 : Int)))) ≤ ((List.length xs) - (0 : Nat))))) then (bif ((decide (((((List.length ((List.take (Int.toNat n7) xs) ++ ([(73 : Int), (199 : Int), (IntKind.wrap .u8 ((192 : Int) + (IntKind.wrap .u8 (ibits .and .i64 n8 (7 : Int)))))] : List Int))) - (0 : Nat)) + ((List.length xs) - (Int.toNat (IntKind.wrap .i64 (n7 + (7 : Int)))))) * (1 : Nat)) ≤ (140737488355328 : Nat))) && (decide ((((List.length ((List.take (Int.toNat n7) xs) ++ ([(73 : Int), (199 : Int), (IntKind.wrap .u8 ((192 : Int) + (IntKind.wrap .u8 (ibits .and .i64 n8 (7 : Int)))))] : List Int))) - (0 : Nat)) + ((List.length xs) - (Int.toNat (IntKind.wrap .i64 (n7 + (7 : Int)))))) ≤ (140737488355328 : Nat)))) then (k4 (((List.take (Int.toNat n7) xs) ++ ([(73 : Int), (199 : Int), (IntKind.wrap .u8 ((192 : Int) + (IntKind.wrap .u8 (ibits .and .i64 n8 (7 : Int)))))] : List Int)) ++ (List.drop (Int.toNat (IntKind.wrap .i64 (n7 + (7 : Int)))) xs))) else False) else False) else False) else False) else (bif ((decide ((0 : Int) ≤ n7)) && ((decide ((Int.toNat n7) ≤ ((List.length xs) - (0 : Nat)))) && ((decide ((0 : Int) ≤ n7)) && (decide (n7 ≤ n7))))) then (bif ((decide ((Int.toNat n7) < ((Int.toNat n7) + (3 : Nat)))) && ((decide ((((Int.toNat n7) + (3 : Nat)) * (1 : Nat)) ≤ (140737488355328 : Nat))) && (decide (((Int.toNat n7) + (3 : Nat)) ≤ (140737488355328 : Nat))))) then (bif ((decide ((0 : Int) ≤ (IntKind.wrap .i64 (n7 + (7 : Int))))) && (decide ((Int.toNat (IntKind.wrap .i64 (n7 + (7 : Int)))) ≤ ((List.length xs) - (0 : Nat))))) then (bif ((decide (((((List.length ((List.take (Int.toNat n7) xs) ++ ([(72 : Int), (199 : Int), (IntKind.wrap .u8 ((192 : Int) + (IntKind.wrap .u8 (ibits .and .i64 n8 (7 : Int)))))] : List Int))) - (0 : Nat)) + ((List.length xs) - (Int.toNat (IntKind.wrap .i64 (n7 + (7 : Int)))))) * (1 : Nat)) ≤ (140737488355328 : Nat))) && (decide ((((List.length ((List.take (Int.toNat n7) xs) ++ ([(72 : Int), (199 : Int), (IntKind.wrap .u8 ((192 : Int) + (IntKind.wrap .u8 (ibits .and .i64 n8 (7 : Int)))))] : List Int))) - (0 : Nat)) + ((List.length xs) - (Int.toNat (IntKind.wrap .i64 (n7 + (7 : Int)))))) ≤ (140737488355328 : Nat)))) then (k4 (((List.take (Int.toNat n7) xs) ++ ([(72 : Int), (199 : Int), (IntKind.wrap .u8 ((192 : Int) + (IntKind.wrap .u8 (ibits .and .i64 n8 (7 : Int)))))] : List Int)) ++ (List.drop (Int.toNat (IntKind.wrap .i64 (n7 + (7 : Int)))) xs))) else False) else False) else False) else False)) else False) else (bif ((decide ((0 : Int) ≤ n7)) && ((decide ((Int.toNat n7) ≤ ((List.length xs) - (0 : Nat)))) && ((decide ((0 : Int) ≤ n7)) && (decide (n7 ≤ n7))))) then (bif ((decide ((0 : Int) ≤ (IntKind.wrap .i64 (n7 + (7 : Int))))) && (decide ((Int.toNat (IntKind.wrap .i64 (n7 + (7 : Int)))) ≤ ((List.length xs) - (0 : Nat))))) then (bif ((decide ((Int.toNat n7) < ((Int.toNat n7) + ((List.length xs) - (Int.toNat (IntKind.wrap .i64 (n7 + (7 : Int)))))))) && ((decide ((((Int.toNat n7) + ((List.length xs) - (Int.toNat (IntKind.wrap .i64 (n7 + (7 : Int)))))) * (1 : Nat)) ≤ (140737488355328 : Nat))) && (decide (((Int.toNat n7) + ((List.length xs) - (Int.toNat (IntKind.wrap .i64 (n7 + (7 : Int)))))) ≤ (140737488355328 : Nat))))) then (k4 ((List.take (Int.toNat n7) xs) ++ (List.drop (Int.toNat (IntKind.wrap .i64 (n7 + (7 : Int)))) xs))) else False) else False) else False))) (fun (xs10 : List Int) => (bif (t != (23 : Int)) then (bif ((n8 == n8) && true) then (bif (decide (n8 ≥ (8 : Int))) then (bif ((decide ((((3 : Nat) + ((List.length xs10) - (0 : Nat))) * (1 : Nat)) ≤ (140737488355328 : Nat))) && (decide (((3 : Nat) + ((List.length xs10) - (0 : Nat))) ≤ (140737488355328 : Nat)))) then (bif ((decide ((0 : Int) ≤ n7)) && ((decide ((Int.toNat n7) ≤ ((List.length xs) - (0 : Nat)))) && ((decide ((0 : Int) ≤ n7)) && (decide (n7 ≤ n7))))) then (bif ((decide ((Int.toNat n7) < ((Int.toNat n7) + ((List.length (([(73 : Int), (199 : Int), (IntKind.wrap .u8 ((192 : Int) + (IntKind.wrap .u8 (ibits .and .i64 n8 (7 : Int)))))] : List Int) ++ xs10)) - (0 : Nat))))) && ((decide ((((Int.toNat n7) + ((List.length (([(73 : Int), (199 : Int), (IntKind.wrap .u8 ((192 : Int) + (IntKind.wrap .u8 (ibits .and .i64 n8 (7 : Int)))))] : List Int) ++ xs10)) - (0 : Nat))) * (1 : Nat)) ≤ (140737488355328 : Nat))) && (decide (((Int.toNat n7) + ((List.length (([(73 : Int), (199 : Int), (IntKind.wrap .u8 ((192 : Int) + (IntKind.wrap .u8 (ibits .and .i64 n8 (7 : Int)))))] : List Int) ++ xs10)) - (0 : Nat))) ≤ (140737488355328 : Nat))))) then (bif ((decide ((0 : Int) ≤ (IntKind.wrap .i64 (n7 + (7 : Int))))) && (decide ((Int.toNat (IntKind.wrap .i64 (n7 + (7 : Int)))) ≤ ((List.length xs) - (0 : Nat))))) then (bif ((decide (((((List.length ((List.take (Int.toNat n7) xs) ++ (([(73 : Int), (199 : Int), (IntKind.wrap .u8 ((192 : Int) + (IntKind.wrap .u8 (ibits .and .i64 n8 (7 : Int)))))] : List Int) ++ xs10))) - (0 : Nat)) + ((List.length xs) - (Int.toNat (IntKind.wrap .i64 (n7 + (7 : Int)))))) * (1 : Nat)) ≤ (140737488355328 : Nat))) && (decide ((((List.length ((List.take (Int.toNat n7) xs) ++ (([(73 : Int), (199 : Int), (IntKind.wrap .u8 ((192 : Int) + (IntKind.wrap .u8 (ibits .and .i64 n8 (7 : Int)))))] : List Int) ++ xs10))) - (0 : Nat)) + ((List.length xs) - (Int.toNat (IntKind.wrap .i64 (n7 + (7 : Int)))))) ≤ (140737488355328 : Nat)))) then (k4 (((List.take (Int.toNat n7) xs) ++ (([(73 : Int), (199 : Int), (IntKind.wrap .u8 ((192 : Int) + (IntKind.wrap .u8 (ibits .and .i64 n8 (7 : Int)))))] : List Int) ++ xs10)) ++ (List.drop (Int.toNat (IntKind.wrap .i64 (n7 + (7 : Int)))) xs))) else False) else False) else False) else False) else False) else (bif ((decide ((((3 : Nat) + ((List.length xs10) - (0 : Nat))) * (1 : Nat)) ≤ (140737488355328 : Nat))) && (decide (((3 : Nat) + ((List.length xs10) - (0 : Nat))) ≤ (140737488355328 : Nat)))) then (bif ((decide ((0 : Int) ≤ n7)) && ((decide ((Int.toNat n7) ≤ ((List.length xs) - (0 : Nat)))) && ((decide ((0 : Int) ≤ n7)) && (decide (n7 ≤ n7))))) then (bif ((decide ((Int.toNat n7) < ((Int.toNat n7) + ((List.length (([(72 : Int), (199 : Int), (IntKind.wrap .u8 ((192 : Int) + (IntKind.wrap .u8 (ibits .and .i64 n8 (7 : Int)))))] : List Int) ++ xs10)) - (0 : Nat))))) && ((decide ((((Int.toNat n7) + ((List.length (([(72 : Int), (199 : Int), (IntKind.wrap .u8 ((192 : Int) + (IntKind.wrap .u8 (ibits .and .i64 n8 (7 : Int)))))] : List Int) ++ xs10)) - (0 : Nat))) * (1 : Nat)) ≤ (140737488355328 : Nat))) && (decide (((Int.toNat n7) + ((List.length (([(72 : Int), (199 : Int), (IntKind.wrap .u8 ((192 : Int) + (IntKind.wrap .u8 (ibits .and .i64 n8 (7 : Int)))))] : List Int) ++ xs10)) - (0 : Nat))) ≤ (140737488355328 : Nat))))) then (bif ((decide ((0 : Int) ≤ (IntKind.wrap .i64 (n7 + (7 : Int))))) && (decide ((Int.toNat (IntKind.wrap .i64 (n7 + (7 : Int)))) ≤ ((List.length xs) - (0 : Nat))))) then (bif ((decide (((((List.length ((List.take (Int.toNat n7) xs) ++ (([(72 : Int), (199 : Int), (IntKind.wrap .u8 ((192 : Int) + (IntKind.wrap .u8 (ibits .and .i64 n8 (7 : Int)))))] : List Int) ++ xs10))) - (0 : Nat)) + ((List.length xs) - (Int.toNat (IntKind.wrap .i64 (n7 + (7 : Int)))))) * (1 : Nat)) ≤ (140737488355328 : Nat))) && (decide ((((List.length ((List.take (Int.toNat n7) xs) ++ (([(72 : Int), (199 : Int), (IntKind.wrap .u8 ((192 : Int) + (IntKind.wrap .u8 (ibits .and .i64 n8 (7 : Int)))))] : List Int) ++ xs10))) - (0 : Nat)) + ((List.length xs) - (Int.toNat (IntKind.wrap .i64 (n7 + (7 : Int)))))) ≤ (140737488355328 : Nat)))) then (k4 (((List.take (Int.toNat n7) xs) ++ (([(72 : Int), (199 : Int), (IntKind.wrap .u8 ((192 : Int) + (IntKind.wrap .u8 (ibits .and .i64 n8 (7 : Int)))))] : List Int) ++ xs10)) ++ (List.drop (Int.toNat (IntKind.wrap .i64 (n7 + (7 : Int)))) xs))) else False) else False) else False) else False) else False)) else False) else (bif ((decide ((0 : Int) ≤ n7)) && ((decide ((Int.toNat n7) ≤ ((List.length xs) - (0 : Nat)))) && ((decide ((0 : Int) ≤ n7)) && (decide (n7 ≤ n7))))) then (bif ((decide ((Int.toNat n7) < ((Int.toNat n7) + ((List.length xs10) - (0 : Nat))))) && ((decide ((((Int.toNat n7) + ((List.length xs10) - (0 : Nat))) * (1 : Nat)) ≤ (140737488355328 : Nat))) && (decide (((Int.toNat n7) + ((List.length xs10) - (0 : Nat))) ≤ (140737488355328 : Nat))))) then (bif ((decide ((0 : Int) ≤ (IntKind.wrap .i64 (n7 + (7 : Int))))) && (decide ((Int.toNat (IntKind.wrap .i64 (n7 + (7 : Int)))) ≤ ((List.length xs) - (0 : Nat))))) then (bif ((decide (((((List.length ((List.take (Int.toNat n7) xs) ++ xs10)) - (0 : Nat)) + ((List.length xs) - (Int.toNat (IntKind.wrap .i64 (n7 + (7 : Int)))))) * (1 : Nat)) ≤ (140737488355328 : Nat))) && (decide ((((List.length ((List.take (Int.toNat n7) xs) ++ xs10)) - (0 : Nat)) + ((List.length xs) - (Int.toNat (IntKind.wrap .i64 (n7 + (7 : Int)))))) ≤ (140737488355328 : Nat)))) then (k4 (((List.take (Int.toNat n7) xs) ++ xs10) ++ (List.drop (Int.toNat (IntKind.wrap .i64 (n7 + (7 : Int)))) xs))) else False) else False) else False) else False)))))) ((k3)))) (fun (n11 : Int) (n12 : Int) => (f46 off (fun (b13 : Bool) => (bif (!b13) then (k3) else (f47 off ((bif (t != (23 : Int)) then (bif ((n12 == n12) && true) then (bif (decide (n12 ≥ (8 : Int))) then (bif ((decide ((0 : Int) ≤ n11)) && ((decide ((Int.toNat n11) ≤ ((List.length xs) - (0 : Nat)))) && ((decide ((0 : Int) ≤ n11)) && (decide (n11 ≤ n11))))) then (bif ((decide ((Int.toNat n11) < ((Int.toNat n11) + (3 : Nat)))) && ((decide ((((Int.toNat n11) + (3 : Nat)) * (1 : Nat)) ≤ (140737488355328 : Nat))) && (decide (((Int.toNat n11) + (3 : Nat)) ≤ (140737488355328 : Nat))))) then (bif ((decide ((0 : Int) ≤ (IntKind.wrap .i64 (n11 + (7 : Int))))) && (decide ((Int.toNat (IntKind.wrap .i64 (n11 + (7 : Int)))) ≤ ((List.length xs) - (0 : Nat))))) then (bif ((decide (((((List.length ((List.take (Int.toNat n11) xs) ++ ([(73 : Int), (199 : Int), (IntKind.wrap .u8 ((192 : Int) + (IntKind.wrap .u8 (ibits .and .i64 n12 (7 : Int)))))] : List Int))) - (0 : Nat)) + ((List.length xs) - (Int.toNat (IntKind.wrap .i64 (n11 + (7 : Int)))))) * (1 : Nat)) ≤ (140737488355328 : Nat))) && (decide ((((List.length ((List.take (Int.toNat n11) xs) ++ ([(73 : Int), (199 : Int), (IntKind.wrap .u8 ((192 : Int) + (IntKind.wrap .u8 (ibits .and .i64 n12 (7 : Int)))))] : List Int))) - (0 : Nat)) + ((List.length xs) - (Int.toNat (IntKind.wrap .i64 (n11 + (7 : Int)))))) ≤ (140737488355328 : Nat)))) then (k4 (((List.take (Int.toNat n11) xs) ++ ([(73 : Int), (199 : Int), (IntKind.wrap .u8 ((192 : Int) + (IntKind.wrap .u8 (ibits .and .i64 n12 (7 : Int)))))] : List Int)) ++ (List.drop (Int.toNat (IntKind.wrap .i64 (n11 + (7 : Int)))) xs))) else False) else False) else False) else False) else (bif ((decide ((0 : Int) ≤ n11)) && ((decide ((Int.toNat n11) ≤ ((List.length xs) - (0 : Nat)))) && ((decide ((0 : Int) ≤ n11)) && (decide (n11 ≤ n11))))) then (bif ((decide ((Int.toNat n11) < ((Int.toNat n11) + (3 : Nat)))) && ((decide ((((Int.toNat n11) + (3 : Nat)) * (1 : Nat)) ≤ (140737488355328 : Nat))) && (decide (((Int.toNat n11) + (3 : Nat)) ≤ (140737488355328 : Nat))))) then (bif ((decide ((0 : Int) ≤ (IntKind.wrap .i64 (n11 + (7 : Int))))) && (decide ((Int.toNat (IntKind.wrap .i64 (n11 + (7 : Int)))) ≤ ((List.length xs) - (0 : Nat))))) then (bif ((decide (((((List.length ((List.take (Int.toNat n11) xs) ++ ([(72 : Int), (199 : Int), (IntKind.wrap .u8 ((192 : Int) + (IntKind.wrap .u8 (ibits .and .i64 n12 (7 : Int)))))] : List Int))) - (0 : Nat)) + ((List.length xs) - (Int.toNat (IntKind.wrap .i64 (n11 + (7 : Int)))))) * (1 : Nat)) ≤ (140737488355328 : Nat))) && (decide ((((List.length ((List.take (Int.toNat n11) xs) ++ ([(72 : Int), (199 : Int), (IntKind.wrap .u8 ((192 : Int) + (IntKind.wrap .u8 (ibits .and .i64 n12 (7 : Int)))))] : List Int))) - (0 : Nat)) + ((List.length xs) - (Int.toNat (IntKind.wrap .i64 (n11 + (7 : Int)))))) ≤ (140737488355328 : Nat)))) then (k4 (((List.take (Int.toNat n11) xs) ++ ([(72 : Int), (199 : Int), (IntKind.wrap .u8 ((192 : Int) + (IntKind.wrap .u8 (ibits .and .i64 n12 (7 : Int)))))] : List Int)) ++ (List.drop (Int.toNat (IntKind.wrap .i64 (n11 + (7 : Int)))) xs))) else False) else False) else False) else False)) else False) else (bif ((decide ((0 : Int) ≤ n11)) && ((decide ((Int.toNat n11) ≤ ((List.length xs) - (0 : Nat)))) && ((decide ((0 : Int) ≤ n11)) && (decide (n11 ≤ n11))))) then (bif ((decide ((0 : Int) ≤ (IntKind.wrap .i64 (n11 + (7 : Int))))) && (decide ((Int.toNat (IntKind.wrap .i64 (n11 + (7 : Int)))) ≤ ((List.length xs) - (0 : Nat))))) then (bif ((decide ((Int.toNat n11) < ((Int.toNat n11) + ((List.length xs) - (Int.toNat (IntKind.wrap .i64 (n11 + (7 : Int)))))))) && ((decide ((((Int.toNat n11) + ((List.length xs) - (Int.toNat (IntKind.wrap .i64 (n11 + (7 : Int)))))) * (1 : Nat)) ≤ (140737488355328 : Nat))) && (decide (((Int.toNat n11) + ((List.length xs) - (Int.toNat (IntKind.wrap .i64 (n11 + (7 : Int)))))) ≤ (140737488355328 : Nat))))) then (k4 ((List.take (Int.toNat n11) xs) ++ (List.drop (Int.toNat (IntKind.wrap .i64 (n11 + (7 : Int)))) xs))) else False) else False) else False))) (fun (xs14 : List Int) => (bif (t != (23 : Int)) then (bif ((n12 == n12) && true) then (bif (decide (n12 ≥ (8 : Int))) then (bif ((decide ((((3 : Nat) + ((List.length xs14) - (0 : Nat))) * (1 : Nat)) ≤ (140737488355328 : Nat))) && (decide (((3 : Nat) + ((List.length xs14) - (0 : Nat))) ≤ (140737488355328 : Nat)))) then (bif ((decide ((0 : Int) ≤ n11)) && ((decide ((Int.toNat n11) ≤ ((List.length xs) - (0 : Nat)))) && ((decide ((0 : Int) ≤ n11)) && (decide (n11 ≤ n11))))) then (bif ((decide ((Int.toNat n11) < ((Int.toNat n11) + ((List.length (([(73 : Int), (199 : Int), (IntKind.wrap .u8 ((192 : Int) + (IntKind.wrap .u8 (ibits .and .i64 n12 (7 : Int)))))] : List Int) ++ xs14)) - (0 : Nat))))) && ((decide ((((Int.toNat n11) + ((List.length (([(73 : Int), (199 : Int), (IntKind.wrap .u8 ((192 : Int) + (IntKind.wrap .u8 (ibits .and .i64 n12 (7 : Int)))))] : List Int) ++ xs14)) - (0 : Nat))) * (1 : Nat)) ≤ (140737488355328 : Nat))) && (decide (((Int.toNat n11) + ((List.length (([(73 : Int), (199 : Int), (IntKind.wrap .u8 ((192 : Int) + (IntKind.wrap .u8 (ibits .and .i64 n12 (7 : Int)))))] : List Int) ++ xs14)) - (0 : Nat))) ≤ (140737488355328 : Nat))))) then (bif ((decide ((0 : Int) ≤ (IntKind.wrap .i64 (n11 + (7 : Int))))) && (decide ((Int.toNat (IntKind.wrap .i64 (n11 + (7 : Int)))) ≤ ((List.length xs) - (0 : Nat))))) then (bif ((decide (((((List.length ((List.take (Int.toNat n11) xs) ++ (([(73 : Int), (199 : Int), (IntKind.wrap .u8 ((192 : Int) + (IntKind.wrap .u8 (ibits .and .i64 n12 (7 : Int)))))] : List Int) ++ xs14))) - (0 : Nat)) + ((List.length xs) - (Int.toNat (IntKind.wrap .i64 (n11 + (7 : Int)))))) * (1 : Nat)) ≤ (140737488355328 : Nat))) && (decide ((((List.length ((List.take (Int.toNat n11) xs) ++ (([(73 : Int), (199 : Int), (IntKind.wrap .u8 ((192 : Int) + (IntKind.wrap .u8 (ibits .and .i64 n12 (7 : Int)))))] : List Int) ++ xs14))) - (0 : Nat)) + ((List.length xs) - (Int.toNat (IntKind.wrap .i64 (n11 + (7 : Int)))))) ≤ (140737488355328 : Nat)))) then (k4 (((List.take (Int.toNat n11) xs) ++ (([(73 : Int), (199 : Int), (IntKind.wrap .u8 ((192 : Int) + (IntKind.wrap .u8 (ibits .and .i64 n12 (7 : Int)))))] : List Int) ++ xs14)) ++ (List.drop (Int.toNat (IntKind.wrap .i64 (n11 + (7 : Int)))) xs))) else False) else False) else False) else False) else False) else (bif ((decide ((((3 : Nat) + ((List.length xs14) - (0 : Nat))) * (1 : Nat)) ≤ (140737488355328 : Nat))) && (decide (((3 : Nat) + ((List.length xs14) - (0 : Nat))) ≤ (140737488355328 : Nat)))) then (bif ((decide ((0 : Int) ≤ n11)) && ((decide ((Int.toNat n11) ≤ ((List.length xs) - (0 : Nat)))) && ((decide ((0 : Int) ≤ n11)) && (decide (n11 ≤ n11))))) then (bif ((decide ((Int.toNat n11) < ((Int.toNat n11) + ((List.length (([(72 : Int), (199 : Int), (IntKind.wrap .u8 ((192 : Int) + (IntKind.wrap .u8 (ibits .and .i64 n12 (7 : Int)))))] : List Int) ++ xs14)) - (0 : Nat))))) && ((decide ((((Int.toNat n11) + ((List.length (([(72 : Int), (199 : Int), (IntKind.wrap .u8 ((192 : Int) + (IntKind.wrap .u8 (ibits .and .i64 n12 (7 : Int)))))] : List Int) ++ xs14)) - (0 : Nat))) * (1 : Nat)) ≤ (140737488355328 : Nat))) && (decide (((Int.toNat n11) + ((List.length (([(72 : Int), (199 : Int), (IntKind.wrap .u8 ((192 : Int) + (IntKind.wrap .u8 (ibits .and .i64 n12 (7 : Int)))))] : List Int) ++ xs14)) - (0 : Nat))) ≤ (140737488355328 : Nat))))) then (bif ((decide ((0 : Int) ≤ (IntKind.wrap .i64 (n11 + (7 : Int))))) && (decide ((Int.toNat (IntKind.wrap .i64 (n11 + (7 : Int)))) ≤ ((List.length xs) - (0 : Nat))))) then (bif ((decide (((((List.length ((List.take (Int.toNat n11) xs) ++ (([(72 : Int), (199 : Int), (IntKind.wrap .u8 ((192 : Int) + (IntKind.wrap .u8 (ibits .and .i64 n12 (7 : Int)))))] : List Int) ++ xs14))) - (0 : Nat)) + ((List.length xs) - (Int.toNat (IntKind.wrap .i64 (n11 + (7 : Int)))))) * (1 : Nat)) ≤ (140737488355328 : Nat))) && (decide ((((List.length ((List.take (Int.toNat n11) xs) ++ (([(72 : Int), (199 : Int), (IntKind.wrap .u8 ((192 : Int) + (IntKind.wrap .u8 (ibits .and .i64 n12 (7 : Int)))))] : List Int) ++ xs14))) - (0 : Nat)) + ((List.length xs) - (Int.toNat (IntKind.wrap .i64 (n11 + (7 : Int)))))) ≤ (140737488355328 : Nat)))) then (k4 (((List.take (Int.toNat n11) xs) ++ (([(72 : Int), (199 : Int), (IntKind.wrap .u8 ((192 : Int) + (IntKind.wrap .u8 (ibits .and .i64 n12 (7 : Int)))))] : List Int) ++ xs14)) ++ (List.drop (Int.toNat (IntKind.wrap .i64 (n11 + (7 : Int)))) xs))) else False) else False) else False) else False) else False)) else False) else (bif ((decide ((0 : Int) ≤ n11)) && ((decide ((Int.toNat n11) ≤ ((List.length xs) - (0 : Nat)))) && ((decide ((0 : Int) ≤ n11)) && (decide (n11 ≤ n11))))) then (bif ((decide ((Int.toNat n11) < ((Int.toNat n11) + ((List.length xs14) - (0 : Nat))))) && ((decide ((((Int.toNat n11) + ((List.length xs14) - (0 : Nat))) * (1 : Nat)) ≤ (140737488355328 : Nat))) && (decide (((Int.toNat n11) + ((List.length xs14) - (0 : Nat))) ≤ (140737488355328 : Nat))))) then (bif ((decide ((0 : Int) ≤ (IntKind.wrap .i64 (n11 + (7 : Int))))) && (decide ((Int.toNat (IntKind.wrap .i64 (n11 + (7 : Int)))) ≤ ((List.length xs) - (0 : Nat))))) then (bif ((decide (((((List.length ((List.take (Int.toNat n11) xs) ++ xs14)) - (0 : Nat)) + ((List.length xs) - (Int.toNat (IntKind.wrap .i64 (n11 + (7 : Int)))))) * (1 : Nat)) ≤ (140737488355328 : Nat))) && (decide ((((List.length ((List.take (Int.toNat n11) xs) ++ xs14)) - (0 : Nat)) + ((List.length xs) - (Int.toNat (IntKind.wrap .i64 (n11 + (7 : Int)))))) ≤ (140737488355328 : Nat)))) then (k4 (((List.take (Int.toNat n11) xs) ++ xs14) ++ (List.drop (Int.toNat (IntKind.wrap .i64 (n11 + (7 : Int)))) xs))) else False) else False) else False) else False)))))) ((k3)))) (fun (n15 : Int) (n16 : Int) => (f46 off (fun (b17 : Bool) => (bif (!b17) then (k3) else (f47 off ((bif (t != (23 : Int)) then (bif ((n16 == n16) && true) then (bif ((decide ((0 : Int) ≤ n15)) && ((decide ((Int.toNat n15) ≤ ((List.length xs) - (0 : Nat)))) && ((decide ((0 : Int) ≤ n15)) && (decide (n15 ≤ n15))))) then (bif ((decide ((Int.toNat n15) < ((Int.toNat n15) + (12 : Nat)))) && ((decide ((((Int.toNat n15) + (12 : Nat)) * (1 : Nat)) ≤ (140737488355328 : Nat))) && (decide (((Int.toNat n15) + (12 : Nat)) ≤ (140737488355328 : Nat))))) then (bif ((decide ((0 : Int) ≤ (IntKind.wrap .i64 (n15 + (12 : Int))))) && (decide ((Int.toNat (IntKind.wrap .i64 (n15 + (12 : Int)))) ≤ ((List.length xs) - (0 : Nat))))) then (bif ((decide (((((List.length ((List.take (Int.toNat n15) xs) ++ ([(100 : Int), (72 : Int), (139 : Int), (4 : Int), (37 : Int), (0 : Int), (0 : Int), (0 : Int), (0 : Int), (144 : Int), (144 : Int), (144 : Int)] : List Int))) - (0 : Nat)) + ((List.length xs) - (Int.toNat (IntKind.wrap .i64 (n15 + (12 : Int)))))) * (1 : Nat)) ≤ (140737488355328 : Nat))) && (decide ((((List.length ((List.take (Int.toNat n15) xs) ++ ([(100 : Int), (72 : Int), (139 : Int), (4 : Int), (37 : Int), (0 : Int), (0 : Int), (0 : Int), (0 : Int), (144 : Int), (144 : Int), (144 : Int)] : List Int))) - (0 : Nat)) + ((List.length xs) - (Int.toNat (IntKind.wrap .i64 (n15 + (12 : Int)))))) ≤ (140737488355328 : Nat)))) then (k4 (((List.take (Int.toNat n15) xs) ++ ([(100 : Int), (72 : Int), (139 : Int), (4 : Int), (37 : Int), (0 : Int), (0 : Int), (0 : Int), (0 : Int), (144 : Int), (144 : Int), (144 : Int)] : List Int)) ++ (List.drop (Int.toNat (IntKind.wrap .i64 (n15 + (12 : Int)))) xs))) else False) else False) else False) else False) else False) else (bif ((decide ((0 : Int) ≤ n15)) && ((decide ((Int.toNat n15) ≤ ((List.length xs) - (0 : Nat)))) && ((decide ((0 : Int) ≤ n15)) && (decide (n15 ≤ n15))))) then (bif ((decide ((0 : Int) ≤ (IntKind.wrap .i64 (n15 + (12 : Int))))) && (decide ((Int.toNat (IntKind.wrap .i64 (n15 + (12 : Int)))) ≤ ((List.length xs) - (0 : Nat))))) then (bif ((decide ((Int.toNat n15) < ((Int.toNat n15) + ((List.length xs) - (Int.toNat (IntKind.wrap .i64 (n15 + (12 : Int)))))))) && ((decide ((((Int.toNat n15) + ((List.length xs) - (Int.toNat (IntKind.wrap .i64 (n15 + (12 : Int)))))) * (1 : Nat)) ≤ (140737488355328 : Nat))) && (decide (((Int.toNat n15) + ((List.length xs) - (Int.toNat (IntKind.wrap .i64 (n15 + (12 : Int)))))) ≤ (140737488355328 : Nat))))) then (k4 ((List.take (Int.toNat n15) xs) ++ (List.drop (Int.toNat (IntKind.wrap .i64 (n15 + (12 : Int)))) xs))) else False) else False) else False))) (fun (xs18 : List Int) => (bif (t != (23 : Int)) then (bif ((n16 == n16) && true) then (bif ((decide ((0 : Int) ≤ n15)) && ((decide ((Int.toNat n15) ≤ ((List.length xs) - (0 : Nat)))) && ((decide ((0 : Int) ≤ n15)) && (decide (n15 ≤ n15))))) then (bif ((decide ((Int.toNat n15) < ((Int.toNat n15) + (12 : Nat)))) && ((decide ((((Int.toNat n15) + (12 : Nat)) * (1 : Nat)) ≤ (140737488355328 : Nat))) && (decide (((Int.toNat n15) + (12 : Nat)) ≤ (140737488355328 : Nat))))) then (bif ((decide ((0 : Int) ≤ (IntKind.wrap .i64 (n15 + (12 : Int))))) && (decide ((Int.toNat (IntKind.wrap .i64 (n15 + (12 : Int)))) ≤ ((List.length xs) - (0 : Nat))))) then (bif ((decide (((((List.length ((List.take (Int.toNat n15) xs) ++ ([(100 : Int), (72 : Int), (139 : Int), (4 : Int), (37 : Int), (0 : Int), (0 : Int), (0 : Int), (0 : Int), (144 : Int), (144 : Int), (144 : Int)] : List Int))) - (0 : Nat)) + ((List.length xs) - (Int.toNat (IntKind.wrap .i64 (n15 + (12 : Int)))))) * (1 : Nat)) ≤ (140737488355328 : Nat))) && (decide ((((List.length ((List.take (Int.toNat n15) xs) ++ ([(100 : Int), (72 : Int), (139 : Int), (4 : Int), (37 : Int), (0 : Int), (0 : Int), (0 : Int), (0 : Int), (144 : Int), (144 : Int), (144 : Int)] : List Int))) - (0 : Nat)) + ((List.length xs) - (Int.toNat (IntKind.wrap .i64 (n15 + (12 : Int)))))) ≤ (140737488355328 : Nat)))) then (k4 (((List.take (Int.toNat n15) xs) ++ ([(100 : Int), (72 : Int), (139 : Int), (4 : Int), (37 : Int), (0 : Int), (0 : Int), (0 : Int), (0 : Int), (144 : Int), (144 : Int), (144 : Int)] : List Int)) ++ (List.drop (Int.toNat (IntKind.wrap .i64 (n15 + (12 : Int)))) xs))) else False) else False) else False) else False) else False) else (bif ((decide ((0 : Int) ≤ n15)) && ((decide ((Int.toNat n15) ≤ ((List.length xs) - (0 : Nat)))) && ((decide ((0 : Int) ≤ n15)) && (decide (n15 ≤ n15))))) then (bif ((decide ((Int.toNat n15) < ((Int.toNat n15) + ((List.length xs18) - (0 : Nat))))) && ((decide ((((Int.toNat n15) + ((List.length xs18) - (0 : Nat))) * (1 : Nat)) ≤ (140737488355328 : Nat))) && (decide (((Int.toNat n15) + ((List.length xs18) - (0 : Nat))) ≤ (140737488355328 : Nat))))) then (bif ((decide ((0 : Int) ≤ (IntKind.wrap .i64 (n15 + (12 : Int))))) && (decide ((Int.toNat (IntKind.wrap .i64 (n15 + (12 : Int)))) ≤ ((List.length xs) - (0 : Nat))))) then (bif ((decide (((((List.length ((List.take (Int.toNat n15) xs) ++ xs18)) - (0 : Nat)) + ((List.length xs) - (Int.toNat (IntKind.wrap .i64 (n15 + (12 : Int)))))) * (1 : Nat)) ≤ (140737488355328 : Nat))) && (decide ((((List.length ((List.take (Int.toNat n15) xs) ++ xs18)) - (0 : Nat)) + ((List.length xs) - (Int.toNat (IntKind.wrap .i64 (n15 + (12 : Int)))))) ≤ (140737488355328 : Nat)))) then (k4 (((List.take (Int.toNat n15) xs) ++ xs18) ++ (List.drop (Int.toNat (IntKind.wrap .i64 (n15 + (12 : Int)))) xs))) else False) else False) else False) else False)))))) ((k3)))) (fun (n19 : Int) (n20 : Int) => (f46 off (fun (b21 : Bool) => (bif (!b21) then (k3) else (f47 off ((bif (t != (23 : Int)) then (bif ((n20 == n20) && true) then (bif ((decide ((0 : Int) ≤ n19)) && ((decide ((Int.toNat n19) ≤ ((List.length xs) - (0 : Nat)))) && ((decide ((0 : Int) ≤ n19)) && (decide (n19 ≤ n19))))) then (bif ((decide ((Int.toNat n19) < ((Int.toNat n19) + (12 : Nat)))) && ((decide ((((Int.toNat n19) + (12 : Nat)) * (1 : Nat)) ≤ (140737488355328 : Nat))) && (decide (((Int.toNat n19) + (12 : Nat)) ≤ (140737488355328 : Nat))))) then (bif ((decide ((0 : Int) ≤ (IntKind.wrap .i64 (n19 + (16 : Int))))) && (decide ((Int.toNat (IntKind.wrap .i64 (n19 + (16 : Int)))) ≤ ((List.length xs) - (0 : Nat))))) then (bif ((decide (((((List.length ((List.take (Int.toNat n19) xs) ++ ([(100 : Int), (72 : Int), (139 : Int), (4 : Int), (37 : Int), (0 : Int), (0 : Int), (0 : Int), (0 : Int), (72 : Int), (141 : Int), (128 : Int)] : List Int))) - (0 : Nat)) + ((List.length xs) - (Int.toNat (IntKind.wrap .i64 (n19 + (16 : Int)))))) * (1 : Nat)) ≤ (140737488355328 : Nat))) && (decide ((((List.length ((List.take (Int.toNat n19) xs) ++ ([(100 : Int), (72 : Int), (139 : Int), (4 : Int), (37 : Int), (0 : Int), (0 : Int), (0 : Int), (0 : Int), (72 : Int), (141 : Int), (128 : Int)] : List Int))) - (0 : Nat)) + ((List.length xs) - (Int.toNat (IntKind.wrap .i64 (n19 + (16 : Int)))))) ≤ (140737488355328 : Nat)))) then (k4 (((List.take (Int.toNat n19) xs) ++ ([(100 : Int), (72 : Int), (139 : Int), (4 : Int), (37 : Int), (0 : Int), (0 : Int), (0 : Int), (0 : Int), (72 : Int), (141 : Int), (128 : Int)] : List Int)) ++ (List.drop (Int.toNat (IntKind.wrap .i64 (n19 + (16 : Int)))) xs))) else False) else False) else False) else False) else False) else (bif ((decide ((0 : Int) ≤ n19)) && ((decide ((Int.toNat n19) ≤ ((List.length xs) - (0 : Nat)))) && ((decide ((0 : Int) ≤ n19)) && (decide (n19 ≤ n19))))) then (bif ((decide ((0 : Int) ≤ (IntKind.wrap .i64 (n19 + (16 : Int))))) && (decide ((Int.toNat (IntKind.wrap .i64 (n19 + (16 : Int)))) ≤ ((List.length xs) - (0 : Nat))))) then (bif ((decide ((Int.toNat n19) < ((Int.toNat n19) + ((List.length xs) - (Int.toNat (IntKind.wrap .i64 (n19 + (16 : Int)))))))) && ((decide ((((Int.toNat n19) + ((List.length xs) - (Int.toNat (IntKind.wrap .i64 (n19 + (16 : Int)))))) * (1 : Nat)) ≤ (140737488355328 : Nat))) && (decide (((Int.toNat n19) + ((List.length xs) - (Int.toNat (IntKind.wrap .i64 (n19 + (16 : Int)))))) ≤ (140737488355328 : Nat))))) then (k4 ((List.take (Int.toNat n19) xs) ++ (List.drop (Int.toNat (IntKind.wrap .i64 (n19 + (16 : Int)))) xs))) else False) else False) else False))) (fun (xs22 : List Int) => (bif (t != (23 : Int)) then (bif ((n20 == n20) && true) then (bif ((decide ((((12 : Nat) + ((List.length xs22) - (0 : Nat))) * (1 : Nat)) ≤ (140737488355328 : Nat))) && (decide (((12 : Nat) + ((List.length xs22) - (0 : Nat))) ≤ (140737488355328 : Nat)))) then (bif ((decide ((0 : Int) ≤ n19)) && ((decide ((Int.toNat n19) ≤ ((List.length xs) - (0 : Nat)))) && ((decide ((0 : Int) ≤ n19)) && (decide (n19 ≤ n19))))) then (bif ((decide ((Int.toNat n19) < ((Int.toNat n19) + ((List.length (([(100 : Int), (72 : Int), (139 : Int), (4 : Int), (37 : Int), (0 : Int), (0 : Int), (0 : Int), (0 : Int), (72 : Int), (141 : Int), (128 : Int)] : List Int) ++ xs22)) - (0 : Nat))))) && ((decide ((((Int.toNat n19) + ((List.length (([(100 : Int), (72 : Int), (139 : Int), (4 : Int), (37 : Int), (0 : Int), (0 : Int), (0 : Int), (0 : Int), (72 : Int), (141 : Int), (128 : Int)] : List Int) ++ xs22)) - (0 : Nat))) * (1 : Nat)) ≤ (140737488355328 : Nat))) && (decide (((Int.toNat n19) + ((List.length (([(100 : Int), (72 : Int), (139 : Int), (4 : Int), (37 : Int), (0 : Int), (0 : Int), (0 : Int), (0 : Int), (72 : Int), (141 : Int), (128 : Int)] : List Int) ++ xs22)) - (0 : Nat))) ≤ (140737488355328 : Nat))))) then (bif ((decide ((0 : Int) ≤ (IntKind.wrap .i64 (n19 + (16 : Int))))) && (decide ((Int.toNat (IntKind.wrap .i64 (n19 + (16 : Int)))) ≤ ((List.length xs) - (0 : Nat))))) then (bif ((decide (((((List.length ((List.take (Int.toNat n19) xs) ++ (([(100 : Int), (72 : Int), (139 : Int), (4 : Int), (37 : Int), (0 : Int), (0 : Int), (0 : Int), (0 : Int), (72 : Int), (141 : Int), (128 : Int)] : List Int) ++ xs22))) - (0 : Nat)) + ((List.length xs) - (Int.toNat (IntKind.wrap .i64 (n19 + (16 : Int)))))) * (1 : Nat)) ≤ (140737488355328 : Nat))) && (decide ((((List.length ((List.take (Int.toNat n19) xs) ++ (([(100 : Int), (72 : Int), (139 : Int), (4 : Int), (37 : Int), (0 : Int), (0 : Int), (0 : Int), (0 : Int), (72 : Int), (141 : Int), (128 : Int)] : List Int) ++ xs22))) - (0 : Nat)) + ((List.length xs) - (Int.toNat (IntKind.wrap .i64 (n19 + (16 : Int)))))) ≤ (140737488355328 : Nat)))) then (k4 (((List.take (Int.toNat n19) xs) ++ (([(100 : Int), (72 : Int), (139 : Int), (4 : Int), (37 : Int), (0 : Int), (0 : Int), (0 : Int), (0 : Int), (72 : Int), (141 : Int), (128 : Int)] : List Int) ++ xs22)) ++ (List.drop (Int.toNat (IntKind.wrap .i64 (n19 + (16 : Int)))) xs))) else False) else False) else False) else False) else False) else False) else (bif ((decide ((0 : Int) ≤ n19)) && ((decide ((Int.toNat n19) ≤ ((List.length xs) - (0 : Nat)))) && ((decide ((0 : Int) ≤ n19)) && (decide (n19 ≤ n19))))) then (bif ((decide ((Int.toNat n19) < ((Int.toNat n19) + ((List.length xs22) - (0 : Nat))))) && ((decide ((((Int.toNat n19) + ((List.length xs22) - (0 : Nat))) * (1 : Nat)) ≤ (140737488355328 : Nat))) && (decide (((Int.toNat n19) + ((List.length xs22) - (0 : Nat))) ≤ (140737488355328 : Nat))))) then (bif ((decide ((0 : Int) ≤ (IntKind.wrap .i64 (n19 + (16 : Int))))) && (decide ((Int.toNat (IntKind.wrap .i64 (n19 + (16 : Int)))) ≤ ((List.length xs) - (0 : Nat))))) then (bif ((decide (((((List.length ((List.take (Int.toNat n19) xs) ++ xs22)) - (0 : Nat)) + ((List.length xs) - (Int.toNat (IntKind.wrap .i64 (n19 + (16 : Int)))))) * (1 : Nat)) ≤ (140737488355328 : Nat))) && (decide ((((List.length ((List.take (Int.toNat n19) xs) ++ xs22)) - (0 : Nat)) + ((List.length xs) - (Int.toNat (IntKind.wrap .i64 (n19 + (16 : Int)))))) ≤ (140737488355328 : Nat)))) then (k4 (((List.take (Int.toNat n19) xs) ++ xs22) ++ (List.drop (Int.toNat (IntKind.wrap .i64 (n19 + (16 : Int)))) xs))) else False) else False) else False) else False)))))) ((k3))))))
theorem F15x_ok (f46 : Y46) (f47 : Y47) (f45x : Y45x) (pa : Int) (t : Int) (off : Int) (xs : List Int) (K : V → Mem → Prop) : cbody Try.prog (T46 f46 (T47 f47 (T45x f45x C0))) (fun _ => none) 1000 (fnOf Try.prog 15) [(.sl 0 (0 : Nat) (none : Option Nat) (none : Option Nat)), (.I .i64 pa), (.I .i64 t), (.I .i64 off)] [⟨[.ints .u8 xs], 5, false, false⟩] K =
    F15x f46 f47 f45x pa t off xs (K (.tup [.nils, (.I .i64 (6 : Int))]) [⟨[.ints .u8 xs], 5, false, false⟩]) (K (.tup [.nils, (.I .i64 (210 : Int))]) [⟨[.ints .u8 xs], 5, false, false⟩]) (K (.tup [.nils, (.I .i64 (201 : Int))]) [⟨[.ints .u8 xs], 5, false, false⟩]) (fun (u0 : List Int) => K (.tup [(.sl 1 (0 : Nat) (none : Option Nat) (none : Option Nat)), (.I .i64 (0 : Int))]) [⟨[.ints .u8 xs], 5, false, false⟩, ⟨[.ints .u8 u0], 5, false, true⟩]) := by kernel_rfl
def G15x : Y15x := F15x G46 G47 G45x
def VT15x (f : Y15x) (F : Prop) (args : List V) (m : Mem) (K : V → Mem → Prop) : Prop :=
  (seeCons args F fun a1 q2 => (seeV (.sl 0 (0 : Nat) (none : Option Nat) (none : Option Nat)) a1 F (seeCons q2 F fun a3 q4 => (seeI .i64 a3 F fun pa => (seeCons q4 F fun a5 q6 => (seeI .i64 a5 F fun t => (seeCons q6 F fun a7 q8 => (seeI .i64 a7 F fun off => (seeNil q8 F (seeCons m F fun a9 q10 => (seeBlk 5 false false a9 F fun cs11 => (seeCons cs11 F fun a12 q13 => (seeInts .u8 a12 F fun xs => (seeNil q13 F (seeNil q10 F (f pa t off xs (K (.tup [.nils, (.I .i64 (6 : Int))]) [⟨[.ints .u8 xs], 5, false, false⟩]) (K (.tup [.nils, (.I .i64 (210 : Int))]) [⟨[.ints .u8 xs], 5, false, false⟩]) (K (.tup [.nils, (.I .i64 (201 : Int))]) [⟨[.ints .u8 xs], 5, false, false⟩]) (fun (u0 : List Int) => K (.tup [(.sl 1 (0 : Nat) (none : Option Nat) (none : Option Nat)), (.I .i64 (0 : Int))]) [⟨[.ints .u8 xs], 5, false, false⟩, ⟨[.ints .u8 u0], 5, false, true⟩])))))))))))))))))
def T15x (f : Y15x) (C : CC) : CC := fun g args m K =>
  match Nat.beq g 15 with
  | true => VT15x f (C g args m K) args m K
  | false => C g args m K
set_option maxRecDepth 100000 in
theorem T15x_ok {C : CC} (hC : CallsOk Try.prog C) : CallsOk Try.prog (T15x G15x C) := by
  intro g args m K E w cargs hS ha h
  unfold T15x at h
  split at h
  · rename_i hg
    obtain rfl := Nat.eq_of_beq_eq_true hg
    unfold VT15x at h
    replace h := seeCons_use h
    rcases h with h | ⟨a1, q2, rfl, h⟩
    · exact hC _ _ _ _ _ _ _ hS ha h
    replace h := seeV_use h
    rcases h with h | ⟨rfl, h⟩
    · exact hC _ _ _ _ _ _ _ hS ha h
    replace h := seeCons_use h
    rcases h with h | ⟨a3, q4, rfl, h⟩
    · exact hC _ _ _ _ _ _ _ hS ha h
    replace h := seeI_use h
    rcases h with h | ⟨pa, rfl, h⟩
    · exact hC _ _ _ _ _ _ _ hS ha h
    replace h := seeCons_use h
    rcases h with h | ⟨a5, q6, rfl, h⟩
    · exact hC _ _ _ _ _ _ _ hS ha h
    replace h := seeI_use h
    rcases h with h | ⟨t, rfl, h⟩
    · exact hC _ _ _ _ _ _ _ hS ha h
    replace h := seeCons_use h
    rcases h with h | ⟨a7, q8, rfl, h⟩
    · exact hC _ _ _ _ _ _ _ hS ha h
    replace h := seeI_use h
    rcases h with h | ⟨off, rfl, h⟩
    · exact hC _ _ _ _ _ _ _ hS ha h
    replace h := seeNil_use h
    rcases h with h | ⟨rfl, h⟩
    · exact hC _ _ _ _ _ _ _ hS ha h
    replace h := seeCons_use h
    rcases h with h | ⟨a9, q10, rfl, h⟩
    · exact hC _ _ _ _ _ _ _ hS ha h
    replace h := seeBlk_use h
    rcases h with h | ⟨cs11, rfl, h⟩
    · exact hC _ _ _ _ _ _ _ hS ha h
    replace h := seeCons_use h
    rcases h with h | ⟨a12, q13, rfl, h⟩
    · exact hC _ _ _ _ _ _ _ hS ha h
    replace h := seeInts_use h
    rcases h with h | ⟨xs, rfl, h⟩
    · exact hC _ _ _ _ _ _ _ hS ha h
    replace h := seeNil_use h
    rcases h with h | ⟨rfl, h⟩
    · exact hC _ _ _ _ _ _ _ hS ha h
    replace h := seeNil_use h
    rcases h with h | ⟨rfl, h⟩
    · exact hC _ _ _ _ _ _ _ hS ha h
    exact cbody_use named (T46_ok (T47_ok (T45x_ok C0_ok))) at15 (l := 1) rfl (LoopsOk.none _ _) (F15x_ok G46 G47 G45x pa t off xs K) hS ha h
  · exact hC _ _ _ _ _ _ _ hS ha h
theorem at11 : Try.prog.funcs[11]? = some (fnOf Try.prog 11) := by kernel_rfl
abbrev Y11 : Type := Int → Int → (Prop) → (List Int → List Int → Prop) → (List Int → List Int → Prop) → (List Int → List Int → List Int → Prop) → (List Int → List Int → List Int → Prop) → Prop
set_option maxHeartbeats 4000000 in
set_option maxRecDepth 100000 in
def F11  (md : Int) (reg : Int) (k1 : Prop) (k2 : List Int → List Int → Prop) (k3 : List Int → List Int → Prop) (k4 : List Int → List Int → List Int → Prop) (k5 : List Int → List Int → List Int → Prop) : Prop :=
  (bif (decide (md < (1 : Int))) then (k1) else (bif (decide (md > (4 : Int))) then (k1) else (bif (decide (reg < (0 : Int))) then (k1) else (bif (decide (reg > (15 : Int))) then (k1) else (bif (decide (md ≤ (2 : Int))) then (bif (reg != (0 : Int)) then (k1) else (bif (md == (4 : Int)) then (bif (decide (reg ≥ (8 : Int))) then (k2 ([(73 : Int), (199 : Int), (IntKind.wrap .u8 ((192 : Int) + (IntKind.wrap .u8 (ibits .and .i64 reg (7 : Int))))), (0 : Int), (0 : Int), (0 : Int), (0 : Int)] : List Int) ([(120 : Int)] : List Int)) else (k2 ([(72 : Int), (199 : Int), (IntKind.wrap .u8 ((192 : Int) + (IntKind.wrap .u8 (ibits .and .i64 reg (7 : Int))))), (0 : Int), (0 : Int), (0 : Int), (0 : Int)] : List Int) ([(120 : Int)] : List Int))) else (bif (md == (3 : Int)) then (bif (decide (reg ≥ (8 : Int))) then (k3 ([(76 : Int), (139 : Int), (IntKind.wrap .u8 ((5 : Int) + (IntKind.wrap .u8 ((8 : Int) * (IntKind.wrap .u8 (ibits .and .i64 reg (7 : Int))))))), (0 : Int), (0 : Int), (0 : Int), (0 : Int)] : List Int) ([(120 : Int)] : List Int)) else (k3 ([(72 : Int), (139 : Int), (IntKind.wrap .u8 ((5 : Int) + (IntKind.wrap .u8 ((8 : Int) * (IntKind.wrap .u8 (ibits .and .i64 reg (7 : Int))))))), (0 : Int), (0 : Int), (0 : Int), (0 : Int)] : List Int) ([(120 : Int)] : List Int))) else (bif (md == (2 : Int)) then (k4 ([(72 : Int), (141 : Int), (61 : Int), (0 : Int), (0 : Int), (0 : Int), (0 : Int), (232 : Int), (0 : Int), (0 : Int), (0 : Int), (0 : Int)] : List Int) ([(120 : Int)] : List Int) ([(95 : Int), (95 : Int), (116 : Int), (108 : Int), (115 : Int), (95 : Int), (103 : Int), (101 : Int), (116 : Int), (95 : Int), (97 : Int), (100 : Int), (100 : Int), (114 : Int)] : List Int)) else (bif (md == (1 : Int)) then (k5 ([(102 : Int), (72 : Int), (141 : Int), (61 : Int), (0 : Int), (0 : Int), (0 : Int), (0 : Int), (102 : Int), (102 : Int), (72 : Int), (232 : Int), (0 : Int), (0 : Int), (0 : Int), (0 : Int)] : List Int) ([(120 : Int)] : List Int) ([(95 : Int), (95 : Int), (116 : Int), (108 : Int), (115 : Int), (95 : Int), (103 : Int), (101 : Int), (116 : Int), (95 : Int), (97 : Int), (100 : Int), (100 : Int), (114 : Int)] : List Int)) else (bif (md == (0 : Int)) then False else False)))))) else (bif (md == (4 : Int)) then (bif (decide (reg ≥ (8 : Int))) then (k2 ([(73 : Int), (199 : Int), (IntKind.wrap .u8 ((192 : Int) + (IntKind.wrap .u8 (ibits .and .i64 reg (7 : Int))))), (0 : Int), (0 : Int), (0 : Int), (0 : Int)] : List Int) ([(120 : Int)] : List Int)) else (k2 ([(72 : Int), (199 : Int), (IntKind.wrap .u8 ((192 : Int) + (IntKind.wrap .u8 (ibits .and .i64 reg (7 : Int))))), (0 : Int), (0 : Int), (0 : Int), (0 : Int)] : List Int) ([(120 : Int)] : List Int))) else (bif (md == (3 : Int)) then (bif (decide (reg ≥ (8 : Int))) then (k3 ([(76 : Int), (139 : Int), (IntKind.wrap .u8 ((5 : Int) + (IntKind.wrap .u8 ((8 : Int) * (IntKind.wrap .u8 (ibits .and .i64 reg (7 : Int))))))), (0 : Int), (0 : Int), (0 : Int), (0 : Int)] : List Int) ([(120 : Int)] : List Int)) else (k3 ([(72 : Int), (139 : Int), (IntKind.wrap .u8 ((5 : Int) + (IntKind.wrap .u8 ((8 : Int) * (IntKind.wrap .u8 (ibits .and .i64 reg (7 : Int))))))), (0 : Int), (0 : Int), (0 : Int), (0 : Int)] : List Int) ([(120 : Int)] : List Int))) else (bif (md == (2 : Int)) then (k4 ([(72 : Int), (141 : Int), (61 : Int), (0 : Int), (0 : Int), (0 : Int), (0 : Int), (232 : Int), (0 : Int), (0 : Int), (0 : Int), (0 : Int)] : List Int) ([(120 : Int)] : List Int) ([(95 : Int), (95 : Int), (116 : Int), (108 : Int), (115 : Int), (95 : Int), (103 : Int), (101 : Int), (116 : Int), (95 : Int), (97 : Int), (100 : Int), (100 : Int), (114 : Int)] : List Int)) else (bif (md == (1 : Int)) then (k5 ([(102 : Int), (72 : Int), (141 : Int), (61 : Int), (0 : Int), (0 : Int), (0 : Int), (0 : Int), (102 : Int), (102 : Int), (72 : Int), (232 : Int), (0 : Int), (0 : Int), (0 : Int), (0 : Int)] : List Int) ([(120 : Int)] : List Int) ([(95 : Int), (95 : Int), (116 : Int), (108 : Int), (115 : Int), (95 : Int), (103 : Int), (101 : Int), (116 : Int), (95 : Int), (97 : Int), (100 : Int), (100 : Int), (114 : Int)] : List Int)) else (bif (md == (0 : Int)) then False else False))))))))))
theorem F11_ok  (md : Int) (reg : Int) (K : V → Mem → Prop) : cbody Try.prog C0 (fun _ => none) 1000 (fnOf Try.prog 11) [(.I .i64 md), (.I .i64 reg), (.S ([(120 : Int)] : List Int))] [] K =
    F11  md reg (K (.tup [.nils, .nils, (.I .i64 (1 : Int))]) []) (fun (u0 : List Int) (u1 : List Int) => K (.tup [(.sl 0 (0 : Nat) (none : Option Nat) (none : Option Nat)), (.sl 1 (0 : Nat) (none : Option Nat) (none : Option Nat)), (.I .i64 (0 : Int))]) [⟨[.ints .u8 u0], 5, false, true⟩, ⟨[.ints .i64 ([(3 : Int)] : List Int), .ints .i64 ([(4 : Int)] : List Int), .ints .i64 ([(23 : Int)] : List Int), .strs ([u1] : List (List Int)), .ints .i64 ([(0 : Int)] : List Int)], 32, false, true⟩]) (fun (u0 : List Int) (u1 : List Int) => K (.tup [(.sl 0 (0 : Nat) (none : Option Nat) (none : Option Nat)), (.sl 1 (0 : Nat) (none : Option Nat) (none : Option Nat)), (.I .i64 (0 : Int))]) [⟨[.ints .u8 u0], 5, false, true⟩, ⟨[.ints .i64 ([(3 : Int)] : List Int), .ints .i64 ([(4 : Int)] : List Int), .ints .i64 ([(22 : Int)] : List Int), .strs ([u1] : List (List Int)), .ints .i64 ([(-4 : Int)] : List Int)], 32, false, true⟩]) (fun (u0 : List Int) (u1 : List Int) (u2 : List Int) => K (.tup [(.sl 0 (0 : Nat) (none : Option Nat) (none : Option Nat)), (.sl 1 (0 : Nat) (none : Option Nat) (none : Option Nat)), (.I .i64 (0 : Int))]) [⟨[.ints .u8 u0], 5, false, true⟩, ⟨[.ints .i64 ([(3 : Int), (8 : Int)] : List Int), .ints .i64 ([(4 : Int), (4 : Int)] : List Int), .ints .i64 ([(20 : Int), (4 : Int)] : List Int), .strs ([u1, u2] : List (List Int)), .ints .i64 ([(-4 : Int), (-4 : Int)] : List Int)], 32, false, true⟩]) (fun (u0 : List Int) (u1 : List Int) (u2 : List Int) => K (.tup [(.sl 0 (0 : Nat) (none : Option Nat) (none : Option Nat)), (.sl 1 (0 : Nat) (none : Option Nat) (none : Option Nat)), (.I .i64 (0 : Int))]) [⟨[.ints .u8 u0], 5, false, true⟩, ⟨[.ints .i64 ([(4 : Int), (12 : Int)] : List Int), .ints .i64 ([(4 : Int), (4 : Int)] : List Int), .ints .i64 ([(19 : Int), (4 : Int)] : List Int), .strs ([u1, u2] : List (List Int)), .ints .i64 ([(-4 : Int), (-4 : Int)] : List Int)], 32, false, true⟩]) := by kernel_rfl
def G11 : Y11 := F11 
def VT11 (f : Y11) (F : Prop) (args : List V) (m : Mem) (K : V → Mem → Prop) : Prop :=
  (seeCons args F fun a1 q2 => (seeI .i64 a1 F fun md => (seeCons q2 F fun a3 q4 => (seeI .i64 a3 F fun reg => (seeCons q4 F fun a5 q6 => (seeV (.S ([(120 : Int)] : List Int)) a5 F (seeNil q6 F (seeNil m F (f md reg (K (.tup [.nils, .nils, (.I .i64 (1 : Int))]) []) (fun (u0 : List Int) (u1 : List Int) => K (.tup [(.sl 0 (0 : Nat) (none : Option Nat) (none : Option Nat)), (.sl 1 (0 : Nat) (none : Option Nat) (none : Option Nat)), (.I .i64 (0 : Int))]) [⟨[.ints .u8 u0], 5, false, true⟩, ⟨[.ints .i64 ([(3 : Int)] : List Int), .ints .i64 ([(4 : Int)] : List Int), .ints .i64 ([(23 : Int)] : List Int), .strs ([u1] : List (List Int)), .ints .i64 ([(0 : Int)] : List Int)], 32, false, true⟩]) (fun (u0 : List Int) (u1 : List Int) => K (.tup [(.sl 0 (0 : Nat) (none : Option Nat) (none : Option Nat)), (.sl 1 (0 : Nat) (none : Option Nat) (none : Option Nat)), (.I .i64 (0 : Int))]) [⟨[.ints .u8 u0], 5, false, true⟩, ⟨[.ints .i64 ([(3 : Int)] : List Int), .ints .i64 ([(4 : Int)] : List Int), .ints .i64 ([(22 : Int)] : List Int), .strs ([u1] : List (List Int)), .ints .i64 ([(-4 : Int)] : List Int)], 32, false, true⟩]) (fun (u0 : List Int) (u1 : List Int) (u2 : List Int) => K (.tup [(.sl 0 (0 : Nat) (none : Option Nat) (none : Option Nat)), (.sl 1 (0 : Nat) (none : Option Nat) (none : Option Nat)), (.I .i64 (0 : Int))]) [⟨[.ints .u8 u0], 5, false, true⟩, ⟨[.ints .i64 ([(3 : Int), (8 : Int)] : List Int), .ints .i64 ([(4 : Int), (4 : Int)] : List Int), .ints .i64 ([(20 : Int), (4 : Int)] : List Int), .strs ([u1, u2] : List (List Int)), .ints .i64 ([(-4 : Int), (-4 : Int)] : List Int)], 32, false, true⟩]) (fun (u0 : List Int) (u1 : List Int) (u2 : List Int) => K (.tup [(.sl 0 (0 : Nat) (none : Option Nat) (none : Option Nat)), (.sl 1 (0 : Nat) (none : Option Nat) (none : Option Nat)), (.I .i64 (0 : Int))]) [⟨[.ints .u8 u0], 5, false, true⟩, ⟨[.ints .i64 ([(4 : Int), (12 : Int)] : List Int), .ints .i64 ([(4 : Int), (4 : Int)] : List Int), .ints .i64 ([(19 : Int), (4 : Int)] : List Int), .strs ([u1, u2] : List (List Int)), .ints .i64 ([(-4 : Int), (-4 : Int)] : List Int)], 32, false, true⟩]))))))))))
def T11 (f : Y11) (C : CC) : CC := fun g args m K =>
  match Nat.beq g 11 with
  | true => VT11 f (C g args m K) args m K
  | false => C g args m K
set_option maxRecDepth 100000 in
theorem T11_ok {C : CC} (hC : CallsOk Try.prog C) : CallsOk Try.prog (T11 G11 C) := by
  intro g args m K E w cargs hS ha h
  unfold T11 at h
  split at h
  · rename_i hg
    obtain rfl := Nat.eq_of_beq_eq_true hg
    unfold VT11 at h
    replace h := seeCons_use h
    rcases h with h | ⟨a1, q2, rfl, h⟩
    · exact hC _ _ _ _ _ _ _ hS ha h
    replace h := seeI_use h
    rcases h with h | ⟨md, rfl, h⟩
    · exact hC _ _ _ _ _ _ _ hS ha h
    replace h := seeCons_use h
    rcases h with h | ⟨a3, q4, rfl, h⟩
    · exact hC _ _ _ _ _ _ _ hS ha h
    replace h := seeI_use h
    rcases h with h | ⟨reg, rfl, h⟩
    · exact hC _ _ _ _ _ _ _ hS ha h
    replace h := seeCons_use h
    rcases h with h | ⟨a5, q6, rfl, h⟩
    · exact hC _ _ _ _ _ _ _ hS ha h
    replace h := seeV_use h
    rcases h with h | ⟨rfl, h⟩
    · exact hC _ _ _ _ _ _ _ hS ha h
    replace h := seeNil_use h
    rcases h with h | ⟨rfl, h⟩
    · exact hC _ _ _ _ _ _ _ hS ha h
    replace h := seeNil_use h
    rcases h with h | ⟨rfl, h⟩
    · exact hC _ _ _ _ _ _ _ hS ha h
    exact cbody_use named C0_ok at11 (l := 0) rfl (LoopsOk.none _ _) (F11_ok  md reg K) hS ha h
  · exact hC _ _ _ _ _ _ _ hS ha h
end Go.Proofs.Ytnndiicpiolddaa.tls
