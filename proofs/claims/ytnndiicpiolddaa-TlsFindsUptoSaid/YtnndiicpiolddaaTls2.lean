import Derived.Test.YtnndiicpiolddaaTls1
set_option linter.unusedVariables false
namespace Go.Proofs.Ytnndiicpiolddaa.tls
open Go Go.Ab
abbrev YL45_10 : Type := Code → Nat → Int → Int → Int → Int → List Int → List Int → (Prop) → (Int → Prop) → (Prop) → Prop
def HL45_10 (f70_1 : Y70_1) (rec : Int → Prop) (n_0_l : Nat) (i_1 : Int) (i_2 : Int) (i_11 : Int) (i_49 : Int) (xs_m_0_0 : List Int) (xs_m_5_0 : List Int) (k1 : Prop) (k2 : Int → Prop) (k3 : Prop) : Prop :=
  (bif (decide (i_49 < (16 : Int))) then (bif (decide (i_49 ≥ (8 : Int))) then (bif (decide (i_1 < (0 : Int))) then (k1) else (bif (decide (i_11 < (0 : Int))) then (k1) else (bif (decide (i_11 > (IntKind.wrap .i64 (((n_0_l : Nat) : Int) - (7 : Int))))) then (k1) else (bif ((decide ((0 : Int) ≤ (IntKind.wrap .i64 (i_11 + (7 : Int))))) && ((decide ((Int.toNat (IntKind.wrap .i64 (i_11 + (7 : Int)))) ≤ ((List.length xs_m_0_0) - (0 : Nat)))) && ((decide ((0 : Int) ≤ i_11)) && (decide (i_11 ≤ (IntKind.wrap .i64 (i_11 + (7 : Int)))))))) then (f70_1 (Int.toNat i_11) ((Int.toNat (IntKind.wrap .i64 (i_11 + (7 : Int)))) - (Int.toNat i_11)) xs_m_0_0 (3 : Int) (23 : Int) ([(120 : Int)] : List Int) (0 : Int) (fun (xs3 : List Int) => (bif ((([(73 : Int), (199 : Int), (IntKind.wrap .u8 ((192 : Int) + (IntKind.wrap .u8 (ibits .and .i64 i_49 (7 : Int))))), (0 : Int), (0 : Int), (0 : Int), (0 : Int)] : List Int) == ([(73 : Int), (199 : Int), (IntKind.wrap .u8 ((192 : Int) + (IntKind.wrap .u8 (ibits .and .i64 i_49 (7 : Int))))), (0 : Int), (0 : Int), (0 : Int), (0 : Int)] : List Int)) && true) then (bif (xs3 == ([(73 : Int), (199 : Int), (IntKind.wrap .u8 ((192 : Int) + (IntKind.wrap .u8 (ibits .and .i64 i_49 (7 : Int))))), (0 : Int), (0 : Int), (0 : Int), (0 : Int)] : List Int)) then (k2 i_49) else (rec (IntKind.wrap .i64 (i_49 + (1 : Int))))) else False))) else False)))) else (bif (decide (i_1 < (0 : Int))) then (k1) else (bif (decide (i_11 < (0 : Int))) then (k1) else (bif (decide (i_11 > (IntKind.wrap .i64 (((n_0_l : Nat) : Int) - (7 : Int))))) then (k1) else (bif ((decide ((0 : Int) ≤ (IntKind.wrap .i64 (i_11 + (7 : Int))))) && ((decide ((Int.toNat (IntKind.wrap .i64 (i_11 + (7 : Int)))) ≤ ((List.length xs_m_0_0) - (0 : Nat)))) && ((decide ((0 : Int) ≤ i_11)) && (decide (i_11 ≤ (IntKind.wrap .i64 (i_11 + (7 : Int)))))))) then (f70_1 (Int.toNat i_11) ((Int.toNat (IntKind.wrap .i64 (i_11 + (7 : Int)))) - (Int.toNat i_11)) xs_m_0_0 (3 : Int) (23 : Int) ([(120 : Int)] : List Int) (0 : Int) (fun (xs4 : List Int) => (bif ((([(72 : Int), (199 : Int), (IntKind.wrap .u8 ((192 : Int) + (IntKind.wrap .u8 (ibits .and .i64 i_49 (7 : Int))))), (0 : Int), (0 : Int), (0 : Int), (0 : Int)] : List Int) == ([(72 : Int), (199 : Int), (IntKind.wrap .u8 ((192 : Int) + (IntKind.wrap .u8 (ibits .and .i64 i_49 (7 : Int))))), (0 : Int), (0 : Int), (0 : Int), (0 : Int)] : List Int)) && true) then (bif (xs4 == ([(72 : Int), (199 : Int), (IntKind.wrap .u8 ((192 : Int) + (IntKind.wrap .u8 (ibits .and .i64 i_49 (7 : Int))))), (0 : Int), (0 : Int), (0 : Int), (0 : Int)] : List Int)) then (k2 i_49) else (rec (IntKind.wrap .i64 (i_49 + (1 : Int))))) else False))) else False))))) else (k3))
def RL45_10 (f70_1 : Y70_1) : Nat → Nat → Int → Int → Int → Int → List Int → List Int → (Prop) → (Int → Prop) → (Prop) → Prop
  | 0, _, _, _, _, _, _, _, _, _, _ => False
  | n + 1, n_0_l, i_1, i_2, i_11, i_49, xs_m_0_0, xs_m_5_0, k1, k2, k3 => HL45_10 f70_1 (fun (i_49 : Int) => RL45_10 f70_1 n n_0_l i_1 i_2 i_11 i_49 xs_m_0_0 xs_m_5_0 k1 k2 k3) n_0_l i_1 i_2 i_11 i_49 xs_m_0_0 xs_m_5_0 k1 k2 k3
noncomputable def XL45_10 : Code := sub [true, true, false, true, false, false, true, true, false, false, true, true, true, true, true, false, false] (bodyOf Try.prog 45)
theorem HL45_10_ok (f70_1 : Y70_1) (n : Nat) (n_0_l : Nat) (i_1 : Int) (i_2 : Int) (i_11 : Int) (i_49 : Int) (xs_m_0_0 : List Int) (xs_m_5_0 : List Int) (K : Ex → Env → Mem → Prop) : cround 1 [0, 1, 2, 6, 8, 9, 10, 11, 27, 28, 49] [0, 1, 2, 6, 7, 27, 28] (fun ρ m K => cexec Try.prog (T70_1 f70_1 C0) (fun _ => none) 1 1000 XL45_10 ρ m K) (n + 1) (selE 93 [(0, (.sl 0 (0 : Nat) (some n_0_l) (none : Option Nat))), (1, (.I .i64 i_1)), (2, (.I .i64 i_2)), (6, (.ptr 1 (0 : Nat) 0)), (8, (.I .i64 (4 : Int))), (9, (.ptr 2 (0 : Nat) 0)), (10, (.sl 3 (0 : Nat) (none : Option Nat) (none : Option Nat))), (11, (.I .i64 i_11)), (27, (.agg [(.I .i64 (0 : Int)), .nilf, .nilf, .nilf, (.I .i64 (19 : Int)), (.fn (.func 59) [] []), (.fn (.func 60) [] []), (.fn (.func 61) [] [(.ptr 4 (0 : Nat) 0)]), (.I .i64 (20 : Int)), (.fn (.func 62) [] []), (.fn (.func 63) [] []), (.fn (.func 64) [] [(.ptr 4 (0 : Nat) 0)]), (.I .i64 (22 : Int)), (.fn (.func 65) [] []), (.fn (.func 66) [] []), (.fn (.func 67) [] []), (.I .i64 (23 : Int)), (.fn (.func 68) [] []), (.fn (.func 69) [] []), (.fn (.func 67) [] [])])), (28, (.I .i64 (4 : Int))), (49, (.I .i64 i_49))]) [⟨[.ints .u8 xs_m_0_0], 5, false, false⟩, ⟨[.ints .i64 ([(0 : Int)] : List Int), .ints .i64 ([(0 : Int)] : List Int), .ints .i64 ([(0 : Int)] : List Int), .ints .i64 ([(0 : Int)] : List Int)], 88, false, true⟩, ⟨[.ints .i64 ([(23 : Int)] : List Int), .vals [(.fn (.func 68) [] [])], .vals [(.fn (.func 69) [] [])], .vals [(.fn (.func 67) [] [])]], 83, false, true⟩, ⟨[.ints .i64 ([(3 : Int)] : List Int), .ints .i64 ([(4 : Int)] : List Int), .ints .i64 ([(23 : Int)] : List Int), .strs ([([(120 : Int)] : List Int)] : List (List Int)), .ints .i64 ([(0 : Int)] : List Int)], 32, false, true⟩, ⟨[.vals [(.sl 5 (0 : Nat) (none : Option Nat) (none : Option Nat))]], 22, false, true⟩, ⟨[.ints .u8 xs_m_5_0], 5, false, true⟩] K =
    HL45_10 f70_1 (fun (i_49 : Int) => cround 1 [0, 1, 2, 6, 8, 9, 10, 11, 27, 28, 49] [0, 1, 2, 6, 7, 27, 28] (fun ρ m K => cexec Try.prog (T70_1 f70_1 C0) (fun _ => none) 1 1000 XL45_10 ρ m K) n (selE 93 [(0, (.sl 0 (0 : Nat) (some n_0_l) (none : Option Nat))), (1, (.I .i64 i_1)), (2, (.I .i64 i_2)), (6, (.ptr 1 (0 : Nat) 0)), (8, (.I .i64 (4 : Int))), (9, (.ptr 2 (0 : Nat) 0)), (10, (.sl 3 (0 : Nat) (none : Option Nat) (none : Option Nat))), (11, (.I .i64 i_11)), (27, (.agg [(.I .i64 (0 : Int)), .nilf, .nilf, .nilf, (.I .i64 (19 : Int)), (.fn (.func 59) [] []), (.fn (.func 60) [] []), (.fn (.func 61) [] [(.ptr 4 (0 : Nat) 0)]), (.I .i64 (20 : Int)), (.fn (.func 62) [] []), (.fn (.func 63) [] []), (.fn (.func 64) [] [(.ptr 4 (0 : Nat) 0)]), (.I .i64 (22 : Int)), (.fn (.func 65) [] []), (.fn (.func 66) [] []), (.fn (.func 67) [] []), (.I .i64 (23 : Int)), (.fn (.func 68) [] []), (.fn (.func 69) [] []), (.fn (.func 67) [] [])])), (28, (.I .i64 (4 : Int))), (49, (.I .i64 i_49))]) [⟨[.ints .u8 xs_m_0_0], 5, false, false⟩, ⟨[.ints .i64 ([(0 : Int)] : List Int), .ints .i64 ([(0 : Int)] : List Int), .ints .i64 ([(0 : Int)] : List Int), .ints .i64 ([(0 : Int)] : List Int)], 88, false, true⟩, ⟨[.ints .i64 ([(23 : Int)] : List Int), .vals [(.fn (.func 68) [] [])], .vals [(.fn (.func 69) [] [])], .vals [(.fn (.func 67) [] [])]], 83, false, true⟩, ⟨[.ints .i64 ([(3 : Int)] : List Int), .ints .i64 ([(4 : Int)] : List Int), .ints .i64 ([(23 : Int)] : List Int), .strs ([([(120 : Int)] : List Int)] : List (List Int)), .ints .i64 ([(0 : Int)] : List Int)], 32, false, true⟩, ⟨[.vals [(.sl 5 (0 : Nat) (none : Option Nat) (none : Option Nat))]], 22, false, true⟩, ⟨[.ints .u8 xs_m_5_0], 5, false, true⟩] K) n_0_l i_1 i_2 i_11 i_49 xs_m_0_0 xs_m_5_0 (K .ret (selE 93 [(0, (.sl 0 (0 : Nat) (some n_0_l) (none : Option Nat))), (1, (.I .i64 i_1)), (2, (.I .i64 i_2)), (6, (.ptr 1 (0 : Nat) 0)), (7, (.B false)), (27, (.agg [(.I .i64 (0 : Int)), .nilf, .nilf, .nilf, (.I .i64 (19 : Int)), (.fn (.func 59) [] []), (.fn (.func 60) [] []), (.fn (.func 61) [] [(.ptr 2 (0 : Nat) 0)]), (.I .i64 (20 : Int)), (.fn (.func 62) [] []), (.fn (.func 63) [] []), (.fn (.func 64) [] [(.ptr 2 (0 : Nat) 0)]), (.I .i64 (22 : Int)), (.fn (.func 65) [] []), (.fn (.func 66) [] []), (.fn (.func 67) [] []), (.I .i64 (23 : Int)), (.fn (.func 68) [] []), (.fn (.func 69) [] []), (.fn (.func 67) [] [])])), (28, (.I .i64 (4 : Int)))]) [⟨[.ints .u8 xs_m_0_0], 5, false, false⟩, ⟨[.ints .i64 ([(0 : Int)] : List Int), .ints .i64 ([(0 : Int)] : List Int), .ints .i64 ([(0 : Int)] : List Int), .ints .i64 ([(0 : Int)] : List Int)], 88, false, true⟩, ⟨[.vals [(.sl 3 (0 : Nat) (none : Option Nat) (none : Option Nat))]], 22, false, true⟩, ⟨[.ints .u8 xs_m_5_0], 5, false, true⟩]) (fun (u0 : Int) => K .ret (selE 93 [(0, (.sl 0 (0 : Nat) (some n_0_l) (none : Option Nat))), (1, (.I .i64 i_1)), (2, (.I .i64 i_2)), (6, (.ptr 1 (0 : Nat) 0)), (7, (.B true)), (27, (.agg [(.I .i64 (0 : Int)), .nilf, .nilf, .nilf, (.I .i64 (19 : Int)), (.fn (.func 59) [] []), (.fn (.func 60) [] []), (.fn (.func 61) [] [(.ptr 2 (0 : Nat) 0)]), (.I .i64 (20 : Int)), (.fn (.func 62) [] []), (.fn (.func 63) [] []), (.fn (.func 64) [] [(.ptr 2 (0 : Nat) 0)]), (.I .i64 (22 : Int)), (.fn (.func 65) [] []), (.fn (.func 66) [] []), (.fn (.func 67) [] []), (.I .i64 (23 : Int)), (.fn (.func 68) [] []), (.fn (.func 69) [] []), (.fn (.func 67) [] [])])), (28, (.I .i64 (4 : Int)))]) [⟨[.ints .u8 xs_m_0_0], 5, false, false⟩, ⟨[.ints .i64 ([(4 : Int)] : List Int), .ints .i64 ([i_11] : List Int), .ints .i64 ([(7 : Int)] : List Int), .ints .i64 ([u0] : List Int)], 88, false, true⟩, ⟨[.vals [(.sl 3 (0 : Nat) (none : Option Nat) (none : Option Nat))]], 22, false, true⟩, ⟨[.ints .u8 xs_m_5_0], 5, false, true⟩]) (K (.exit 2) (selE 93 [(0, (.sl 0 (0 : Nat) (some n_0_l) (none : Option Nat))), (1, (.I .i64 i_1)), (2, (.I .i64 i_2)), (6, (.ptr 1 (0 : Nat) 0)), (7, .undef), (27, (.agg [(.I .i64 (0 : Int)), .nilf, .nilf, .nilf, (.I .i64 (19 : Int)), (.fn (.func 59) [] []), (.fn (.func 60) [] []), (.fn (.func 61) [] [(.ptr 2 (0 : Nat) 0)]), (.I .i64 (20 : Int)), (.fn (.func 62) [] []), (.fn (.func 63) [] []), (.fn (.func 64) [] [(.ptr 2 (0 : Nat) 0)]), (.I .i64 (22 : Int)), (.fn (.func 65) [] []), (.fn (.func 66) [] []), (.fn (.func 67) [] []), (.I .i64 (23 : Int)), (.fn (.func 68) [] []), (.fn (.func 69) [] []), (.fn (.func 67) [] [])])), (28, (.I .i64 (4 : Int)))]) [⟨[.ints .u8 xs_m_0_0], 5, false, false⟩, ⟨[.ints .i64 ([(0 : Int)] : List Int), .ints .i64 ([(0 : Int)] : List Int), .ints .i64 ([(0 : Int)] : List Int), .ints .i64 ([(0 : Int)] : List Int)], 88, false, true⟩, ⟨[.vals [(.sl 3 (0 : Nat) (none : Option Nat) (none : Option Nat))]], 22, false, true⟩, ⟨[.ints .u8 xs_m_5_0], 5, false, true⟩]) := by kernel_rfl
theorem RL45_10_ok (f70_1 : Y70_1) (K : Ex → Env → Mem → Prop) : ∀ (n : Nat) (n_0_l : Nat) (i_1 : Int) (i_2 : Int) (i_11 : Int) (i_49 : Int) (xs_m_0_0 : List Int) (xs_m_5_0 : List Int), cround 1 [0, 1, 2, 6, 8, 9, 10, 11, 27, 28, 49] [0, 1, 2, 6, 7, 27, 28] (fun ρ m K => cexec Try.prog (T70_1 f70_1 C0) (fun _ => none) 1 1000 XL45_10 ρ m K) n (selE 93 [(0, (.sl 0 (0 : Nat) (some n_0_l) (none : Option Nat))), (1, (.I .i64 i_1)), (2, (.I .i64 i_2)), (6, (.ptr 1 (0 : Nat) 0)), (8, (.I .i64 (4 : Int))), (9, (.ptr 2 (0 : Nat) 0)), (10, (.sl 3 (0 : Nat) (none : Option Nat) (none : Option Nat))), (11, (.I .i64 i_11)), (27, (.agg [(.I .i64 (0 : Int)), .nilf, .nilf, .nilf, (.I .i64 (19 : Int)), (.fn (.func 59) [] []), (.fn (.func 60) [] []), (.fn (.func 61) [] [(.ptr 4 (0 : Nat) 0)]), (.I .i64 (20 : Int)), (.fn (.func 62) [] []), (.fn (.func 63) [] []), (.fn (.func 64) [] [(.ptr 4 (0 : Nat) 0)]), (.I .i64 (22 : Int)), (.fn (.func 65) [] []), (.fn (.func 66) [] []), (.fn (.func 67) [] []), (.I .i64 (23 : Int)), (.fn (.func 68) [] []), (.fn (.func 69) [] []), (.fn (.func 67) [] [])])), (28, (.I .i64 (4 : Int))), (49, (.I .i64 i_49))]) [⟨[.ints .u8 xs_m_0_0], 5, false, false⟩, ⟨[.ints .i64 ([(0 : Int)] : List Int), .ints .i64 ([(0 : Int)] : List Int), .ints .i64 ([(0 : Int)] : List Int), .ints .i64 ([(0 : Int)] : List Int)], 88, false, true⟩, ⟨[.ints .i64 ([(23 : Int)] : List Int), .vals [(.fn (.func 68) [] [])], .vals [(.fn (.func 69) [] [])], .vals [(.fn (.func 67) [] [])]], 83, false, true⟩, ⟨[.ints .i64 ([(3 : Int)] : List Int), .ints .i64 ([(4 : Int)] : List Int), .ints .i64 ([(23 : Int)] : List Int), .strs ([([(120 : Int)] : List Int)] : List (List Int)), .ints .i64 ([(0 : Int)] : List Int)], 32, false, true⟩, ⟨[.vals [(.sl 5 (0 : Nat) (none : Option Nat) (none : Option Nat))]], 22, false, true⟩, ⟨[.ints .u8 xs_m_5_0], 5, false, true⟩] K = RL45_10 f70_1 n n_0_l i_1 i_2 i_11 i_49 xs_m_0_0 xs_m_5_0 (K .ret (selE 93 [(0, (.sl 0 (0 : Nat) (some n_0_l) (none : Option Nat))), (1, (.I .i64 i_1)), (2, (.I .i64 i_2)), (6, (.ptr 1 (0 : Nat) 0)), (7, (.B false)), (27, (.agg [(.I .i64 (0 : Int)), .nilf, .nilf, .nilf, (.I .i64 (19 : Int)), (.fn (.func 59) [] []), (.fn (.func 60) [] []), (.fn (.func 61) [] [(.ptr 2 (0 : Nat) 0)]), (.I .i64 (20 : Int)), (.fn (.func 62) [] []), (.fn (.func 63) [] []), (.fn (.func 64) [] [(.ptr 2 (0 : Nat) 0)]), (.I .i64 (22 : Int)), (.fn (.func 65) [] []), (.fn (.func 66) [] []), (.fn (.func 67) [] []), (.I .i64 (23 : Int)), (.fn (.func 68) [] []), (.fn (.func 69) [] []), (.fn (.func 67) [] [])])), (28, (.I .i64 (4 : Int)))]) [⟨[.ints .u8 xs_m_0_0], 5, false, false⟩, ⟨[.ints .i64 ([(0 : Int)] : List Int), .ints .i64 ([(0 : Int)] : List Int), .ints .i64 ([(0 : Int)] : List Int), .ints .i64 ([(0 : Int)] : List Int)], 88, false, true⟩, ⟨[.vals [(.sl 3 (0 : Nat) (none : Option Nat) (none : Option Nat))]], 22, false, true⟩, ⟨[.ints .u8 xs_m_5_0], 5, false, true⟩]) (fun (u0 : Int) => K .ret (selE 93 [(0, (.sl 0 (0 : Nat) (some n_0_l) (none : Option Nat))), (1, (.I .i64 i_1)), (2, (.I .i64 i_2)), (6, (.ptr 1 (0 : Nat) 0)), (7, (.B true)), (27, (.agg [(.I .i64 (0 : Int)), .nilf, .nilf, .nilf, (.I .i64 (19 : Int)), (.fn (.func 59) [] []), (.fn (.func 60) [] []), (.fn (.func 61) [] [(.ptr 2 (0 : Nat) 0)]), (.I .i64 (20 : Int)), (.fn (.func 62) [] []), (.fn (.func 63) [] []), (.fn (.func 64) [] [(.ptr 2 (0 : Nat) 0)]), (.I .i64 (22 : Int)), (.fn (.func 65) [] []), (.fn (.func 66) [] []), (.fn (.func 67) [] []), (.I .i64 (23 : Int)), (.fn (.func 68) [] []), (.fn (.func 69) [] []), (.fn (.func 67) [] [])])), (28, (.I .i64 (4 : Int)))]) [⟨[.ints .u8 xs_m_0_0], 5, false, false⟩, ⟨[.ints .i64 ([(4 : Int)] : List Int), .ints .i64 ([i_11] : List Int), .ints .i64 ([(7 : Int)] : List Int), .ints .i64 ([u0] : List Int)], 88, false, true⟩, ⟨[.vals [(.sl 3 (0 : Nat) (none : Option Nat) (none : Option Nat))]], 22, false, true⟩, ⟨[.ints .u8 xs_m_5_0], 5, false, true⟩]) (K (.exit 2) (selE 93 [(0, (.sl 0 (0 : Nat) (some n_0_l) (none : Option Nat))), (1, (.I .i64 i_1)), (2, (.I .i64 i_2)), (6, (.ptr 1 (0 : Nat) 0)), (7, .undef), (27, (.agg [(.I .i64 (0 : Int)), .nilf, .nilf, .nilf, (.I .i64 (19 : Int)), (.fn (.func 59) [] []), (.fn (.func 60) [] []), (.fn (.func 61) [] [(.ptr 2 (0 : Nat) 0)]), (.I .i64 (20 : Int)), (.fn (.func 62) [] []), (.fn (.func 63) [] []), (.fn (.func 64) [] [(.ptr 2 (0 : Nat) 0)]), (.I .i64 (22 : Int)), (.fn (.func 65) [] []), (.fn (.func 66) [] []), (.fn (.func 67) [] []), (.I .i64 (23 : Int)), (.fn (.func 68) [] []), (.fn (.func 69) [] []), (.fn (.func 67) [] [])])), (28, (.I .i64 (4 : Int)))]) [⟨[.ints .u8 xs_m_0_0], 5, false, false⟩, ⟨[.ints .i64 ([(0 : Int)] : List Int), .ints .i64 ([(0 : Int)] : List Int), .ints .i64 ([(0 : Int)] : List Int), .ints .i64 ([(0 : Int)] : List Int)], 88, false, true⟩, ⟨[.vals [(.sl 3 (0 : Nat) (none : Option Nat) (none : Option Nat))]], 22, false, true⟩, ⟨[.ints .u8 xs_m_5_0], 5, false, true⟩])
  | 0, n_0_l, i_1, i_2, i_11, i_49, xs_m_0_0, xs_m_5_0 => rfl
  | n + 1, n_0_l, i_1, i_2, i_11, i_49, xs_m_0_0, xs_m_5_0 => by
    have ih := RL45_10_ok f70_1 K n
    rw [HL45_10_ok f70_1 n n_0_l i_1 i_2 i_11 i_49 xs_m_0_0 xs_m_5_0 K]
    show HL45_10 f70_1 _ n_0_l i_1 i_2 i_11 i_49 xs_m_0_0 xs_m_5_0 (K .ret (selE 93 [(0, (.sl 0 (0 : Nat) (some n_0_l) (none : Option Nat))), (1, (.I .i64 i_1)), (2, (.I .i64 i_2)), (6, (.ptr 1 (0 : Nat) 0)), (7, (.B false)), (27, (.agg [(.I .i64 (0 : Int)), .nilf, .nilf, .nilf, (.I .i64 (19 : Int)), (.fn (.func 59) [] []), (.fn (.func 60) [] []), (.fn (.func 61) [] [(.ptr 2 (0 : Nat) 0)]), (.I .i64 (20 : Int)), (.fn (.func 62) [] []), (.fn (.func 63) [] []), (.fn (.func 64) [] [(.ptr 2 (0 : Nat) 0)]), (.I .i64 (22 : Int)), (.fn (.func 65) [] []), (.fn (.func 66) [] []), (.fn (.func 67) [] []), (.I .i64 (23 : Int)), (.fn (.func 68) [] []), (.fn (.func 69) [] []), (.fn (.func 67) [] [])])), (28, (.I .i64 (4 : Int)))]) [⟨[.ints .u8 xs_m_0_0], 5, false, false⟩, ⟨[.ints .i64 ([(0 : Int)] : List Int), .ints .i64 ([(0 : Int)] : List Int), .ints .i64 ([(0 : Int)] : List Int), .ints .i64 ([(0 : Int)] : List Int)], 88, false, true⟩, ⟨[.vals [(.sl 3 (0 : Nat) (none : Option Nat) (none : Option Nat))]], 22, false, true⟩, ⟨[.ints .u8 xs_m_5_0], 5, false, true⟩]) (fun (u0 : Int) => K .ret (selE 93 [(0, (.sl 0 (0 : Nat) (some n_0_l) (none : Option Nat))), (1, (.I .i64 i_1)), (2, (.I .i64 i_2)), (6, (.ptr 1 (0 : Nat) 0)), (7, (.B true)), (27, (.agg [(.I .i64 (0 : Int)), .nilf, .nilf, .nilf, (.I .i64 (19 : Int)), (.fn (.func 59) [] []), (.fn (.func 60) [] []), (.fn (.func 61) [] [(.ptr 2 (0 : Nat) 0)]), (.I .i64 (20 : Int)), (.fn (.func 62) [] []), (.fn (.func 63) [] []), (.fn (.func 64) [] [(.ptr 2 (0 : Nat) 0)]), (.I .i64 (22 : Int)), (.fn (.func 65) [] []), (.fn (.func 66) [] []), (.fn (.func 67) [] []), (.I .i64 (23 : Int)), (.fn (.func 68) [] []), (.fn (.func 69) [] []), (.fn (.func 67) [] [])])), (28, (.I .i64 (4 : Int)))]) [⟨[.ints .u8 xs_m_0_0], 5, false, false⟩, ⟨[.ints .i64 ([(4 : Int)] : List Int), .ints .i64 ([i_11] : List Int), .ints .i64 ([(7 : Int)] : List Int), .ints .i64 ([u0] : List Int)], 88, false, true⟩, ⟨[.vals [(.sl 3 (0 : Nat) (none : Option Nat) (none : Option Nat))]], 22, false, true⟩, ⟨[.ints .u8 xs_m_5_0], 5, false, true⟩]) (K (.exit 2) (selE 93 [(0, (.sl 0 (0 : Nat) (some n_0_l) (none : Option Nat))), (1, (.I .i64 i_1)), (2, (.I .i64 i_2)), (6, (.ptr 1 (0 : Nat) 0)), (7, .undef), (27, (.agg [(.I .i64 (0 : Int)), .nilf, .nilf, .nilf, (.I .i64 (19 : Int)), (.fn (.func 59) [] []), (.fn (.func 60) [] []), (.fn (.func 61) [] [(.ptr 2 (0 : Nat) 0)]), (.I .i64 (20 : Int)), (.fn (.func 62) [] []), (.fn (.func 63) [] []), (.fn (.func 64) [] [(.ptr 2 (0 : Nat) 0)]), (.I .i64 (22 : Int)), (.fn (.func 65) [] []), (.fn (.func 66) [] []), (.fn (.func 67) [] []), (.I .i64 (23 : Int)), (.fn (.func 68) [] []), (.fn (.func 69) [] []), (.fn (.func 67) [] [])])), (28, (.I .i64 (4 : Int)))]) [⟨[.ints .u8 xs_m_0_0], 5, false, false⟩, ⟨[.ints .i64 ([(0 : Int)] : List Int), .ints .i64 ([(0 : Int)] : List Int), .ints .i64 ([(0 : Int)] : List Int), .ints .i64 ([(0 : Int)] : List Int)], 88, false, true⟩, ⟨[.vals [(.sl 3 (0 : Nat) (none : Option Nat) (none : Option Nat))]], 22, false, true⟩, ⟨[.ints .u8 xs_m_5_0], 5, false, true⟩]) = HL45_10 f70_1 _ n_0_l i_1 i_2 i_11 i_49 xs_m_0_0 xs_m_5_0 (K .ret (selE 93 [(0, (.sl 0 (0 : Nat) (some n_0_l) (none : Option Nat))), (1, (.I .i64 i_1)), (2, (.I .i64 i_2)), (6, (.ptr 1 (0 : Nat) 0)), (7, (.B false)), (27, (.agg [(.I .i64 (0 : Int)), .nilf, .nilf, .nilf, (.I .i64 (19 : Int)), (.fn (.func 59) [] []), (.fn (.func 60) [] []), (.fn (.func 61) [] [(.ptr 2 (0 : Nat) 0)]), (.I .i64 (20 : Int)), (.fn (.func 62) [] []), (.fn (.func 63) [] []), (.fn (.func 64) [] [(.ptr 2 (0 : Nat) 0)]), (.I .i64 (22 : Int)), (.fn (.func 65) [] []), (.fn (.func 66) [] []), (.fn (.func 67) [] []), (.I .i64 (23 : Int)), (.fn (.func 68) [] []), (.fn (.func 69) [] []), (.fn (.func 67) [] [])])), (28, (.I .i64 (4 : Int)))]) [⟨[.ints .u8 xs_m_0_0], 5, false, false⟩, ⟨[.ints .i64 ([(0 : Int)] : List Int), .ints .i64 ([(0 : Int)] : List Int), .ints .i64 ([(0 : Int)] : List Int), .ints .i64 ([(0 : Int)] : List Int)], 88, false, true⟩, ⟨[.vals [(.sl 3 (0 : Nat) (none : Option Nat) (none : Option Nat))]], 22, false, true⟩, ⟨[.ints .u8 xs_m_5_0], 5, false, true⟩]) (fun (u0 : Int) => K .ret (selE 93 [(0, (.sl 0 (0 : Nat) (some n_0_l) (none : Option Nat))), (1, (.I .i64 i_1)), (2, (.I .i64 i_2)), (6, (.ptr 1 (0 : Nat) 0)), (7, (.B true)), (27, (.agg [(.I .i64 (0 : Int)), .nilf, .nilf, .nilf, (.I .i64 (19 : Int)), (.fn (.func 59) [] []), (.fn (.func 60) [] []), (.fn (.func 61) [] [(.ptr 2 (0 : Nat) 0)]), (.I .i64 (20 : Int)), (.fn (.func 62) [] []), (.fn (.func 63) [] []), (.fn (.func 64) [] [(.ptr 2 (0 : Nat) 0)]), (.I .i64 (22 : Int)), (.fn (.func 65) [] []), (.fn (.func 66) [] []), (.fn (.func 67) [] []), (.I .i64 (23 : Int)), (.fn (.func 68) [] []), (.fn (.func 69) [] []), (.fn (.func 67) [] [])])), (28, (.I .i64 (4 : Int)))]) [⟨[.ints .u8 xs_m_0_0], 5, false, false⟩, ⟨[.ints .i64 ([(4 : Int)] : List Int), .ints .i64 ([i_11] : List Int), .ints .i64 ([(7 : Int)] : List Int), .ints .i64 ([u0] : List Int)], 88, false, true⟩, ⟨[.vals [(.sl 3 (0 : Nat) (none : Option Nat) (none : Option Nat))]], 22, false, true⟩, ⟨[.ints .u8 xs_m_5_0], 5, false, true⟩]) (K (.exit 2) (selE 93 [(0, (.sl 0 (0 : Nat) (some n_0_l) (none : Option Nat))), (1, (.I .i64 i_1)), (2, (.I .i64 i_2)), (6, (.ptr 1 (0 : Nat) 0)), (7, .undef), (27, (.agg [(.I .i64 (0 : Int)), .nilf, .nilf, .nilf, (.I .i64 (19 : Int)), (.fn (.func 59) [] []), (.fn (.func 60) [] []), (.fn (.func 61) [] [(.ptr 2 (0 : Nat) 0)]), (.I .i64 (20 : Int)), (.fn (.func 62) [] []), (.fn (.func 63) [] []), (.fn (.func 64) [] [(.ptr 2 (0 : Nat) 0)]), (.I .i64 (22 : Int)), (.fn (.func 65) [] []), (.fn (.func 66) [] []), (.fn (.func 67) [] []), (.I .i64 (23 : Int)), (.fn (.func 68) [] []), (.fn (.func 69) [] []), (.fn (.func 67) [] [])])), (28, (.I .i64 (4 : Int)))]) [⟨[.ints .u8 xs_m_0_0], 5, false, false⟩, ⟨[.ints .i64 ([(0 : Int)] : List Int), .ints .i64 ([(0 : Int)] : List Int), .ints .i64 ([(0 : Int)] : List Int), .ints .i64 ([(0 : Int)] : List Int)], 88, false, true⟩, ⟨[.vals [(.sl 3 (0 : Nat) (none : Option Nat) (none : Option Nat))]], 22, false, true⟩, ⟨[.ints .u8 xs_m_5_0], 5, false, true⟩])
    refine congrArg (fun r => HL45_10 f70_1 r n_0_l i_1 i_2 i_11 i_49 xs_m_0_0 xs_m_5_0 (K .ret (selE 93 [(0, (.sl 0 (0 : Nat) (some n_0_l) (none : Option Nat))), (1, (.I .i64 i_1)), (2, (.I .i64 i_2)), (6, (.ptr 1 (0 : Nat) 0)), (7, (.B false)), (27, (.agg [(.I .i64 (0 : Int)), .nilf, .nilf, .nilf, (.I .i64 (19 : Int)), (.fn (.func 59) [] []), (.fn (.func 60) [] []), (.fn (.func 61) [] [(.ptr 2 (0 : Nat) 0)]), (.I .i64 (20 : Int)), (.fn (.func 62) [] []), (.fn (.func 63) [] []), (.fn (.func 64) [] [(.ptr 2 (0 : Nat) 0)]), (.I .i64 (22 : Int)), (.fn (.func 65) [] []), (.fn (.func 66) [] []), (.fn (.func 67) [] []), (.I .i64 (23 : Int)), (.fn (.func 68) [] []), (.fn (.func 69) [] []), (.fn (.func 67) [] [])])), (28, (.I .i64 (4 : Int)))]) [⟨[.ints .u8 xs_m_0_0], 5, false, false⟩, ⟨[.ints .i64 ([(0 : Int)] : List Int), .ints .i64 ([(0 : Int)] : List Int), .ints .i64 ([(0 : Int)] : List Int), .ints .i64 ([(0 : Int)] : List Int)], 88, false, true⟩, ⟨[.vals [(.sl 3 (0 : Nat) (none : Option Nat) (none : Option Nat))]], 22, false, true⟩, ⟨[.ints .u8 xs_m_5_0], 5, false, true⟩]) (fun (u0 : Int) => K .ret (selE 93 [(0, (.sl 0 (0 : Nat) (some n_0_l) (none : Option Nat))), (1, (.I .i64 i_1)), (2, (.I .i64 i_2)), (6, (.ptr 1 (0 : Nat) 0)), (7, (.B true)), (27, (.agg [(.I .i64 (0 : Int)), .nilf, .nilf, .nilf, (.I .i64 (19 : Int)), (.fn (.func 59) [] []), (.fn (.func 60) [] []), (.fn (.func 61) [] [(.ptr 2 (0 : Nat) 0)]), (.I .i64 (20 : Int)), (.fn (.func 62) [] []), (.fn (.func 63) [] []), (.fn (.func 64) [] [(.ptr 2 (0 : Nat) 0)]), (.I .i64 (22 : Int)), (.fn (.func 65) [] []), (.fn (.func 66) [] []), (.fn (.func 67) [] []), (.I .i64 (23 : Int)), (.fn (.func 68) [] []), (.fn (.func 69) [] []), (.fn (.func 67) [] [])])), (28, (.I .i64 (4 : Int)))]) [⟨[.ints .u8 xs_m_0_0], 5, false, false⟩, ⟨[.ints .i64 ([(4 : Int)] : List Int), .ints .i64 ([i_11] : List Int), .ints .i64 ([(7 : Int)] : List Int), .ints .i64 ([u0] : List Int)], 88, false, true⟩, ⟨[.vals [(.sl 3 (0 : Nat) (none : Option Nat) (none : Option Nat))]], 22, false, true⟩, ⟨[.ints .u8 xs_m_5_0], 5, false, true⟩]) (K (.exit 2) (selE 93 [(0, (.sl 0 (0 : Nat) (some n_0_l) (none : Option Nat))), (1, (.I .i64 i_1)), (2, (.I .i64 i_2)), (6, (.ptr 1 (0 : Nat) 0)), (7, .undef), (27, (.agg [(.I .i64 (0 : Int)), .nilf, .nilf, .nilf, (.I .i64 (19 : Int)), (.fn (.func 59) [] []), (.fn (.func 60) [] []), (.fn (.func 61) [] [(.ptr 2 (0 : Nat) 0)]), (.I .i64 (20 : Int)), (.fn (.func 62) [] []), (.fn (.func 63) [] []), (.fn (.func 64) [] [(.ptr 2 (0 : Nat) 0)]), (.I .i64 (22 : Int)), (.fn (.func 65) [] []), (.fn (.func 66) [] []), (.fn (.func 67) [] []), (.I .i64 (23 : Int)), (.fn (.func 68) [] []), (.fn (.func 69) [] []), (.fn (.func 67) [] [])])), (28, (.I .i64 (4 : Int)))]) [⟨[.ints .u8 xs_m_0_0], 5, false, false⟩, ⟨[.ints .i64 ([(0 : Int)] : List Int), .ints .i64 ([(0 : Int)] : List Int), .ints .i64 ([(0 : Int)] : List Int), .ints .i64 ([(0 : Int)] : List Int)], 88, false, true⟩, ⟨[.vals [(.sl 3 (0 : Nat) (none : Option Nat) (none : Option Nat))]], 22, false, true⟩, ⟨[.ints .u8 xs_m_5_0], 5, false, true⟩])) ?_
    funext i_49
    exact ih n_0_l i_1 i_2 i_11 i_49 xs_m_0_0 xs_m_5_0
def GL45_10 : YL45_10 := fun x n_0_l i_1 i_2 i_11 i_49 xs_m_0_0 xs_m_5_0 k1 k2 k3 => x = XL45_10 ∧ ∃ n, RL45_10 G70_1 n n_0_l i_1 i_2 i_11 i_49 xs_m_0_0 xs_m_5_0 k1 k2 k3
def VL45_10 (l : YL45_10) (F : Prop) (x : Code) (ρ : Env) (m : Mem) (K : Ex → Env → Mem → Prop) : Prop :=
  match ρ.has (93 - 1) with
  | true => (seeSl 0 (ρ.get 0) F fun r2 l3 c4 => (seeN 0 r2 F (seeO l3 F fun n_0_l => (seeNo c4 F (seeI .i64 (ρ.get 1) F fun i_1 => (seeI .i64 (ρ.get 2) F fun i_2 => (seeV (.ptr 1 (0 : Nat) 0) (ρ.get 6) F (seeV (.I .i64 (4 : Int)) (ρ.get 8) F (seeV (.ptr 2 (0 : Nat) 0) (ρ.get 9) F (seeV (.sl 3 (0 : Nat) (none : Option Nat) (none : Option Nat)) (ρ.get 10) F (seeI .i64 (ρ.get 11) F fun i_11 => (seeV (.agg [(.I .i64 (0 : Int)), .nilf, .nilf, .nilf, (.I .i64 (19 : Int)), (.fn (.func 59) [] []), (.fn (.func 60) [] []), (.fn (.func 61) [] [(.ptr 4 (0 : Nat) 0)]), (.I .i64 (20 : Int)), (.fn (.func 62) [] []), (.fn (.func 63) [] []), (.fn (.func 64) [] [(.ptr 4 (0 : Nat) 0)]), (.I .i64 (22 : Int)), (.fn (.func 65) [] []), (.fn (.func 66) [] []), (.fn (.func 67) [] []), (.I .i64 (23 : Int)), (.fn (.func 68) [] []), (.fn (.func 69) [] []), (.fn (.func 67) [] [])]) (ρ.get 27) F (seeV (.I .i64 (4 : Int)) (ρ.get 28) F (seeI .i64 (ρ.get 49) F fun i_49 => (seeCons m F fun a15 q16 => (seeBlk 5 false false a15 F fun cs17 => (seeCons cs17 F fun a18 q19 => (seeInts .u8 a18 F fun xs_m_0_0 => (seeNil q19 F (seeCons q16 F fun a20 q21 => (seeBlk 88 false true a20 F fun cs22 => (seeCons cs22 F fun a23 q24 => (seeInts .i64 a23 F fun xs25 => (seeX ([(0 : Int)] : List Int) xs25 F (seeCons q24 F fun a26 q27 => (seeInts .i64 a26 F fun xs28 => (seeX ([(0 : Int)] : List Int) xs28 F (seeCons q27 F fun a29 q30 => (seeInts .i64 a29 F fun xs31 => (seeX ([(0 : Int)] : List Int) xs31 F (seeCons q30 F fun a32 q33 => (seeInts .i64 a32 F fun xs34 => (seeX ([(0 : Int)] : List Int) xs34 F (seeNil q33 F (seeCons q21 F fun a35 q36 => (seeBlk 83 false true a35 F fun cs37 => (seeCons cs37 F fun a38 q39 => (seeInts .i64 a38 F fun xs40 => (seeX ([(23 : Int)] : List Int) xs40 F (seeCons q39 F fun a41 q42 => (seeVals a41 F fun xs43 => (seeCons xs43 F fun a44 q45 => (seeV (.fn (.func 68) [] []) a44 F (seeNil q45 F (seeCons q42 F fun a46 q47 => (seeVals a46 F fun xs48 => (seeCons xs48 F fun a49 q50 => (seeV (.fn (.func 69) [] []) a49 F (seeNil q50 F (seeCons q47 F fun a51 q52 => (seeVals a51 F fun xs53 => (seeCons xs53 F fun a54 q55 => (seeV (.fn (.func 67) [] []) a54 F (seeNil q55 F (seeNil q52 F (seeCons q36 F fun a56 q57 => (seeBlk 32 false true a56 F fun cs58 => (seeCons cs58 F fun a59 q60 => (seeInts .i64 a59 F fun xs61 => (seeX ([(3 : Int)] : List Int) xs61 F (seeCons q60 F fun a62 q63 => (seeInts .i64 a62 F fun xs64 => (seeX ([(4 : Int)] : List Int) xs64 F (seeCons q63 F fun a65 q66 => (seeInts .i64 a65 F fun xs67 => (seeX ([(23 : Int)] : List Int) xs67 F (seeCons q66 F fun a68 q69 => (seeStrs a68 F fun xs70 => (seeCons xs70 F fun a71 q72 => (seeX ([(120 : Int)] : List Int) a71 F (seeNil q72 F (seeCons q69 F fun a73 q74 => (seeInts .i64 a73 F fun xs75 => (seeX ([(0 : Int)] : List Int) xs75 F (seeNil q74 F (seeCons q57 F fun a76 q77 => (seeBlk 22 false true a76 F fun cs78 => (seeCons cs78 F fun a79 q80 => (seeVals a79 F fun xs81 => (seeCons xs81 F fun a82 q83 => (seeV (.sl 5 (0 : Nat) (none : Option Nat) (none : Option Nat)) a82 F (seeNil q83 F (seeNil q80 F (seeCons q77 F fun a84 q85 => (seeBlk 5 false true a84 F fun cs86 => (seeCons cs86 F fun a87 q88 => (seeInts .u8 a87 F fun xs_m_5_0 => (seeNil q88 F (seeNil q85 F (l x n_0_l i_1 i_2 i_11 i_49 xs_m_0_0 xs_m_5_0 (K .ret (selE 93 [(0, (.sl 0 (0 : Nat) (some n_0_l) (none : Option Nat))), (1, (.I .i64 i_1)), (2, (.I .i64 i_2)), (6, (.ptr 1 (0 : Nat) 0)), (7, (.B false)), (27, (.agg [(.I .i64 (0 : Int)), .nilf, .nilf, .nilf, (.I .i64 (19 : Int)), (.fn (.func 59) [] []), (.fn (.func 60) [] []), (.fn (.func 61) [] [(.ptr 2 (0 : Nat) 0)]), (.I .i64 (20 : Int)), (.fn (.func 62) [] []), (.fn (.func 63) [] []), (.fn (.func 64) [] [(.ptr 2 (0 : Nat) 0)]), (.I .i64 (22 : Int)), (.fn (.func 65) [] []), (.fn (.func 66) [] []), (.fn (.func 67) [] []), (.I .i64 (23 : Int)), (.fn (.func 68) [] []), (.fn (.func 69) [] []), (.fn (.func 67) [] [])])), (28, (.I .i64 (4 : Int)))]) [⟨[.ints .u8 xs_m_0_0], 5, false, false⟩, ⟨[.ints .i64 ([(0 : Int)] : List Int), .ints .i64 ([(0 : Int)] : List Int), .ints .i64 ([(0 : Int)] : List Int), .ints .i64 ([(0 : Int)] : List Int)], 88, false, true⟩, ⟨[.vals [(.sl 3 (0 : Nat) (none : Option Nat) (none : Option Nat))]], 22, false, true⟩, ⟨[.ints .u8 xs_m_5_0], 5, false, true⟩]) (fun (u0 : Int) => K .ret (selE 93 [(0, (.sl 0 (0 : Nat) (some n_0_l) (none : Option Nat))), (1, (.I .i64 i_1)), (2, (.I .i64 i_2)), (6, (.ptr 1 (0 : Nat) 0)), (7, (.B true)), (27, (.agg [(.I .i64 (0 : Int)), .nilf, .nilf, .nilf, (.I .i64 (19 : Int)), (.fn (.func 59) [] []), (.fn (.func 60) [] []), (.fn (.func 61) [] [(.ptr 2 (0 : Nat) 0)]), (.I .i64 (20 : Int)), (.fn (.func 62) [] []), (.fn (.func 63) [] []), (.fn (.func 64) [] [(.ptr 2 (0 : Nat) 0)]), (.I .i64 (22 : Int)), (.fn (.func 65) [] []), (.fn (.func 66) [] []), (.fn (.func 67) [] []), (.I .i64 (23 : Int)), (.fn (.func 68) [] []), (.fn (.func 69) [] []), (.fn (.func 67) [] [])])), (28, (.I .i64 (4 : Int)))]) [⟨[.ints .u8 xs_m_0_0], 5, false, false⟩, ⟨[.ints .i64 ([(4 : Int)] : List Int), .ints .i64 ([i_11] : List Int), .ints .i64 ([(7 : Int)] : List Int), .ints .i64 ([u0] : List Int)], 88, false, true⟩, ⟨[.vals [(.sl 3 (0 : Nat) (none : Option Nat) (none : Option Nat))]], 22, false, true⟩, ⟨[.ints .u8 xs_m_5_0], 5, false, true⟩]) (K (.exit 2) (selE 93 [(0, (.sl 0 (0 : Nat) (some n_0_l) (none : Option Nat))), (1, (.I .i64 i_1)), (2, (.I .i64 i_2)), (6, (.ptr 1 (0 : Nat) 0)), (7, .undef), (27, (.agg [(.I .i64 (0 : Int)), .nilf, .nilf, .nilf, (.I .i64 (19 : Int)), (.fn (.func 59) [] []), (.fn (.func 60) [] []), (.fn (.func 61) [] [(.ptr 2 (0 : Nat) 0)]), (.I .i64 (20 : Int)), (.fn (.func 62) [] []), (.fn (.func 63) [] []), (.fn (.func 64) [] [(.ptr 2 (0 : Nat) 0)]), (.I .i64 (22 : Int)), (.fn (.func 65) [] []), (.fn (.func 66) [] []), (.fn (.func 67) [] []), (.I .i64 (23 : Int)), (.fn (.func 68) [] []), (.fn (.func 69) [] []), (.fn (.func 67) [] [])])), (28, (.I .i64 (4 : Int)))]) [⟨[.ints .u8 xs_m_0_0], 5, false, false⟩, ⟨[.ints .i64 ([(0 : Int)] : List Int), .ints .i64 ([(0 : Int)] : List Int), .ints .i64 ([(0 : Int)] : List Int), .ints .i64 ([(0 : Int)] : List Int)], 88, false, true⟩, ⟨[.vals [(.sl 3 (0 : Nat) (none : Option Nat) (none : Option Nat))]], 22, false, true⟩, ⟨[.ints .u8 xs_m_5_0], 5, false, true⟩])))))))))))))))))))))))))))))))))))))))))))))))))))))))))))))))))))))))))))))))))))))))))))
  | false => False
def WL45_10 (l : YL45_10) (W : Masks) : Masks := fun r =>
  match Nat.beq r 10 with
  | true => some fun x ρ m K => VL45_10 l (match W r with | some lf => lf x ρ m K | none => False) x (tidyE 1 [0, 1, 2, 6, 8, 9, 10, 11, 27, 28, 49] ρ m) (tidyM 1 [0, 1, 2, 6, 8, 9, 10, 11, 27, 28, 49] ρ m) K
  | false => W r
set_option maxRecDepth 100000 in
theorem WL45_10_ok {W : Masks} (hW : LoopsOk Try.prog 1 W) : LoopsOk Try.prog 1 (WL45_10 GL45_10 W) := by
  intro r lf h
  unfold WL45_10 at h
  split at h
  · cases h
    intro x E0 m0 w0 ds hS0 ha ρ m K E a w Q hS hρ hd h hQ
    have fb : (match W r with | some lf => lf x ρ m K | none => False) → (Code.loop x).wp Try.prog Q a w := fun h => by
      split at h
      · rename_i lf hlf
        exact hW r lf hlf x hS0 ha ρ m K E a w Q hS hρ hd h hQ
      · cases h
    obtain ⟨E2, hS2, hρ2⟩ := tidy_rel hS0 hS hρ [0, 1, 2, 6, 8, 9, 10, 11, 27, 28, 49]
    rw [ha] at hS2 hρ2
    unfold VL45_10 at h
    split at h
    · rename_i hlen
      replace h := seeSl_use h
      rcases h with h | ⟨r2, l3, c4, e1, h⟩
      · exact fb h
      replace h := seeN_use h
      rcases h with h | ⟨rfl, h⟩
      · exact fb h
      replace h := seeO_use h
      rcases h with h | ⟨n_0_l, rfl, h⟩
      · exact fb h
      replace h := seeNo_use h
      rcases h with h | ⟨rfl, h⟩
      · exact fb h
      replace h := seeI_use h
      rcases h with h | ⟨i_1, e5, h⟩
      · exact fb h
      replace h := seeI_use h
      rcases h with h | ⟨i_2, e6, h⟩
      · exact fb h
      replace h := seeV_use h
      rcases h with h | ⟨e7, h⟩
      · exact fb h
      replace h := seeV_use h
      rcases h with h | ⟨e8, h⟩
      · exact fb h
      replace h := seeV_use h
      rcases h with h | ⟨e9, h⟩
      · exact fb h
      replace h := seeV_use h
      rcases h with h | ⟨e10, h⟩
      · exact fb h
      replace h := seeI_use h
      rcases h with h | ⟨i_11, e11, h⟩
      · exact fb h
      replace h := seeV_use h
      rcases h with h | ⟨e12, h⟩
      · exact fb h
      replace h := seeV_use h
      rcases h with h | ⟨e13, h⟩
      · exact fb h
      replace h := seeI_use h
      rcases h with h | ⟨i_49, e14, h⟩
      · exact fb h
      replace h := seeCons_use h
      rcases h with h | ⟨a15, q16, eqm, h⟩
      · exact fb h
      replace h := seeBlk_use h
      rcases h with h | ⟨cs17, rfl, h⟩
      · exact fb h
      replace h := seeCons_use h
      rcases h with h | ⟨a18, q19, rfl, h⟩
      · exact fb h
      replace h := seeInts_use h
      rcases h with h | ⟨xs_m_0_0, rfl, h⟩
      · exact fb h
      replace h := seeNil_use h
      rcases h with h | ⟨rfl, h⟩
      · exact fb h
      replace h := seeCons_use h
      rcases h with h | ⟨a20, q21, rfl, h⟩
      · exact fb h
      replace h := seeBlk_use h
      rcases h with h | ⟨cs22, rfl, h⟩
      · exact fb h
      replace h := seeCons_use h
      rcases h with h | ⟨a23, q24, rfl, h⟩
      · exact fb h
      replace h := seeInts_use h
      rcases h with h | ⟨xs25, rfl, h⟩
      · exact fb h
      replace h := seeX_use h
      rcases h with h | ⟨rfl, h⟩
      · exact fb h
      replace h := seeCons_use h
      rcases h with h | ⟨a26, q27, rfl, h⟩
      · exact fb h
      replace h := seeInts_use h
      rcases h with h | ⟨xs28, rfl, h⟩
      · exact fb h
      replace h := seeX_use h
      rcases h with h | ⟨rfl, h⟩
      · exact fb h
      replace h := seeCons_use h
      rcases h with h | ⟨a29, q30, rfl, h⟩
      · exact fb h
      replace h := seeInts_use h
      rcases h with h | ⟨xs31, rfl, h⟩
      · exact fb h
      replace h := seeX_use h
      rcases h with h | ⟨rfl, h⟩
      · exact fb h
      replace h := seeCons_use h
      rcases h with h | ⟨a32, q33, rfl, h⟩
      · exact fb h
      replace h := seeInts_use h
      rcases h with h | ⟨xs34, rfl, h⟩
      · exact fb h
      replace h := seeX_use h
      rcases h with h | ⟨rfl, h⟩
      · exact fb h
      replace h := seeNil_use h
      rcases h with h | ⟨rfl, h⟩
      · exact fb h
      replace h := seeCons_use h
      rcases h with h | ⟨a35, q36, rfl, h⟩
      · exact fb h
      replace h := seeBlk_use h
      rcases h with h | ⟨cs37, rfl, h⟩
      · exact fb h
      replace h := seeCons_use h
      rcases h with h | ⟨a38, q39, rfl, h⟩
      · exact fb h
      replace h := seeInts_use h
      rcases h with h | ⟨xs40, rfl, h⟩
      · exact fb h
      replace h := seeX_use h
      rcases h with h | ⟨rfl, h⟩
      · exact fb h
      replace h := seeCons_use h
      rcases h with h | ⟨a41, q42, rfl, h⟩
      · exact fb h
      replace h := seeVals_use h
      rcases h with h | ⟨xs43, rfl, h⟩
      · exact fb h
      replace h := seeCons_use h
      rcases h with h | ⟨a44, q45, rfl, h⟩
      · exact fb h
      replace h := seeV_use h
      rcases h with h | ⟨rfl, h⟩
      · exact fb h
      replace h := seeNil_use h
      rcases h with h | ⟨rfl, h⟩
      · exact fb h
      replace h := seeCons_use h
      rcases h with h | ⟨a46, q47, rfl, h⟩
      · exact fb h
      replace h := seeVals_use h
      rcases h with h | ⟨xs48, rfl, h⟩
      · exact fb h
      replace h := seeCons_use h
      rcases h with h | ⟨a49, q50, rfl, h⟩
      · exact fb h
      replace h := seeV_use h
      rcases h with h | ⟨rfl, h⟩
      · exact fb h
      replace h := seeNil_use h
      rcases h with h | ⟨rfl, h⟩
      · exact fb h
      replace h := seeCons_use h
      rcases h with h | ⟨a51, q52, rfl, h⟩
      · exact fb h
      replace h := seeVals_use h
      rcases h with h | ⟨xs53, rfl, h⟩
      · exact fb h
      replace h := seeCons_use h
      rcases h with h | ⟨a54, q55, rfl, h⟩
      · exact fb h
      replace h := seeV_use h
      rcases h with h | ⟨rfl, h⟩
      · exact fb h
      replace h := seeNil_use h
      rcases h with h | ⟨rfl, h⟩
      · exact fb h
      replace h := seeNil_use h
      rcases h with h | ⟨rfl, h⟩
      · exact fb h
      replace h := seeCons_use h
      rcases h with h | ⟨a56, q57, rfl, h⟩
      · exact fb h
      replace h := seeBlk_use h
      rcases h with h | ⟨cs58, rfl, h⟩
      · exact fb h
      replace h := seeCons_use h
      rcases h with h | ⟨a59, q60, rfl, h⟩
      · exact fb h
      replace h := seeInts_use h
      rcases h with h | ⟨xs61, rfl, h⟩
      · exact fb h
      replace h := seeX_use h
      rcases h with h | ⟨rfl, h⟩
      · exact fb h
      replace h := seeCons_use h
      rcases h with h | ⟨a62, q63, rfl, h⟩
      · exact fb h
      replace h := seeInts_use h
      rcases h with h | ⟨xs64, rfl, h⟩
      · exact fb h
      replace h := seeX_use h
      rcases h with h | ⟨rfl, h⟩
      · exact fb h
      replace h := seeCons_use h
      rcases h with h | ⟨a65, q66, rfl, h⟩
      · exact fb h
      replace h := seeInts_use h
      rcases h with h | ⟨xs67, rfl, h⟩
      · exact fb h
      replace h := seeX_use h
      rcases h with h | ⟨rfl, h⟩
      · exact fb h
      replace h := seeCons_use h
      rcases h with h | ⟨a68, q69, rfl, h⟩
      · exact fb h
      replace h := seeStrs_use h
      rcases h with h | ⟨xs70, rfl, h⟩
      · exact fb h
      replace h := seeCons_use h
      rcases h with h | ⟨a71, q72, rfl, h⟩
      · exact fb h
      replace h := seeX_use h
      rcases h with h | ⟨rfl, h⟩
      · exact fb h
      replace h := seeNil_use h
      rcases h with h | ⟨rfl, h⟩
      · exact fb h
      replace h := seeCons_use h
      rcases h with h | ⟨a73, q74, rfl, h⟩
      · exact fb h
      replace h := seeInts_use h
      rcases h with h | ⟨xs75, rfl, h⟩
      · exact fb h
      replace h := seeX_use h
      rcases h with h | ⟨rfl, h⟩
      · exact fb h
      replace h := seeNil_use h
      rcases h with h | ⟨rfl, h⟩
      · exact fb h
      replace h := seeCons_use h
      rcases h with h | ⟨a76, q77, rfl, h⟩
      · exact fb h
      replace h := seeBlk_use h
      rcases h with h | ⟨cs78, rfl, h⟩
      · exact fb h
      replace h := seeCons_use h
      rcases h with h | ⟨a79, q80, rfl, h⟩
      · exact fb h
      replace h := seeVals_use h
      rcases h with h | ⟨xs81, rfl, h⟩
      · exact fb h
      replace h := seeCons_use h
      rcases h with h | ⟨a82, q83, rfl, h⟩
      · exact fb h
      replace h := seeV_use h
      rcases h with h | ⟨rfl, h⟩
      · exact fb h
      replace h := seeNil_use h
      rcases h with h | ⟨rfl, h⟩
      · exact fb h
      replace h := seeNil_use h
      rcases h with h | ⟨rfl, h⟩
      · exact fb h
      replace h := seeCons_use h
      rcases h with h | ⟨a84, q85, rfl, h⟩
      · exact fb h
      replace h := seeBlk_use h
      rcases h with h | ⟨cs86, rfl, h⟩
      · exact fb h
      replace h := seeCons_use h
      rcases h with h | ⟨a87, q88, rfl, h⟩
      · exact fb h
      replace h := seeInts_use h
      rcases h with h | ⟨xs_m_5_0, rfl, h⟩
      · exact fb h
      replace h := seeNil_use h
      rcases h with h | ⟨rfl, h⟩
      · exact fb h
      replace h := seeNil_use h
      rcases h with h | ⟨rfl, h⟩
      · exact fb h
      obtain ⟨rfl, n, h⟩ := h
      exact loop_use named (T70_1_ok C0_ok) (LoopsOk.none _ _) (RL45_10_ok G70_1 K n _ _ _ _ _ _ _) h hS0 ha hlen ⟨e1, e5, e6, e7, e8, e9, e10, e11, e12, e13, e14, trivial⟩ (eqm ▸ hS2) hρ2 hd hQ
    · cases h
  · exact hW r lf h
abbrev YL45_10b : Type := Code → Nat → Int → Int → Int → Int → List Int → List Int → (Prop) → (Int → Prop) → (Prop) → Prop
def HL45_10b (f70_1 : Y70_1) (rec : Int → Prop) (n_0_l : Nat) (i_1 : Int) (i_2 : Int) (i_11 : Int) (i_49 : Int) (xs_m_0_0 : List Int) (xs_m_5_0 : List Int) (k1 : Prop) (k2 : Int → Prop) (k3 : Prop) : Prop :=
  (bif (decide (i_49 < (16 : Int))) then (bif (decide (i_49 ≥ (8 : Int))) then (bif (decide (i_1 < (0 : Int))) then (k1) else (bif (decide (i_11 < (0 : Int))) then (k1) else (bif (decide (i_11 > (IntKind.wrap .i64 (((n_0_l : Nat) : Int) - (7 : Int))))) then (k1) else (bif ((decide ((0 : Int) ≤ (IntKind.wrap .i64 (i_11 + (7 : Int))))) && ((decide ((Int.toNat (IntKind.wrap .i64 (i_11 + (7 : Int)))) ≤ ((List.length xs_m_0_0) - (0 : Nat)))) && ((decide ((0 : Int) ≤ i_11)) && (decide (i_11 ≤ (IntKind.wrap .i64 (i_11 + (7 : Int)))))))) then (f70_1 (Int.toNat i_11) ((Int.toNat (IntKind.wrap .i64 (i_11 + (7 : Int)))) - (Int.toNat i_11)) xs_m_0_0 (3 : Int) (22 : Int) ([(120 : Int)] : List Int) (-4 : Int) (fun (xs3 : List Int) => (bif ((([(76 : Int), (139 : Int), (IntKind.wrap .u8 ((5 : Int) + (IntKind.wrap .u8 ((8 : Int) * (IntKind.wrap .u8 (ibits .and .i64 i_49 (7 : Int))))))), (0 : Int), (0 : Int), (0 : Int), (0 : Int)] : List Int) == ([(76 : Int), (139 : Int), (IntKind.wrap .u8 ((5 : Int) + (IntKind.wrap .u8 ((8 : Int) * (IntKind.wrap .u8 (ibits .and .i64 i_49 (7 : Int))))))), (0 : Int), (0 : Int), (0 : Int), (0 : Int)] : List Int)) && true) then (bif (xs3 == ([(76 : Int), (139 : Int), (IntKind.wrap .u8 ((5 : Int) + (IntKind.wrap .u8 ((8 : Int) * (IntKind.wrap .u8 (ibits .and .i64 i_49 (7 : Int))))))), (0 : Int), (0 : Int), (0 : Int), (0 : Int)] : List Int)) then (k2 i_49) else (rec (IntKind.wrap .i64 (i_49 + (1 : Int))))) else False))) else False)))) else (bif (decide (i_1 < (0 : Int))) then (k1) else (bif (decide (i_11 < (0 : Int))) then (k1) else (bif (decide (i_11 > (IntKind.wrap .i64 (((n_0_l : Nat) : Int) - (7 : Int))))) then (k1) else (bif ((decide ((0 : Int) ≤ (IntKind.wrap .i64 (i_11 + (7 : Int))))) && ((decide ((Int.toNat (IntKind.wrap .i64 (i_11 + (7 : Int)))) ≤ ((List.length xs_m_0_0) - (0 : Nat)))) && ((decide ((0 : Int) ≤ i_11)) && (decide (i_11 ≤ (IntKind.wrap .i64 (i_11 + (7 : Int)))))))) then (f70_1 (Int.toNat i_11) ((Int.toNat (IntKind.wrap .i64 (i_11 + (7 : Int)))) - (Int.toNat i_11)) xs_m_0_0 (3 : Int) (22 : Int) ([(120 : Int)] : List Int) (-4 : Int) (fun (xs4 : List Int) => (bif ((([(72 : Int), (139 : Int), (IntKind.wrap .u8 ((5 : Int) + (IntKind.wrap .u8 ((8 : Int) * (IntKind.wrap .u8 (ibits .and .i64 i_49 (7 : Int))))))), (0 : Int), (0 : Int), (0 : Int), (0 : Int)] : List Int) == ([(72 : Int), (139 : Int), (IntKind.wrap .u8 ((5 : Int) + (IntKind.wrap .u8 ((8 : Int) * (IntKind.wrap .u8 (ibits .and .i64 i_49 (7 : Int))))))), (0 : Int), (0 : Int), (0 : Int), (0 : Int)] : List Int)) && true) then (bif (xs4 == ([(72 : Int), (139 : Int), (IntKind.wrap .u8 ((5 : Int) + (IntKind.wrap .u8 ((8 : Int) * (IntKind.wrap .u8 (ibits .and .i64 i_49 (7 : Int))))))), (0 : Int), (0 : Int), (0 : Int), (0 : Int)] : List Int)) then (k2 i_49) else (rec (IntKind.wrap .i64 (i_49 + (1 : Int))))) else False))) else False))))) else (k3))
def RL45_10b (f70_1 : Y70_1) : Nat → Nat → Int → Int → Int → Int → List Int → List Int → (Prop) → (Int → Prop) → (Prop) → Prop
  | 0, _, _, _, _, _, _, _, _, _, _ => False
  | n + 1, n_0_l, i_1, i_2, i_11, i_49, xs_m_0_0, xs_m_5_0, k1, k2, k3 => HL45_10b f70_1 (fun (i_49 : Int) => RL45_10b f70_1 n n_0_l i_1 i_2 i_11 i_49 xs_m_0_0 xs_m_5_0 k1 k2 k3) n_0_l i_1 i_2 i_11 i_49 xs_m_0_0 xs_m_5_0 k1 k2 k3
noncomputable def XL45_10b : Code := sub [true, true, false, true, false, false, true, true, false, false, true, true, true, true, true, false, false] (bodyOf Try.prog 45)
theorem HL45_10b_ok (f70_1 : Y70_1) (n : Nat) (n_0_l : Nat) (i_1 : Int) (i_2 : Int) (i_11 : Int) (i_49 : Int) (xs_m_0_0 : List Int) (xs_m_5_0 : List Int) (K : Ex → Env → Mem → Prop) : cround 1 [0, 1, 2, 6, 8, 9, 10, 11, 27, 28, 49] [0, 1, 2, 6, 7, 27, 28] (fun ρ m K => cexec Try.prog (T70_1 f70_1 C0) (fun _ => none) 1 1000 XL45_10b ρ m K) (n + 1) (selE 93 [(0, (.sl 0 (0 : Nat) (some n_0_l) (none : Option Nat))), (1, (.I .i64 i_1)), (2, (.I .i64 i_2)), (6, (.ptr 1 (0 : Nat) 0)), (8, (.I .i64 (3 : Int))), (9, (.ptr 2 (0 : Nat) 0)), (10, (.sl 3 (0 : Nat) (none : Option Nat) (none : Option Nat))), (11, (.I .i64 i_11)), (27, (.agg [(.I .i64 (0 : Int)), .nilf, .nilf, .nilf, (.I .i64 (19 : Int)), (.fn (.func 59) [] []), (.fn (.func 60) [] []), (.fn (.func 61) [] [(.ptr 4 (0 : Nat) 0)]), (.I .i64 (20 : Int)), (.fn (.func 62) [] []), (.fn (.func 63) [] []), (.fn (.func 64) [] [(.ptr 4 (0 : Nat) 0)]), (.I .i64 (22 : Int)), (.fn (.func 65) [] []), (.fn (.func 66) [] []), (.fn (.func 67) [] []), (.I .i64 (23 : Int)), (.fn (.func 68) [] []), (.fn (.func 69) [] []), (.fn (.func 67) [] [])])), (28, (.I .i64 (3 : Int))), (49, (.I .i64 i_49))]) [⟨[.ints .u8 xs_m_0_0], 5, false, false⟩, ⟨[.ints .i64 ([(0 : Int)] : List Int), .ints .i64 ([(0 : Int)] : List Int), .ints .i64 ([(0 : Int)] : List Int), .ints .i64 ([(0 : Int)] : List Int)], 88, false, true⟩, ⟨[.ints .i64 ([(22 : Int)] : List Int), .vals [(.fn (.func 65) [] [])], .vals [(.fn (.func 66) [] [])], .vals [(.fn (.func 67) [] [])]], 83, false, true⟩, ⟨[.ints .i64 ([(3 : Int)] : List Int), .ints .i64 ([(4 : Int)] : List Int), .ints .i64 ([(22 : Int)] : List Int), .strs ([([(120 : Int)] : List Int)] : List (List Int)), .ints .i64 ([(-4 : Int)] : List Int)], 32, false, true⟩, ⟨[.vals [(.sl 5 (0 : Nat) (none : Option Nat) (none : Option Nat))]], 22, false, true⟩, ⟨[.ints .u8 xs_m_5_0], 5, false, true⟩] K =
    HL45_10b f70_1 (fun (i_49 : Int) => cround 1 [0, 1, 2, 6, 8, 9, 10, 11, 27, 28, 49] [0, 1, 2, 6, 7, 27, 28] (fun ρ m K => cexec Try.prog (T70_1 f70_1 C0) (fun _ => none) 1 1000 XL45_10b ρ m K) n (selE 93 [(0, (.sl 0 (0 : Nat) (some n_0_l) (none : Option Nat))), (1, (.I .i64 i_1)), (2, (.I .i64 i_2)), (6, (.ptr 1 (0 : Nat) 0)), (8, (.I .i64 (3 : Int))), (9, (.ptr 2 (0 : Nat) 0)), (10, (.sl 3 (0 : Nat) (none : Option Nat) (none : Option Nat))), (11, (.I .i64 i_11)), (27, (.agg [(.I .i64 (0 : Int)), .nilf, .nilf, .nilf, (.I .i64 (19 : Int)), (.fn (.func 59) [] []), (.fn (.func 60) [] []), (.fn (.func 61) [] [(.ptr 4 (0 : Nat) 0)]), (.I .i64 (20 : Int)), (.fn (.func 62) [] []), (.fn (.func 63) [] []), (.fn (.func 64) [] [(.ptr 4 (0 : Nat) 0)]), (.I .i64 (22 : Int)), (.fn (.func 65) [] []), (.fn (.func 66) [] []), (.fn (.func 67) [] []), (.I .i64 (23 : Int)), (.fn (.func 68) [] []), (.fn (.func 69) [] []), (.fn (.func 67) [] [])])), (28, (.I .i64 (3 : Int))), (49, (.I .i64 i_49))]) [⟨[.ints .u8 xs_m_0_0], 5, false, false⟩, ⟨[.ints .i64 ([(0 : Int)] : List Int), .ints .i64 ([(0 : Int)] : List Int), .ints .i64 ([(0 : Int)] : List Int), .ints .i64 ([(0 : Int)] : List Int)], 88, false, true⟩, ⟨[.ints .i64 ([(22 : Int)] : List Int), .vals [(.fn (.func 65) [] [])], .vals [(.fn (.func 66) [] [])], .vals [(.fn (.func 67) [] [])]], 83, false, true⟩, ⟨[.ints .i64 ([(3 : Int)] : List Int), .ints .i64 ([(4 : Int)] : List Int), .ints .i64 ([(22 : Int)] : List Int), .strs ([([(120 : Int)] : List Int)] : List (List Int)), .ints .i64 ([(-4 : Int)] : List Int)], 32, false, true⟩, ⟨[.vals [(.sl 5 (0 : Nat) (none : Option Nat) (none : Option Nat))]], 22, false, true⟩, ⟨[.ints .u8 xs_m_5_0], 5, false, true⟩] K) n_0_l i_1 i_2 i_11 i_49 xs_m_0_0 xs_m_5_0 (K .ret (selE 93 [(0, (.sl 0 (0 : Nat) (some n_0_l) (none : Option Nat))), (1, (.I .i64 i_1)), (2, (.I .i64 i_2)), (6, (.ptr 1 (0 : Nat) 0)), (7, (.B false)), (27, (.agg [(.I .i64 (0 : Int)), .nilf, .nilf, .nilf, (.I .i64 (19 : Int)), (.fn (.func 59) [] []), (.fn (.func 60) [] []), (.fn (.func 61) [] [(.ptr 2 (0 : Nat) 0)]), (.I .i64 (20 : Int)), (.fn (.func 62) [] []), (.fn (.func 63) [] []), (.fn (.func 64) [] [(.ptr 2 (0 : Nat) 0)]), (.I .i64 (22 : Int)), (.fn (.func 65) [] []), (.fn (.func 66) [] []), (.fn (.func 67) [] []), (.I .i64 (23 : Int)), (.fn (.func 68) [] []), (.fn (.func 69) [] []), (.fn (.func 67) [] [])])), (28, (.I .i64 (3 : Int)))]) [⟨[.ints .u8 xs_m_0_0], 5, false, false⟩, ⟨[.ints .i64 ([(0 : Int)] : List Int), .ints .i64 ([(0 : Int)] : List Int), .ints .i64 ([(0 : Int)] : List Int), .ints .i64 ([(0 : Int)] : List Int)], 88, false, true⟩, ⟨[.vals [(.sl 3 (0 : Nat) (none : Option Nat) (none : Option Nat))]], 22, false, true⟩, ⟨[.ints .u8 xs_m_5_0], 5, false, true⟩]) (fun (u0 : Int) => K .ret (selE 93 [(0, (.sl 0 (0 : Nat) (some n_0_l) (none : Option Nat))), (1, (.I .i64 i_1)), (2, (.I .i64 i_2)), (6, (.ptr 1 (0 : Nat) 0)), (7, (.B true)), (27, (.agg [(.I .i64 (0 : Int)), .nilf, .nilf, .nilf, (.I .i64 (19 : Int)), (.fn (.func 59) [] []), (.fn (.func 60) [] []), (.fn (.func 61) [] [(.ptr 2 (0 : Nat) 0)]), (.I .i64 (20 : Int)), (.fn (.func 62) [] []), (.fn (.func 63) [] []), (.fn (.func 64) [] [(.ptr 2 (0 : Nat) 0)]), (.I .i64 (22 : Int)), (.fn (.func 65) [] []), (.fn (.func 66) [] []), (.fn (.func 67) [] []), (.I .i64 (23 : Int)), (.fn (.func 68) [] []), (.fn (.func 69) [] []), (.fn (.func 67) [] [])])), (28, (.I .i64 (3 : Int)))]) [⟨[.ints .u8 xs_m_0_0], 5, false, false⟩, ⟨[.ints .i64 ([(3 : Int)] : List Int), .ints .i64 ([i_11] : List Int), .ints .i64 ([(7 : Int)] : List Int), .ints .i64 ([u0] : List Int)], 88, false, true⟩, ⟨[.vals [(.sl 3 (0 : Nat) (none : Option Nat) (none : Option Nat))]], 22, false, true⟩, ⟨[.ints .u8 xs_m_5_0], 5, false, true⟩]) (K (.exit 2) (selE 93 [(0, (.sl 0 (0 : Nat) (some n_0_l) (none : Option Nat))), (1, (.I .i64 i_1)), (2, (.I .i64 i_2)), (6, (.ptr 1 (0 : Nat) 0)), (7, .undef), (27, (.agg [(.I .i64 (0 : Int)), .nilf, .nilf, .nilf, (.I .i64 (19 : Int)), (.fn (.func 59) [] []), (.fn (.func 60) [] []), (.fn (.func 61) [] [(.ptr 2 (0 : Nat) 0)]), (.I .i64 (20 : Int)), (.fn (.func 62) [] []), (.fn (.func 63) [] []), (.fn (.func 64) [] [(.ptr 2 (0 : Nat) 0)]), (.I .i64 (22 : Int)), (.fn (.func 65) [] []), (.fn (.func 66) [] []), (.fn (.func 67) [] []), (.I .i64 (23 : Int)), (.fn (.func 68) [] []), (.fn (.func 69) [] []), (.fn (.func 67) [] [])])), (28, (.I .i64 (3 : Int)))]) [⟨[.ints .u8 xs_m_0_0], 5, false, false⟩, ⟨[.ints .i64 ([(0 : Int)] : List Int), .ints .i64 ([(0 : Int)] : List Int), .ints .i64 ([(0 : Int)] : List Int), .ints .i64 ([(0 : Int)] : List Int)], 88, false, true⟩, ⟨[.vals [(.sl 3 (0 : Nat) (none : Option Nat) (none : Option Nat))]], 22, false, true⟩, ⟨[.ints .u8 xs_m_5_0], 5, false, true⟩]) := by kernel_rfl
theorem RL45_10b_ok (f70_1 : Y70_1) (K : Ex → Env → Mem → Prop) : ∀ (n : Nat) (n_0_l : Nat) (i_1 : Int) (i_2 : Int) (i_11 : Int) (i_49 : Int) (xs_m_0_0 : List Int) (xs_m_5_0 : List Int), cround 1 [0, 1, 2, 6, 8, 9, 10, 11, 27, 28, 49] [0, 1, 2, 6, 7, 27, 28] (fun ρ m K => cexec Try.prog (T70_1 f70_1 C0) (fun _ => none) 1 1000 XL45_10b ρ m K) n (selE 93 [(0, (.sl 0 (0 : Nat) (some n_0_l) (none : Option Nat))), (1, (.I .i64 i_1)), (2, (.I .i64 i_2)), (6, (.ptr 1 (0 : Nat) 0)), (8, (.I .i64 (3 : Int))), (9, (.ptr 2 (0 : Nat) 0)), (10, (.sl 3 (0 : Nat) (none : Option Nat) (none : Option Nat))), (11, (.I .i64 i_11)), (27, (.agg [(.I .i64 (0 : Int)), .nilf, .nilf, .nilf, (.I .i64 (19 : Int)), (.fn (.func 59) [] []), (.fn (.func 60) [] []), (.fn (.func 61) [] [(.ptr 4 (0 : Nat) 0)]), (.I .i64 (20 : Int)), (.fn (.func 62) [] []), (.fn (.func 63) [] []), (.fn (.func 64) [] [(.ptr 4 (0 : Nat) 0)]), (.I .i64 (22 : Int)), (.fn (.func 65) [] []), (.fn (.func 66) [] []), (.fn (.func 67) [] []), (.I .i64 (23 : Int)), (.fn (.func 68) [] []), (.fn (.func 69) [] []), (.fn (.func 67) [] [])])), (28, (.I .i64 (3 : Int))), (49, (.I .i64 i_49))]) [⟨[.ints .u8 xs_m_0_0], 5, false, false⟩, ⟨[.ints .i64 ([(0 : Int)] : List Int), .ints .i64 ([(0 : Int)] : List Int), .ints .i64 ([(0 : Int)] : List Int), .ints .i64 ([(0 : Int)] : List Int)], 88, false, true⟩, ⟨[.ints .i64 ([(22 : Int)] : List Int), .vals [(.fn (.func 65) [] [])], .vals [(.fn (.func 66) [] [])], .vals [(.fn (.func 67) [] [])]], 83, false, true⟩, ⟨[.ints .i64 ([(3 : Int)] : List Int), .ints .i64 ([(4 : Int)] : List Int), .ints .i64 ([(22 : Int)] : List Int), .strs ([([(120 : Int)] : List Int)] : List (List Int)), .ints .i64 ([(-4 : Int)] : List Int)], 32, false, true⟩, ⟨[.vals [(.sl 5 (0 : Nat) (none : Option Nat) (none : Option Nat))]], 22, false, true⟩, ⟨[.ints .u8 xs_m_5_0], 5, false, true⟩] K = RL45_10b f70_1 n n_0_l i_1 i_2 i_11 i_49 xs_m_0_0 xs_m_5_0 (K .ret (selE 93 [(0, (.sl 0 (0 : Nat) (some n_0_l) (none : Option Nat))), (1, (.I .i64 i_1)), (2, (.I .i64 i_2)), (6, (.ptr 1 (0 : Nat) 0)), (7, (.B false)), (27, (.agg [(.I .i64 (0 : Int)), .nilf, .nilf, .nilf, (.I .i64 (19 : Int)), (.fn (.func 59) [] []), (.fn (.func 60) [] []), (.fn (.func 61) [] [(.ptr 2 (0 : Nat) 0)]), (.I .i64 (20 : Int)), (.fn (.func 62) [] []), (.fn (.func 63) [] []), (.fn (.func 64) [] [(.ptr 2 (0 : Nat) 0)]), (.I .i64 (22 : Int)), (.fn (.func 65) [] []), (.fn (.func 66) [] []), (.fn (.func 67) [] []), (.I .i64 (23 : Int)), (.fn (.func 68) [] []), (.fn (.func 69) [] []), (.fn (.func 67) [] [])])), (28, (.I .i64 (3 : Int)))]) [⟨[.ints .u8 xs_m_0_0], 5, false, false⟩, ⟨[.ints .i64 ([(0 : Int)] : List Int), .ints .i64 ([(0 : Int)] : List Int), .ints .i64 ([(0 : Int)] : List Int), .ints .i64 ([(0 : Int)] : List Int)], 88, false, true⟩, ⟨[.vals [(.sl 3 (0 : Nat) (none : Option Nat) (none : Option Nat))]], 22, false, true⟩, ⟨[.ints .u8 xs_m_5_0], 5, false, true⟩]) (fun (u0 : Int) => K .ret (selE 93 [(0, (.sl 0 (0 : Nat) (some n_0_l) (none : Option Nat))), (1, (.I .i64 i_1)), (2, (.I .i64 i_2)), (6, (.ptr 1 (0 : Nat) 0)), (7, (.B true)), (27, (.agg [(.I .i64 (0 : Int)), .nilf, .nilf, .nilf, (.I .i64 (19 : Int)), (.fn (.func 59) [] []), (.fn (.func 60) [] []), (.fn (.func 61) [] [(.ptr 2 (0 : Nat) 0)]), (.I .i64 (20 : Int)), (.fn (.func 62) [] []), (.fn (.func 63) [] []), (.fn (.func 64) [] [(.ptr 2 (0 : Nat) 0)]), (.I .i64 (22 : Int)), (.fn (.func 65) [] []), (.fn (.func 66) [] []), (.fn (.func 67) [] []), (.I .i64 (23 : Int)), (.fn (.func 68) [] []), (.fn (.func 69) [] []), (.fn (.func 67) [] [])])), (28, (.I .i64 (3 : Int)))]) [⟨[.ints .u8 xs_m_0_0], 5, false, false⟩, ⟨[.ints .i64 ([(3 : Int)] : List Int), .ints .i64 ([i_11] : List Int), .ints .i64 ([(7 : Int)] : List Int), .ints .i64 ([u0] : List Int)], 88, false, true⟩, ⟨[.vals [(.sl 3 (0 : Nat) (none : Option Nat) (none : Option Nat))]], 22, false, true⟩, ⟨[.ints .u8 xs_m_5_0], 5, false, true⟩]) (K (.exit 2) (selE 93 [(0, (.sl 0 (0 : Nat) (some n_0_l) (none : Option Nat))), (1, (.I .i64 i_1)), (2, (.I .i64 i_2)), (6, (.ptr 1 (0 : Nat) 0)), (7, .undef), (27, (.agg [(.I .i64 (0 : Int)), .nilf, .nilf, .nilf, (.I .i64 (19 : Int)), (.fn (.func 59) [] []), (.fn (.func 60) [] []), (.fn (.func 61) [] [(.ptr 2 (0 : Nat) 0)]), (.I .i64 (20 : Int)), (.fn (.func 62) [] []), (.fn (.func 63) [] []), (.fn (.func 64) [] [(.ptr 2 (0 : Nat) 0)]), (.I .i64 (22 : Int)), (.fn (.func 65) [] []), (.fn (.func 66) [] []), (.fn (.func 67) [] []), (.I .i64 (23 : Int)), (.fn (.func 68) [] []), (.fn (.func 69) [] []), (.fn (.func 67) [] [])])), (28, (.I .i64 (3 : Int)))]) [⟨[.ints .u8 xs_m_0_0], 5, false, false⟩, ⟨[.ints .i64 ([(0 : Int)] : List Int), .ints .i64 ([(0 : Int)] : List Int), .ints .i64 ([(0 : Int)] : List Int), .ints .i64 ([(0 : Int)] : List Int)], 88, false, true⟩, ⟨[.vals [(.sl 3 (0 : Nat) (none : Option Nat) (none : Option Nat))]], 22, false, true⟩, ⟨[.ints .u8 xs_m_5_0], 5, false, true⟩])
  | 0, n_0_l, i_1, i_2, i_11, i_49, xs_m_0_0, xs_m_5_0 => rfl
  | n + 1, n_0_l, i_1, i_2, i_11, i_49, xs_m_0_0, xs_m_5_0 => by
    have ih := RL45_10b_ok f70_1 K n
    rw [HL45_10b_ok f70_1 n n_0_l i_1 i_2 i_11 i_49 xs_m_0_0 xs_m_5_0 K]
    show HL45_10b f70_1 _ n_0_l i_1 i_2 i_11 i_49 xs_m_0_0 xs_m_5_0 (K .ret (selE 93 [(0, (.sl 0 (0 : Nat) (some n_0_l) (none : Option Nat))), (1, (.I .i64 i_1)), (2, (.I .i64 i_2)), (6, (.ptr 1 (0 : Nat) 0)), (7, (.B false)), (27, (.agg [(.I .i64 (0 : Int)), .nilf, .nilf, .nilf, (.I .i64 (19 : Int)), (.fn (.func 59) [] []), (.fn (.func 60) [] []), (.fn (.func 61) [] [(.ptr 2 (0 : Nat) 0)]), (.I .i64 (20 : Int)), (.fn (.func 62) [] []), (.fn (.func 63) [] []), (.fn (.func 64) [] [(.ptr 2 (0 : Nat) 0)]), (.I .i64 (22 : Int)), (.fn (.func 65) [] []), (.fn (.func 66) [] []), (.fn (.func 67) [] []), (.I .i64 (23 : Int)), (.fn (.func 68) [] []), (.fn (.func 69) [] []), (.fn (.func 67) [] [])])), (28, (.I .i64 (3 : Int)))]) [⟨[.ints .u8 xs_m_0_0], 5, false, false⟩, ⟨[.ints .i64 ([(0 : Int)] : List Int), .ints .i64 ([(0 : Int)] : List Int), .ints .i64 ([(0 : Int)] : List Int), .ints .i64 ([(0 : Int)] : List Int)], 88, false, true⟩, ⟨[.vals [(.sl 3 (0 : Nat) (none : Option Nat) (none : Option Nat))]], 22, false, true⟩, ⟨[.ints .u8 xs_m_5_0], 5, false, true⟩]) (fun (u0 : Int) => K .ret (selE 93 [(0, (.sl 0 (0 : Nat) (some n_0_l) (none : Option Nat))), (1, (.I .i64 i_1)), (2, (.I .i64 i_2)), (6, (.ptr 1 (0 : Nat) 0)), (7, (.B true)), (27, (.agg [(.I .i64 (0 : Int)), .nilf, .nilf, .nilf, (.I .i64 (19 : Int)), (.fn (.func 59) [] []), (.fn (.func 60) [] []), (.fn (.func 61) [] [(.ptr 2 (0 : Nat) 0)]), (.I .i64 (20 : Int)), (.fn (.func 62) [] []), (.fn (.func 63) [] []), (.fn (.func 64) [] [(.ptr 2 (0 : Nat) 0)]), (.I .i64 (22 : Int)), (.fn (.func 65) [] []), (.fn (.func 66) [] []), (.fn (.func 67) [] []), (.I .i64 (23 : Int)), (.fn (.func 68) [] []), (.fn (.func 69) [] []), (.fn (.func 67) [] [])])), (28, (.I .i64 (3 : Int)))]) [⟨[.ints .u8 xs_m_0_0], 5, false, false⟩, ⟨[.ints .i64 ([(3 : Int)] : List Int), .ints .i64 ([i_11] : List Int), .ints .i64 ([(7 : Int)] : List Int), .ints .i64 ([u0] : List Int)], 88, false, true⟩, ⟨[.vals [(.sl 3 (0 : Nat) (none : Option Nat) (none : Option Nat))]], 22, false, true⟩, ⟨[.ints .u8 xs_m_5_0], 5, false, true⟩]) (K (.exit 2) (selE 93 [(0, (.sl 0 (0 : Nat) (some n_0_l) (none : Option Nat))), (1, (.I .i64 i_1)), (2, (.I .i64 i_2)), (6, (.ptr 1 (0 : Nat) 0)), (7, .undef), (27, (.agg [(.I .i64 (0 : Int)), .nilf, .nilf, .nilf, (.I .i64 (19 : Int)), (.fn (.func 59) [] []), (.fn (.func 60) [] []), (.fn (.func 61) [] [(.ptr 2 (0 : Nat) 0)]), (.I .i64 (20 : Int)), (.fn (.func 62) [] []), (.fn (.func 63) [] []), (.fn (.func 64) [] [(.ptr 2 (0 : Nat) 0)]), (.I .i64 (22 : Int)), (.fn (.func 65) [] []), (.fn (.func 66) [] []), (.fn (.func 67) [] []), (.I .i64 (23 : Int)), (.fn (.func 68) [] []), (.fn (.func 69) [] []), (.fn (.func 67) [] [])])), (28, (.I .i64 (3 : Int)))]) [⟨[.ints .u8 xs_m_0_0], 5, false, false⟩, ⟨[.ints .i64 ([(0 : Int)] : List Int), .ints .i64 ([(0 : Int)] : List Int), .ints .i64 ([(0 : Int)] : List Int), .ints .i64 ([(0 : Int)] : List Int)], 88, false, true⟩, ⟨[.vals [(.sl 3 (0 : Nat) (none : Option Nat) (none : Option Nat))]], 22, false, true⟩, ⟨[.ints .u8 xs_m_5_0], 5, false, true⟩]) = HL45_10b f70_1 _ n_0_l i_1 i_2 i_11 i_49 xs_m_0_0 xs_m_5_0 (K .ret (selE 93 [(0, (.sl 0 (0 : Nat) (some n_0_l) (none : Option Nat))), (1, (.I .i64 i_1)), (2, (.I .i64 i_2)), (6, (.ptr 1 (0 : Nat) 0)), (7, (.B false)), (27, (.agg [(.I .i64 (0 : Int)), .nilf, .nilf, .nilf, (.I .i64 (19 : Int)), (.fn (.func 59) [] []), (.fn (.func 60) [] []), (.fn (.func 61) [] [(.ptr 2 (0 : Nat) 0)]), (.I .i64 (20 : Int)), (.fn (.func 62) [] []), (.fn (.func 63) [] []), (.fn (.func 64) [] [(.ptr 2 (0 : Nat) 0)]), (.I .i64 (22 : Int)), (.fn (.func 65) [] []), (.fn (.func 66) [] []), (.fn (.func 67) [] []), (.I .i64 (23 : Int)), (.fn (.func 68) [] []), (.fn (.func 69) [] []), (.fn (.func 67) [] [])])), (28, (.I .i64 (3 : Int)))]) [⟨[.ints .u8 xs_m_0_0], 5, false, false⟩, ⟨[.ints .i64 ([(0 : Int)] : List Int), .ints .i64 ([(0 : Int)] : List Int), .ints .i64 ([(0 : Int)] : List Int), .ints .i64 ([(0 : Int)] : List Int)], 88, false, true⟩, ⟨[.vals [(.sl 3 (0 : Nat) (none : Option Nat) (none : Option Nat))]], 22, false, true⟩, ⟨[.ints .u8 xs_m_5_0], 5, false, true⟩]) (fun (u0 : Int) => K .ret (selE 93 [(0, (.sl 0 (0 : Nat) (some n_0_l) (none : Option Nat))), (1, (.I .i64 i_1)), (2, (.I .i64 i_2)), (6, (.ptr 1 (0 : Nat) 0)), (7, (.B true)), (27, (.agg [(.I .i64 (0 : Int)), .nilf, .nilf, .nilf, (.I .i64 (19 : Int)), (.fn (.func 59) [] []), (.fn (.func 60) [] []), (.fn (.func 61) [] [(.ptr 2 (0 : Nat) 0)]), (.I .i64 (20 : Int)), (.fn (.func 62) [] []), (.fn (.func 63) [] []), (.fn (.func 64) [] [(.ptr 2 (0 : Nat) 0)]), (.I .i64 (22 : Int)), (.fn (.func 65) [] []), (.fn (.func 66) [] []), (.fn (.func 67) [] []), (.I .i64 (23 : Int)), (.fn (.func 68) [] []), (.fn (.func 69) [] []), (.fn (.func 67) [] [])])), (28, (.I .i64 (3 : Int)))]) [⟨[.ints .u8 xs_m_0_0], 5, false, false⟩, ⟨[.ints .i64 ([(3 : Int)] : List Int), .ints .i64 ([i_11] : List Int), .ints .i64 ([(7 : Int)] : List Int), .ints .i64 ([u0] : List Int)], 88, false, true⟩, ⟨[.vals [(.sl 3 (0 : Nat) (none : Option Nat) (none : Option Nat))]], 22, false, true⟩, ⟨[.ints .u8 xs_m_5_0], 5, false, true⟩]) (K (.exit 2) (selE 93 [(0, (.sl 0 (0 : Nat) (some n_0_l) (none : Option Nat))), (1, (.I .i64 i_1)), (2, (.I .i64 i_2)), (6, (.ptr 1 (0 : Nat) 0)), (7, .undef), (27, (.agg [(.I .i64 (0 : Int)), .nilf, .nilf, .nilf, (.I .i64 (19 : Int)), (.fn (.func 59) [] []), (.fn (.func 60) [] []), (.fn (.func 61) [] [(.ptr 2 (0 : Nat) 0)]), (.I .i64 (20 : Int)), (.fn (.func 62) [] []), (.fn (.func 63) [] []), (.fn (.func 64) [] [(.ptr 2 (0 : Nat) 0)]), (.I .i64 (22 : Int)), (.fn (.func 65) [] []), (.fn (.func 66) [] []), (.fn (.func 67) [] []), (.I .i64 (23 : Int)), (.fn (.func 68) [] []), (.fn (.func 69) [] []), (.fn (.func 67) [] [])])), (28, (.I .i64 (3 : Int)))]) [⟨[.ints .u8 xs_m_0_0], 5, false, false⟩, ⟨[.ints .i64 ([(0 : Int)] : List Int), .ints .i64 ([(0 : Int)] : List Int), .ints .i64 ([(0 : Int)] : List Int), .ints .i64 ([(0 : Int)] : List Int)], 88, false, true⟩, ⟨[.vals [(.sl 3 (0 : Nat) (none : Option Nat) (none : Option Nat))]], 22, false, true⟩, ⟨[.ints .u8 xs_m_5_0], 5, false, true⟩])
    refine congrArg (fun r => HL45_10b f70_1 r n_0_l i_1 i_2 i_11 i_49 xs_m_0_0 xs_m_5_0 (K .ret (selE 93 [(0, (.sl 0 (0 : Nat) (some n_0_l) (none : Option Nat))), (1, (.I .i64 i_1)), (2, (.I .i64 i_2)), (6, (.ptr 1 (0 : Nat) 0)), (7, (.B false)), (27, (.agg [(.I .i64 (0 : Int)), .nilf, .nilf, .nilf, (.I .i64 (19 : Int)), (.fn (.func 59) [] []), (.fn (.func 60) [] []), (.fn (.func 61) [] [(.ptr 2 (0 : Nat) 0)]), (.I .i64 (20 : Int)), (.fn (.func 62) [] []), (.fn (.func 63) [] []), (.fn (.func 64) [] [(.ptr 2 (0 : Nat) 0)]), (.I .i64 (22 : Int)), (.fn (.func 65) [] []), (.fn (.func 66) [] []), (.fn (.func 67) [] []), (.I .i64 (23 : Int)), (.fn (.func 68) [] []), (.fn (.func 69) [] []), (.fn (.func 67) [] [])])), (28, (.I .i64 (3 : Int)))]) [⟨[.ints .u8 xs_m_0_0], 5, false, false⟩, ⟨[.ints .i64 ([(0 : Int)] : List Int), .ints .i64 ([(0 : Int)] : List Int), .ints .i64 ([(0 : Int)] : List Int), .ints .i64 ([(0 : Int)] : List Int)], 88, false, true⟩, ⟨[.vals [(.sl 3 (0 : Nat) (none : Option Nat) (none : Option Nat))]], 22, false, true⟩, ⟨[.ints .u8 xs_m_5_0], 5, false, true⟩]) (fun (u0 : Int) => K .ret (selE 93 [(0, (.sl 0 (0 : Nat) (some n_0_l) (none : Option Nat))), (1, (.I .i64 i_1)), (2, (.I .i64 i_2)), (6, (.ptr 1 (0 : Nat) 0)), (7, (.B true)), (27, (.agg [(.I .i64 (0 : Int)), .nilf, .nilf, .nilf, (.I .i64 (19 : Int)), (.fn (.func 59) [] []), (.fn (.func 60) [] []), (.fn (.func 61) [] [(.ptr 2 (0 : Nat) 0)]), (.I .i64 (20 : Int)), (.fn (.func 62) [] []), (.fn (.func 63) [] []), (.fn (.func 64) [] [(.ptr 2 (0 : Nat) 0)]), (.I .i64 (22 : Int)), (.fn (.func 65) [] []), (.fn (.func 66) [] []), (.fn (.func 67) [] []), (.I .i64 (23 : Int)), (.fn (.func 68) [] []), (.fn (.func 69) [] []), (.fn (.func 67) [] [])])), (28, (.I .i64 (3 : Int)))]) [⟨[.ints .u8 xs_m_0_0], 5, false, false⟩, ⟨[.ints .i64 ([(3 : Int)] : List Int), .ints .i64 ([i_11] : List Int), .ints .i64 ([(7 : Int)] : List Int), .ints .i64 ([u0] : List Int)], 88, false, true⟩, ⟨[.vals [(.sl 3 (0 : Nat) (none : Option Nat) (none : Option Nat))]], 22, false, true⟩, ⟨[.ints .u8 xs_m_5_0], 5, false, true⟩]) (K (.exit 2) (selE 93 [(0, (.sl 0 (0 : Nat) (some n_0_l) (none : Option Nat))), (1, (.I .i64 i_1)), (2, (.I .i64 i_2)), (6, (.ptr 1 (0 : Nat) 0)), (7, .undef), (27, (.agg [(.I .i64 (0 : Int)), .nilf, .nilf, .nilf, (.I .i64 (19 : Int)), (.fn (.func 59) [] []), (.fn (.func 60) [] []), (.fn (.func 61) [] [(.ptr 2 (0 : Nat) 0)]), (.I .i64 (20 : Int)), (.fn (.func 62) [] []), (.fn (.func 63) [] []), (.fn (.func 64) [] [(.ptr 2 (0 : Nat) 0)]), (.I .i64 (22 : Int)), (.fn (.func 65) [] []), (.fn (.func 66) [] []), (.fn (.func 67) [] []), (.I .i64 (23 : Int)), (.fn (.func 68) [] []), (.fn (.func 69) [] []), (.fn (.func 67) [] [])])), (28, (.I .i64 (3 : Int)))]) [⟨[.ints .u8 xs_m_0_0], 5, false, false⟩, ⟨[.ints .i64 ([(0 : Int)] : List Int), .ints .i64 ([(0 : Int)] : List Int), .ints .i64 ([(0 : Int)] : List Int), .ints .i64 ([(0 : Int)] : List Int)], 88, false, true⟩, ⟨[.vals [(.sl 3 (0 : Nat) (none : Option Nat) (none : Option Nat))]], 22, false, true⟩, ⟨[.ints .u8 xs_m_5_0], 5, false, true⟩])) ?_
    funext i_49
    exact ih n_0_l i_1 i_2 i_11 i_49 xs_m_0_0 xs_m_5_0
def GL45_10b : YL45_10b := fun x n_0_l i_1 i_2 i_11 i_49 xs_m_0_0 xs_m_5_0 k1 k2 k3 => x = XL45_10b ∧ ∃ n, RL45_10b G70_1 n n_0_l i_1 i_2 i_11 i_49 xs_m_0_0 xs_m_5_0 k1 k2 k3
def VL45_10b (l : YL45_10b) (F : Prop) (x : Code) (ρ : Env) (m : Mem) (K : Ex → Env → Mem → Prop) : Prop :=
  match ρ.has (93 - 1) with
  | true => (seeSl 0 (ρ.get 0) F fun r2 l3 c4 => (seeN 0 r2 F (seeO l3 F fun n_0_l => (seeNo c4 F (seeI .i64 (ρ.get 1) F fun i_1 => (seeI .i64 (ρ.get 2) F fun i_2 => (seeV (.ptr 1 (0 : Nat) 0) (ρ.get 6) F (seeV (.I .i64 (3 : Int)) (ρ.get 8) F (seeV (.ptr 2 (0 : Nat) 0) (ρ.get 9) F (seeV (.sl 3 (0 : Nat) (none : Option Nat) (none : Option Nat)) (ρ.get 10) F (seeI .i64 (ρ.get 11) F fun i_11 => (seeV (.agg [(.I .i64 (0 : Int)), .nilf, .nilf, .nilf, (.I .i64 (19 : Int)), (.fn (.func 59) [] []), (.fn (.func 60) [] []), (.fn (.func 61) [] [(.ptr 4 (0 : Nat) 0)]), (.I .i64 (20 : Int)), (.fn (.func 62) [] []), (.fn (.func 63) [] []), (.fn (.func 64) [] [(.ptr 4 (0 : Nat) 0)]), (.I .i64 (22 : Int)), (.fn (.func 65) [] []), (.fn (.func 66) [] []), (.fn (.func 67) [] []), (.I .i64 (23 : Int)), (.fn (.func 68) [] []), (.fn (.func 69) [] []), (.fn (.func 67) [] [])]) (ρ.get 27) F (seeV (.I .i64 (3 : Int)) (ρ.get 28) F (seeI .i64 (ρ.get 49) F fun i_49 => (seeCons m F fun a15 q16 => (seeBlk 5 false false a15 F fun cs17 => (seeCons cs17 F fun a18 q19 => (seeInts .u8 a18 F fun xs_m_0_0 => (seeNil q19 F (seeCons q16 F fun a20 q21 => (seeBlk 88 false true a20 F fun cs22 => (seeCons cs22 F fun a23 q24 => (seeInts .i64 a23 F fun xs25 => (seeX ([(0 : Int)] : List Int) xs25 F (seeCons q24 F fun a26 q27 => (seeInts .i64 a26 F fun xs28 => (seeX ([(0 : Int)] : List Int) xs28 F (seeCons q27 F fun a29 q30 => (seeInts .i64 a29 F fun xs31 => (seeX ([(0 : Int)] : List Int) xs31 F (seeCons q30 F fun a32 q33 => (seeInts .i64 a32 F fun xs34 => (seeX ([(0 : Int)] : List Int) xs34 F (seeNil q33 F (seeCons q21 F fun a35 q36 => (seeBlk 83 false true a35 F fun cs37 => (seeCons cs37 F fun a38 q39 => (seeInts .i64 a38 F fun xs40 => (seeX ([(22 : Int)] : List Int) xs40 F (seeCons q39 F fun a41 q42 => (seeVals a41 F fun xs43 => (seeCons xs43 F fun a44 q45 => (seeV (.fn (.func 65) [] []) a44 F (seeNil q45 F (seeCons q42 F fun a46 q47 => (seeVals a46 F fun xs48 => (seeCons xs48 F fun a49 q50 => (seeV (.fn (.func 66) [] []) a49 F (seeNil q50 F (seeCons q47 F fun a51 q52 => (seeVals a51 F fun xs53 => (seeCons xs53 F fun a54 q55 => (seeV (.fn (.func 67) [] []) a54 F (seeNil q55 F (seeNil q52 F (seeCons q36 F fun a56 q57 => (seeBlk 32 false true a56 F fun cs58 => (seeCons cs58 F fun a59 q60 => (seeInts .i64 a59 F fun xs61 => (seeX ([(3 : Int)] : List Int) xs61 F (seeCons q60 F fun a62 q63 => (seeInts .i64 a62 F fun xs64 => (seeX ([(4 : Int)] : List Int) xs64 F (seeCons q63 F fun a65 q66 => (seeInts .i64 a65 F fun xs67 => (seeX ([(22 : Int)] : List Int) xs67 F (seeCons q66 F fun a68 q69 => (seeStrs a68 F fun xs70 => (seeCons xs70 F fun a71 q72 => (seeX ([(120 : Int)] : List Int) a71 F (seeNil q72 F (seeCons q69 F fun a73 q74 => (seeInts .i64 a73 F fun xs75 => (seeX ([(-4 : Int)] : List Int) xs75 F (seeNil q74 F (seeCons q57 F fun a76 q77 => (seeBlk 22 false true a76 F fun cs78 => (seeCons cs78 F fun a79 q80 => (seeVals a79 F fun xs81 => (seeCons xs81 F fun a82 q83 => (seeV (.sl 5 (0 : Nat) (none : Option Nat) (none : Option Nat)) a82 F (seeNil q83 F (seeNil q80 F (seeCons q77 F fun a84 q85 => (seeBlk 5 false true a84 F fun cs86 => (seeCons cs86 F fun a87 q88 => (seeInts .u8 a87 F fun xs_m_5_0 => (seeNil q88 F (seeNil q85 F (l x n_0_l i_1 i_2 i_11 i_49 xs_m_0_0 xs_m_5_0 (K .ret (selE 93 [(0, (.sl 0 (0 : Nat) (some n_0_l) (none : Option Nat))), (1, (.I .i64 i_1)), (2, (.I .i64 i_2)), (6, (.ptr 1 (0 : Nat) 0)), (7, (.B false)), (27, (.agg [(.I .i64 (0 : Int)), .nilf, .nilf, .nilf, (.I .i64 (19 : Int)), (.fn (.func 59) [] []), (.fn (.func 60) [] []), (.fn (.func 61) [] [(.ptr 2 (0 : Nat) 0)]), (.I .i64 (20 : Int)), (.fn (.func 62) [] []), (.fn (.func 63) [] []), (.fn (.func 64) [] [(.ptr 2 (0 : Nat) 0)]), (.I .i64 (22 : Int)), (.fn (.func 65) [] []), (.fn (.func 66) [] []), (.fn (.func 67) [] []), (.I .i64 (23 : Int)), (.fn (.func 68) [] []), (.fn (.func 69) [] []), (.fn (.func 67) [] [])])), (28, (.I .i64 (3 : Int)))]) [⟨[.ints .u8 xs_m_0_0], 5, false, false⟩, ⟨[.ints .i64 ([(0 : Int)] : List Int), .ints .i64 ([(0 : Int)] : List Int), .ints .i64 ([(0 : Int)] : List Int), .ints .i64 ([(0 : Int)] : List Int)], 88, false, true⟩, ⟨[.vals [(.sl 3 (0 : Nat) (none : Option Nat) (none : Option Nat))]], 22, false, true⟩, ⟨[.ints .u8 xs_m_5_0], 5, false, true⟩]) (fun (u0 : Int) => K .ret (selE 93 [(0, (.sl 0 (0 : Nat) (some n_0_l) (none : Option Nat))), (1, (.I .i64 i_1)), (2, (.I .i64 i_2)), (6, (.ptr 1 (0 : Nat) 0)), (7, (.B true)), (27, (.agg [(.I .i64 (0 : Int)), .nilf, .nilf, .nilf, (.I .i64 (19 : Int)), (.fn (.func 59) [] []), (.fn (.func 60) [] []), (.fn (.func 61) [] [(.ptr 2 (0 : Nat) 0)]), (.I .i64 (20 : Int)), (.fn (.func 62) [] []), (.fn (.func 63) [] []), (.fn (.func 64) [] [(.ptr 2 (0 : Nat) 0)]), (.I .i64 (22 : Int)), (.fn (.func 65) [] []), (.fn (.func 66) [] []), (.fn (.func 67) [] []), (.I .i64 (23 : Int)), (.fn (.func 68) [] []), (.fn (.func 69) [] []), (.fn (.func 67) [] [])])), (28, (.I .i64 (3 : Int)))]) [⟨[.ints .u8 xs_m_0_0], 5, false, false⟩, ⟨[.ints .i64 ([(3 : Int)] : List Int), .ints .i64 ([i_11] : List Int), .ints .i64 ([(7 : Int)] : List Int), .ints .i64 ([u0] : List Int)], 88, false, true⟩, ⟨[.vals [(.sl 3 (0 : Nat) (none : Option Nat) (none : Option Nat))]], 22, false, true⟩, ⟨[.ints .u8 xs_m_5_0], 5, false, true⟩]) (K (.exit 2) (selE 93 [(0, (.sl 0 (0 : Nat) (some n_0_l) (none : Option Nat))), (1, (.I .i64 i_1)), (2, (.I .i64 i_2)), (6, (.ptr 1 (0 : Nat) 0)), (7, .undef), (27, (.agg [(.I .i64 (0 : Int)), .nilf, .nilf, .nilf, (.I .i64 (19 : Int)), (.fn (.func 59) [] []), (.fn (.func 60) [] []), (.fn (.func 61) [] [(.ptr 2 (0 : Nat) 0)]), (.I .i64 (20 : Int)), (.fn (.func 62) [] []), (.fn (.func 63) [] []), (.fn (.func 64) [] [(.ptr 2 (0 : Nat) 0)]), (.I .i64 (22 : Int)), (.fn (.func 65) [] []), (.fn (.func 66) [] []), (.fn (.func 67) [] []), (.I .i64 (23 : Int)), (.fn (.func 68) [] []), (.fn (.func 69) [] []), (.fn (.func 67) [] [])])), (28, (.I .i64 (3 : Int)))]) [⟨[.ints .u8 xs_m_0_0], 5, false, false⟩, ⟨[.ints .i64 ([(0 : Int)] : List Int), .ints .i64 ([(0 : Int)] : List Int), .ints .i64 ([(0 : Int)] : List Int), .ints .i64 ([(0 : Int)] : List Int)], 88, false, true⟩, ⟨[.vals [(.sl 3 (0 : Nat) (none : Option Nat) (none : Option Nat))]], 22, false, true⟩, ⟨[.ints .u8 xs_m_5_0], 5, false, true⟩])))))))))))))))))))))))))))))))))))))))))))))))))))))))))))))))))))))))))))))))))))))))))))
  | false => False
def WL45_10b (l : YL45_10b) (W : Masks) : Masks := fun r =>
  match Nat.beq r 10 with
  | true => some fun x ρ m K => VL45_10b l (match W r with | some lf => lf x ρ m K | none => False) x (tidyE 1 [0, 1, 2, 6, 8, 9, 10, 11, 27, 28, 49] ρ m) (tidyM 1 [0, 1, 2, 6, 8, 9, 10, 11, 27, 28, 49] ρ m) K
  | false => W r
set_option maxRecDepth 100000 in
theorem WL45_10b_ok {W : Masks} (hW : LoopsOk Try.prog 1 W) : LoopsOk Try.prog 1 (WL45_10b GL45_10b W) := by
  intro r lf h
  unfold WL45_10b at h
  split at h
  · cases h
    intro x E0 m0 w0 ds hS0 ha ρ m K E a w Q hS hρ hd h hQ
    have fb : (match W r with | some lf => lf x ρ m K | none => False) → (Code.loop x).wp Try.prog Q a w := fun h => by
      split at h
      · rename_i lf hlf
        exact hW r lf hlf x hS0 ha ρ m K E a w Q hS hρ hd h hQ
      · cases h
    obtain ⟨E2, hS2, hρ2⟩ := tidy_rel hS0 hS hρ [0, 1, 2, 6, 8, 9, 10, 11, 27, 28, 49]
    rw [ha] at hS2 hρ2
    unfold VL45_10b at h
    split at h
    · rename_i hlen
      replace h := seeSl_use h
      rcases h with h | ⟨r2, l3, c4, e1, h⟩
      · exact fb h
      replace h := seeN_use h
      rcases h with h | ⟨rfl, h⟩
      · exact fb h
      replace h := seeO_use h
      rcases h with h | ⟨n_0_l, rfl, h⟩
      · exact fb h
      replace h := seeNo_use h
      rcases h with h | ⟨rfl, h⟩
      · exact fb h
      replace h := seeI_use h
      rcases h with h | ⟨i_1, e5, h⟩
      · exact fb h
      replace h := seeI_use h
      rcases h with h | ⟨i_2, e6, h⟩
      · exact fb h
      replace h := seeV_use h
      rcases h with h | ⟨e7, h⟩
      · exact fb h
      replace h := seeV_use h
      rcases h with h | ⟨e8, h⟩
      · exact fb h
      replace h := seeV_use h
      rcases h with h | ⟨e9, h⟩
      · exact fb h
      replace h := seeV_use h
      rcases h with h | ⟨e10, h⟩
      · exact fb h
      replace h := seeI_use h
      rcases h with h | ⟨i_11, e11, h⟩
      · exact fb h
      replace h := seeV_use h
      rcases h with h | ⟨e12, h⟩
      · exact fb h
      replace h := seeV_use h
      rcases h with h | ⟨e13, h⟩
      · exact fb h
      replace h := seeI_use h
      rcases h with h | ⟨i_49, e14, h⟩
      · exact fb h
      replace h := seeCons_use h
      rcases h with h | ⟨a15, q16, eqm, h⟩
      · exact fb h
      replace h := seeBlk_use h
      rcases h with h | ⟨cs17, rfl, h⟩
      · exact fb h
      replace h := seeCons_use h
      rcases h with h | ⟨a18, q19, rfl, h⟩
      · exact fb h
      replace h := seeInts_use h
      rcases h with h | ⟨xs_m_0_0, rfl, h⟩
      · exact fb h
      replace h := seeNil_use h
      rcases h with h | ⟨rfl, h⟩
      · exact fb h
      replace h := seeCons_use h
      rcases h with h | ⟨a20, q21, rfl, h⟩
      · exact fb h
      replace h := seeBlk_use h
      rcases h with h | ⟨cs22, rfl, h⟩
      · exact fb h
      replace h := seeCons_use h
      rcases h with h | ⟨a23, q24, rfl, h⟩
      · exact fb h
      replace h := seeInts_use h
      rcases h with h | ⟨xs25, rfl, h⟩
      · exact fb h
      replace h := seeX_use h
      rcases h with h | ⟨rfl, h⟩
      · exact fb h
      replace h := seeCons_use h
      rcases h with h | ⟨a26, q27, rfl, h⟩
      · exact fb h
      replace h := seeInts_use h
      rcases h with h | ⟨xs28, rfl, h⟩
      · exact fb h
      replace h := seeX_use h
      rcases h with h | ⟨rfl, h⟩
      · exact fb h
      replace h := seeCons_use h
      rcases h with h | ⟨a29, q30, rfl, h⟩
      · exact fb h
      replace h := seeInts_use h
      rcases h with h | ⟨xs31, rfl, h⟩
      · exact fb h
      replace h := seeX_use h
      rcases h with h | ⟨rfl, h⟩
      · exact fb h
      replace h := seeCons_use h
      rcases h with h | ⟨a32, q33, rfl, h⟩
      · exact fb h
      replace h := seeInts_use h
      rcases h with h | ⟨xs34, rfl, h⟩
      · exact fb h
      replace h := seeX_use h
      rcases h with h | ⟨rfl, h⟩
      · exact fb h
      replace h := seeNil_use h
      rcases h with h | ⟨rfl, h⟩
      · exact fb h
      replace h := seeCons_use h
      rcases h with h | ⟨a35, q36, rfl, h⟩
      · exact fb h
      replace h := seeBlk_use h
      rcases h with h | ⟨cs37, rfl, h⟩
      · exact fb h
      replace h := seeCons_use h
      rcases h with h | ⟨a38, q39, rfl, h⟩
      · exact fb h
      replace h := seeInts_use h
      rcases h with h | ⟨xs40, rfl, h⟩
      · exact fb h
      replace h := seeX_use h
      rcases h with h | ⟨rfl, h⟩
      · exact fb h
      replace h := seeCons_use h
      rcases h with h | ⟨a41, q42, rfl, h⟩
      · exact fb h
      replace h := seeVals_use h
      rcases h with h | ⟨xs43, rfl, h⟩
      · exact fb h
      replace h := seeCons_use h
      rcases h with h | ⟨a44, q45, rfl, h⟩
      · exact fb h
      replace h := seeV_use h
      rcases h with h | ⟨rfl, h⟩
      · exact fb h
      replace h := seeNil_use h
      rcases h with h | ⟨rfl, h⟩
      · exact fb h
      replace h := seeCons_use h
      rcases h with h | ⟨a46, q47, rfl, h⟩
      · exact fb h
      replace h := seeVals_use h
      rcases h with h | ⟨xs48, rfl, h⟩
      · exact fb h
      replace h := seeCons_use h
      rcases h with h | ⟨a49, q50, rfl, h⟩
      · exact fb h
      replace h := seeV_use h
      rcases h with h | ⟨rfl, h⟩
      · exact fb h
      replace h := seeNil_use h
      rcases h with h | ⟨rfl, h⟩
      · exact fb h
      replace h := seeCons_use h
      rcases h with h | ⟨a51, q52, rfl, h⟩
      · exact fb h
      replace h := seeVals_use h
      rcases h with h | ⟨xs53, rfl, h⟩
      · exact fb h
      replace h := seeCons_use h
      rcases h with h | ⟨a54, q55, rfl, h⟩
      · exact fb h
      replace h := seeV_use h
      rcases h with h | ⟨rfl, h⟩
      · exact fb h
      replace h := seeNil_use h
      rcases h with h | ⟨rfl, h⟩
      · exact fb h
      replace h := seeNil_use h
      rcases h with h | ⟨rfl, h⟩
      · exact fb h
      replace h := seeCons_use h
      rcases h with h | ⟨a56, q57, rfl, h⟩
      · exact fb h
      replace h := seeBlk_use h
      rcases h with h | ⟨cs58, rfl, h⟩
      · exact fb h
      replace h := seeCons_use h
      rcases h with h | ⟨a59, q60, rfl, h⟩
      · exact fb h
      replace h := seeInts_use h
      rcases h with h | ⟨xs61, rfl, h⟩
      · exact fb h
      replace h := seeX_use h
      rcases h with h | ⟨rfl, h⟩
      · exact fb h
      replace h := seeCons_use h
      rcases h with h | ⟨a62, q63, rfl, h⟩
      · exact fb h
      replace h := seeInts_use h
      rcases h with h | ⟨xs64, rfl, h⟩
      · exact fb h
      replace h := seeX_use h
      rcases h with h | ⟨rfl, h⟩
      · exact fb h
      replace h := seeCons_use h
      rcases h with h | ⟨a65, q66, rfl, h⟩
      · exact fb h
      replace h := seeInts_use h
      rcases h with h | ⟨xs67, rfl, h⟩
      · exact fb h
      replace h := seeX_use h
      rcases h with h | ⟨rfl, h⟩
      · exact fb h
      replace h := seeCons_use h
      rcases h with h | ⟨a68, q69, rfl, h⟩
      · exact fb h
      replace h := seeStrs_use h
      rcases h with h | ⟨xs70, rfl, h⟩
      · exact fb h
      replace h := seeCons_use h
      rcases h with h | ⟨a71, q72, rfl, h⟩
      · exact fb h
      replace h := seeX_use h
      rcases h with h | ⟨rfl, h⟩
      · exact fb h
      replace h := seeNil_use h
      rcases h with h | ⟨rfl, h⟩
      · exact fb h
      replace h := seeCons_use h
      rcases h with h | ⟨a73, q74, rfl, h⟩
      · exact fb h
      replace h := seeInts_use h
      rcases h with h | ⟨xs75, rfl, h⟩
      · exact fb h
      replace h := seeX_use h
      rcases h with h | ⟨rfl, h⟩
      · exact fb h
      replace h := seeNil_use h
      rcases h with h | ⟨rfl, h⟩
      · exact fb h
      replace h := seeCons_use h
      rcases h with h | ⟨a76, q77, rfl, h⟩
      · exact fb h
      replace h := seeBlk_use h
      rcases h with h | ⟨cs78, rfl, h⟩
      · exact fb h
      replace h := seeCons_use h
      rcases h with h | ⟨a79, q80, rfl, h⟩
      · exact fb h
      replace h := seeVals_use h
      rcases h with h | ⟨xs81, rfl, h⟩
      · exact fb h
      replace h := seeCons_use h
      rcases h with h | ⟨a82, q83, rfl, h⟩
      · exact fb h
      replace h := seeV_use h
      rcases h with h | ⟨rfl, h⟩
      · exact fb h
      replace h := seeNil_use h
      rcases h with h | ⟨rfl, h⟩
      · exact fb h
      replace h := seeNil_use h
      rcases h with h | ⟨rfl, h⟩
      · exact fb h
      replace h := seeCons_use h
      rcases h with h | ⟨a84, q85, rfl, h⟩
      · exact fb h
      replace h := seeBlk_use h
      rcases h with h | ⟨cs86, rfl, h⟩
      · exact fb h
      replace h := seeCons_use h
      rcases h with h | ⟨a87, q88, rfl, h⟩
      · exact fb h
      replace h := seeInts_use h
      rcases h with h | ⟨xs_m_5_0, rfl, h⟩
      · exact fb h
      replace h := seeNil_use h
      rcases h with h | ⟨rfl, h⟩
      · exact fb h
      replace h := seeNil_use h
      rcases h with h | ⟨rfl, h⟩
      · exact fb h
      obtain ⟨rfl, n, h⟩ := h
      exact loop_use named (T70_1_ok C0_ok) (LoopsOk.none _ _) (RL45_10b_ok G70_1 K n _ _ _ _ _ _ _) h hS0 ha hlen ⟨e1, e5, e6, e7, e8, e9, e10, e11, e12, e13, e14, trivial⟩ (eqm ▸ hS2) hρ2 hd hQ
    · cases h
  · exact hW r lf h
abbrev YL45_10c : Type := Code → Nat → Int → Int → Int → Int → List Int → List Int → (Prop) → (Int → Prop) → (Prop) → Prop
def HL45_10c (f70_2 : Y70_2) (rec : Int → Prop) (n_0_l : Nat) (i_1 : Int) (i_2 : Int) (i_11 : Int) (i_49 : Int) (xs_m_0_0 : List Int) (xs_m_5_0 : List Int) (k1 : Prop) (k2 : Int → Prop) (k3 : Prop) : Prop :=
  (bif (decide (i_49 < (16 : Int))) then (bif (decide (i_1 < (0 : Int))) then (k1) else (bif (decide (i_11 < (0 : Int))) then (k1) else (bif (decide (i_11 > (IntKind.wrap .i64 (((n_0_l : Nat) : Int) - (12 : Int))))) then (k1) else (bif ((decide ((0 : Int) ≤ (IntKind.wrap .i64 (i_11 + (12 : Int))))) && ((decide ((Int.toNat (IntKind.wrap .i64 (i_11 + (12 : Int)))) ≤ ((List.length xs_m_0_0) - (0 : Nat)))) && ((decide ((0 : Int) ≤ i_11)) && (decide (i_11 ≤ (IntKind.wrap .i64 (i_11 + (12 : Int)))))))) then (f70_2 (Int.toNat i_11) ((Int.toNat (IntKind.wrap .i64 (i_11 + (12 : Int)))) - (Int.toNat i_11)) xs_m_0_0 (3 : Int) (8 : Int) (20 : Int) (4 : Int) ([(120 : Int)] : List Int) ([(95 : Int), (95 : Int), (116 : Int), (108 : Int), (115 : Int), (95 : Int), (103 : Int), (101 : Int), (116 : Int), (95 : Int), (97 : Int), (100 : Int), (100 : Int), (114 : Int)] : List Int) (-4 : Int) (-4 : Int) (fun (xs2 : List Int) => (bif (xs2 == ([(72 : Int), (141 : Int), (61 : Int), (0 : Int), (0 : Int), (0 : Int), (0 : Int), (232 : Int), (0 : Int), (0 : Int), (0 : Int), (0 : Int)] : List Int)) then (k2 i_49) else (rec (IntKind.wrap .i64 (i_49 + (1 : Int))))))) else False)))) else (k3))
def RL45_10c (f70_2 : Y70_2) : Nat → Nat → Int → Int → Int → Int → List Int → List Int → (Prop) → (Int → Prop) → (Prop) → Prop
  | 0, _, _, _, _, _, _, _, _, _, _ => False
  | n + 1, n_0_l, i_1, i_2, i_11, i_49, xs_m_0_0, xs_m_5_0, k1, k2, k3 => HL45_10c f70_2 (fun (i_49 : Int) => RL45_10c f70_2 n n_0_l i_1 i_2 i_11 i_49 xs_m_0_0 xs_m_5_0 k1 k2 k3) n_0_l i_1 i_2 i_11 i_49 xs_m_0_0 xs_m_5_0 k1 k2 k3
noncomputable def XL45_10c : Code := sub [true, true, false, true, false, false, true, true, false, false, true, true, true, true, true, false, false] (bodyOf Try.prog 45)
theorem HL45_10c_ok (f70_2 : Y70_2) (n : Nat) (n_0_l : Nat) (i_1 : Int) (i_2 : Int) (i_11 : Int) (i_49 : Int) (xs_m_0_0 : List Int) (xs_m_5_0 : List Int) (K : Ex → Env → Mem → Prop) : cround 1 [0, 1, 2, 6, 8, 9, 10, 11, 27, 28, 49] [0, 1, 2, 6, 7, 27, 28] (fun ρ m K => cexec Try.prog (T70_2 f70_2 C0) (fun _ => none) 1 1000 XL45_10c ρ m K) (n + 1) (selE 93 [(0, (.sl 0 (0 : Nat) (some n_0_l) (none : Option Nat))), (1, (.I .i64 i_1)), (2, (.I .i64 i_2)), (6, (.ptr 1 (0 : Nat) 0)), (8, (.I .i64 (2 : Int))), (9, (.ptr 2 (0 : Nat) 0)), (10, (.sl 3 (0 : Nat) (none : Option Nat) (none : Option Nat))), (11, (.I .i64 i_11)), (27, (.agg [(.I .i64 (0 : Int)), .nilf, .nilf, .nilf, (.I .i64 (19 : Int)), (.fn (.func 59) [] []), (.fn (.func 60) [] []), (.fn (.func 61) [] [(.ptr 4 (0 : Nat) 0)]), (.I .i64 (20 : Int)), (.fn (.func 62) [] []), (.fn (.func 63) [] []), (.fn (.func 64) [] [(.ptr 4 (0 : Nat) 0)]), (.I .i64 (22 : Int)), (.fn (.func 65) [] []), (.fn (.func 66) [] []), (.fn (.func 67) [] []), (.I .i64 (23 : Int)), (.fn (.func 68) [] []), (.fn (.func 69) [] []), (.fn (.func 67) [] [])])), (28, (.I .i64 (2 : Int))), (49, (.I .i64 i_49))]) [⟨[.ints .u8 xs_m_0_0], 5, false, false⟩, ⟨[.ints .i64 ([(0 : Int)] : List Int), .ints .i64 ([(0 : Int)] : List Int), .ints .i64 ([(0 : Int)] : List Int), .ints .i64 ([(0 : Int)] : List Int)], 88, false, true⟩, ⟨[.ints .i64 ([(20 : Int)] : List Int), .vals [(.fn (.func 62) [] [])], .vals [(.fn (.func 63) [] [])], .vals [(.fn (.func 64) [] [(.ptr 4 (0 : Nat) 0)])]], 83, false, true⟩, ⟨[.ints .i64 ([(3 : Int), (8 : Int)] : List Int), .ints .i64 ([(4 : Int), (4 : Int)] : List Int), .ints .i64 ([(20 : Int), (4 : Int)] : List Int), .strs ([([(120 : Int)] : List Int), ([(95 : Int), (95 : Int), (116 : Int), (108 : Int), (115 : Int), (95 : Int), (103 : Int), (101 : Int), (116 : Int), (95 : Int), (97 : Int), (100 : Int), (100 : Int), (114 : Int)] : List Int)] : List (List Int)), .ints .i64 ([(-4 : Int), (-4 : Int)] : List Int)], 32, false, true⟩, ⟨[.vals [(.sl 5 (0 : Nat) (none : Option Nat) (none : Option Nat))]], 22, false, true⟩, ⟨[.ints .u8 xs_m_5_0], 5, false, true⟩] K =
    HL45_10c f70_2 (fun (i_49 : Int) => cround 1 [0, 1, 2, 6, 8, 9, 10, 11, 27, 28, 49] [0, 1, 2, 6, 7, 27, 28] (fun ρ m K => cexec Try.prog (T70_2 f70_2 C0) (fun _ => none) 1 1000 XL45_10c ρ m K) n (selE 93 [(0, (.sl 0 (0 : Nat) (some n_0_l) (none : Option Nat))), (1, (.I .i64 i_1)), (2, (.I .i64 i_2)), (6, (.ptr 1 (0 : Nat) 0)), (8, (.I .i64 (2 : Int))), (9, (.ptr 2 (0 : Nat) 0)), (10, (.sl 3 (0 : Nat) (none : Option Nat) (none : Option Nat))), (11, (.I .i64 i_11)), (27, (.agg [(.I .i64 (0 : Int)), .nilf, .nilf, .nilf, (.I .i64 (19 : Int)), (.fn (.func 59) [] []), (.fn (.func 60) [] []), (.fn (.func 61) [] [(.ptr 4 (0 : Nat) 0)]), (.I .i64 (20 : Int)), (.fn (.func 62) [] []), (.fn (.func 63) [] []), (.fn (.func 64) [] [(.ptr 4 (0 : Nat) 0)]), (.I .i64 (22 : Int)), (.fn (.func 65) [] []), (.fn (.func 66) [] []), (.fn (.func 67) [] []), (.I .i64 (23 : Int)), (.fn (.func 68) [] []), (.fn (.func 69) [] []), (.fn (.func 67) [] [])])), (28, (.I .i64 (2 : Int))), (49, (.I .i64 i_49))]) [⟨[.ints .u8 xs_m_0_0], 5, false, false⟩, ⟨[.ints .i64 ([(0 : Int)] : List Int), .ints .i64 ([(0 : Int)] : List Int), .ints .i64 ([(0 : Int)] : List Int), .ints .i64 ([(0 : Int)] : List Int)], 88, false, true⟩, ⟨[.ints .i64 ([(20 : Int)] : List Int), .vals [(.fn (.func 62) [] [])], .vals [(.fn (.func 63) [] [])], .vals [(.fn (.func 64) [] [(.ptr 4 (0 : Nat) 0)])]], 83, false, true⟩, ⟨[.ints .i64 ([(3 : Int), (8 : Int)] : List Int), .ints .i64 ([(4 : Int), (4 : Int)] : List Int), .ints .i64 ([(20 : Int), (4 : Int)] : List Int), .strs ([([(120 : Int)] : List Int), ([(95 : Int), (95 : Int), (116 : Int), (108 : Int), (115 : Int), (95 : Int), (103 : Int), (101 : Int), (116 : Int), (95 : Int), (97 : Int), (100 : Int), (100 : Int), (114 : Int)] : List Int)] : List (List Int)), .ints .i64 ([(-4 : Int), (-4 : Int)] : List Int)], 32, false, true⟩, ⟨[.vals [(.sl 5 (0 : Nat) (none : Option Nat) (none : Option Nat))]], 22, false, true⟩, ⟨[.ints .u8 xs_m_5_0], 5, false, true⟩] K) n_0_l i_1 i_2 i_11 i_49 xs_m_0_0 xs_m_5_0 (K .ret (selE 93 [(0, (.sl 0 (0 : Nat) (some n_0_l) (none : Option Nat))), (1, (.I .i64 i_1)), (2, (.I .i64 i_2)), (6, (.ptr 1 (0 : Nat) 0)), (7, (.B false)), (27, (.agg [(.I .i64 (0 : Int)), .nilf, .nilf, .nilf, (.I .i64 (19 : Int)), (.fn (.func 59) [] []), (.fn (.func 60) [] []), (.fn (.func 61) [] [(.ptr 2 (0 : Nat) 0)]), (.I .i64 (20 : Int)), (.fn (.func 62) [] []), (.fn (.func 63) [] []), (.fn (.func 64) [] [(.ptr 2 (0 : Nat) 0)]), (.I .i64 (22 : Int)), (.fn (.func 65) [] []), (.fn (.func 66) [] []), (.fn (.func 67) [] []), (.I .i64 (23 : Int)), (.fn (.func 68) [] []), (.fn (.func 69) [] []), (.fn (.func 67) [] [])])), (28, (.I .i64 (2 : Int)))]) [⟨[.ints .u8 xs_m_0_0], 5, false, false⟩, ⟨[.ints .i64 ([(0 : Int)] : List Int), .ints .i64 ([(0 : Int)] : List Int), .ints .i64 ([(0 : Int)] : List Int), .ints .i64 ([(0 : Int)] : List Int)], 88, false, true⟩, ⟨[.vals [(.sl 3 (0 : Nat) (none : Option Nat) (none : Option Nat))]], 22, false, true⟩, ⟨[.ints .u8 xs_m_5_0], 5, false, true⟩]) (fun (u0 : Int) => K .ret (selE 93 [(0, (.sl 0 (0 : Nat) (some n_0_l) (none : Option Nat))), (1, (.I .i64 i_1)), (2, (.I .i64 i_2)), (6, (.ptr 1 (0 : Nat) 0)), (7, (.B true)), (27, (.agg [(.I .i64 (0 : Int)), .nilf, .nilf, .nilf, (.I .i64 (19 : Int)), (.fn (.func 59) [] []), (.fn (.func 60) [] []), (.fn (.func 61) [] [(.ptr 2 (0 : Nat) 0)]), (.I .i64 (20 : Int)), (.fn (.func 62) [] []), (.fn (.func 63) [] []), (.fn (.func 64) [] [(.ptr 2 (0 : Nat) 0)]), (.I .i64 (22 : Int)), (.fn (.func 65) [] []), (.fn (.func 66) [] []), (.fn (.func 67) [] []), (.I .i64 (23 : Int)), (.fn (.func 68) [] []), (.fn (.func 69) [] []), (.fn (.func 67) [] [])])), (28, (.I .i64 (2 : Int)))]) [⟨[.ints .u8 xs_m_0_0], 5, false, false⟩, ⟨[.ints .i64 ([(2 : Int)] : List Int), .ints .i64 ([i_11] : List Int), .ints .i64 ([(12 : Int)] : List Int), .ints .i64 ([u0] : List Int)], 88, false, true⟩, ⟨[.vals [(.sl 3 (0 : Nat) (none : Option Nat) (none : Option Nat))]], 22, false, true⟩, ⟨[.ints .u8 xs_m_5_0], 5, false, true⟩]) (K (.exit 2) (selE 93 [(0, (.sl 0 (0 : Nat) (some n_0_l) (none : Option Nat))), (1, (.I .i64 i_1)), (2, (.I .i64 i_2)), (6, (.ptr 1 (0 : Nat) 0)), (7, .undef), (27, (.agg [(.I .i64 (0 : Int)), .nilf, .nilf, .nilf, (.I .i64 (19 : Int)), (.fn (.func 59) [] []), (.fn (.func 60) [] []), (.fn (.func 61) [] [(.ptr 2 (0 : Nat) 0)]), (.I .i64 (20 : Int)), (.fn (.func 62) [] []), (.fn (.func 63) [] []), (.fn (.func 64) [] [(.ptr 2 (0 : Nat) 0)]), (.I .i64 (22 : Int)), (.fn (.func 65) [] []), (.fn (.func 66) [] []), (.fn (.func 67) [] []), (.I .i64 (23 : Int)), (.fn (.func 68) [] []), (.fn (.func 69) [] []), (.fn (.func 67) [] [])])), (28, (.I .i64 (2 : Int)))]) [⟨[.ints .u8 xs_m_0_0], 5, false, false⟩, ⟨[.ints .i64 ([(0 : Int)] : List Int), .ints .i64 ([(0 : Int)] : List Int), .ints .i64 ([(0 : Int)] : List Int), .ints .i64 ([(0 : Int)] : List Int)], 88, false, true⟩, ⟨[.vals [(.sl 3 (0 : Nat) (none : Option Nat) (none : Option Nat))]], 22, false, true⟩, ⟨[.ints .u8 xs_m_5_0], 5, false, true⟩]) := by kernel_rfl
theorem RL45_10c_ok (f70_2 : Y70_2) (K : Ex → Env → Mem → Prop) : ∀ (n : Nat) (n_0_l : Nat) (i_1 : Int) (i_2 : Int) (i_11 : Int) (i_49 : Int) (xs_m_0_0 : List Int) (xs_m_5_0 : List Int), cround 1 [0, 1, 2, 6, 8, 9, 10, 11, 27, 28, 49] [0, 1, 2, 6, 7, 27, 28] (fun ρ m K => cexec Try.prog (T70_2 f70_2 C0) (fun _ => none) 1 1000 XL45_10c ρ m K) n (selE 93 [(0, (.sl 0 (0 : Nat) (some n_0_l) (none : Option Nat))), (1, (.I .i64 i_1)), (2, (.I .i64 i_2)), (6, (.ptr 1 (0 : Nat) 0)), (8, (.I .i64 (2 : Int))), (9, (.ptr 2 (0 : Nat) 0)), (10, (.sl 3 (0 : Nat) (none : Option Nat) (none : Option Nat))), (11, (.I .i64 i_11)), (27, (.agg [(.I .i64 (0 : Int)), .nilf, .nilf, .nilf, (.I .i64 (19 : Int)), (.fn (.func 59) [] []), (.fn (.func 60) [] []), (.fn (.func 61) [] [(.ptr 4 (0 : Nat) 0)]), (.I .i64 (20 : Int)), (.fn (.func 62) [] []), (.fn (.func 63) [] []), (.fn (.func 64) [] [(.ptr 4 (0 : Nat) 0)]), (.I .i64 (22 : Int)), (.fn (.func 65) [] []), (.fn (.func 66) [] []), (.fn (.func 67) [] []), (.I .i64 (23 : Int)), (.fn (.func 68) [] []), (.fn (.func 69) [] []), (.fn (.func 67) [] [])])), (28, (.I .i64 (2 : Int))), (49, (.I .i64 i_49))]) [⟨[.ints .u8 xs_m_0_0], 5, false, false⟩, ⟨[.ints .i64 ([(0 : Int)] : List Int), .ints .i64 ([(0 : Int)] : List Int), .ints .i64 ([(0 : Int)] : List Int), .ints .i64 ([(0 : Int)] : List Int)], 88, false, true⟩, ⟨[.ints .i64 ([(20 : Int)] : List Int), .vals [(.fn (.func 62) [] [])], .vals [(.fn (.func 63) [] [])], .vals [(.fn (.func 64) [] [(.ptr 4 (0 : Nat) 0)])]], 83, false, true⟩, ⟨[.ints .i64 ([(3 : Int), (8 : Int)] : List Int), .ints .i64 ([(4 : Int), (4 : Int)] : List Int), .ints .i64 ([(20 : Int), (4 : Int)] : List Int), .strs ([([(120 : Int)] : List Int), ([(95 : Int), (95 : Int), (116 : Int), (108 : Int), (115 : Int), (95 : Int), (103 : Int), (101 : Int), (116 : Int), (95 : Int), (97 : Int), (100 : Int), (100 : Int), (114 : Int)] : List Int)] : List (List Int)), .ints .i64 ([(-4 : Int), (-4 : Int)] : List Int)], 32, false, true⟩, ⟨[.vals [(.sl 5 (0 : Nat) (none : Option Nat) (none : Option Nat))]], 22, false, true⟩, ⟨[.ints .u8 xs_m_5_0], 5, false, true⟩] K = RL45_10c f70_2 n n_0_l i_1 i_2 i_11 i_49 xs_m_0_0 xs_m_5_0 (K .ret (selE 93 [(0, (.sl 0 (0 : Nat) (some n_0_l) (none : Option Nat))), (1, (.I .i64 i_1)), (2, (.I .i64 i_2)), (6, (.ptr 1 (0 : Nat) 0)), (7, (.B false)), (27, (.agg [(.I .i64 (0 : Int)), .nilf, .nilf, .nilf, (.I .i64 (19 : Int)), (.fn (.func 59) [] []), (.fn (.func 60) [] []), (.fn (.func 61) [] [(.ptr 2 (0 : Nat) 0)]), (.I .i64 (20 : Int)), (.fn (.func 62) [] []), (.fn (.func 63) [] []), (.fn (.func 64) [] [(.ptr 2 (0 : Nat) 0)]), (.I .i64 (22 : Int)), (.fn (.func 65) [] []), (.fn (.func 66) [] []), (.fn (.func 67) [] []), (.I .i64 (23 : Int)), (.fn (.func 68) [] []), (.fn (.func 69) [] []), (.fn (.func 67) [] [])])), (28, (.I .i64 (2 : Int)))]) [⟨[.ints .u8 xs_m_0_0], 5, false, false⟩, ⟨[.ints .i64 ([(0 : Int)] : List Int), .ints .i64 ([(0 : Int)] : List Int), .ints .i64 ([(0 : Int)] : List Int), .ints .i64 ([(0 : Int)] : List Int)], 88, false, true⟩, ⟨[.vals [(.sl 3 (0 : Nat) (none : Option Nat) (none : Option Nat))]], 22, false, true⟩, ⟨[.ints .u8 xs_m_5_0], 5, false, true⟩]) (fun (u0 : Int) => K .ret (selE 93 [(0, (.sl 0 (0 : Nat) (some n_0_l) (none : Option Nat))), (1, (.I .i64 i_1)), (2, (.I .i64 i_2)), (6, (.ptr 1 (0 : Nat) 0)), (7, (.B true)), (27, (.agg [(.I .i64 (0 : Int)), .nilf, .nilf, .nilf, (.I .i64 (19 : Int)), (.fn (.func 59) [] []), (.fn (.func 60) [] []), (.fn (.func 61) [] [(.ptr 2 (0 : Nat) 0)]), (.I .i64 (20 : Int)), (.fn (.func 62) [] []), (.fn (.func 63) [] []), (.fn (.func 64) [] [(.ptr 2 (0 : Nat) 0)]), (.I .i64 (22 : Int)), (.fn (.func 65) [] []), (.fn (.func 66) [] []), (.fn (.func 67) [] []), (.I .i64 (23 : Int)), (.fn (.func 68) [] []), (.fn (.func 69) [] []), (.fn (.func 67) [] [])])), (28, (.I .i64 (2 : Int)))]) [⟨[.ints .u8 xs_m_0_0], 5, false, false⟩, ⟨[.ints .i64 ([(2 : Int)] : List Int), .ints .i64 ([i_11] : List Int), .ints .i64 ([(12 : Int)] : List Int), .ints .i64 ([u0] : List Int)], 88, false, true⟩, ⟨[.vals [(.sl 3 (0 : Nat) (none : Option Nat) (none : Option Nat))]], 22, false, true⟩, ⟨[.ints .u8 xs_m_5_0], 5, false, true⟩]) (K (.exit 2) (selE 93 [(0, (.sl 0 (0 : Nat) (some n_0_l) (none : Option Nat))), (1, (.I .i64 i_1)), (2, (.I .i64 i_2)), (6, (.ptr 1 (0 : Nat) 0)), (7, .undef), (27, (.agg [(.I .i64 (0 : Int)), .nilf, .nilf, .nilf, (.I .i64 (19 : Int)), (.fn (.func 59) [] []), (.fn (.func 60) [] []), (.fn (.func 61) [] [(.ptr 2 (0 : Nat) 0)]), (.I .i64 (20 : Int)), (.fn (.func 62) [] []), (.fn (.func 63) [] []), (.fn (.func 64) [] [(.ptr 2 (0 : Nat) 0)]), (.I .i64 (22 : Int)), (.fn (.func 65) [] []), (.fn (.func 66) [] []), (.fn (.func 67) [] []), (.I .i64 (23 : Int)), (.fn (.func 68) [] []), (.fn (.func 69) [] []), (.fn (.func 67) [] [])])), (28, (.I .i64 (2 : Int)))]) [⟨[.ints .u8 xs_m_0_0], 5, false, false⟩, ⟨[.ints .i64 ([(0 : Int)] : List Int), .ints .i64 ([(0 : Int)] : List Int), .ints .i64 ([(0 : Int)] : List Int), .ints .i64 ([(0 : Int)] : List Int)], 88, false, true⟩, ⟨[.vals [(.sl 3 (0 : Nat) (none : Option Nat) (none : Option Nat))]], 22, false, true⟩, ⟨[.ints .u8 xs_m_5_0], 5, false, true⟩])
  | 0, n_0_l, i_1, i_2, i_11, i_49, xs_m_0_0, xs_m_5_0 => rfl
  | n + 1, n_0_l, i_1, i_2, i_11, i_49, xs_m_0_0, xs_m_5_0 => by
    have ih := RL45_10c_ok f70_2 K n
    rw [HL45_10c_ok f70_2 n n_0_l i_1 i_2 i_11 i_49 xs_m_0_0 xs_m_5_0 K]
    show HL45_10c f70_2 _ n_0_l i_1 i_2 i_11 i_49 xs_m_0_0 xs_m_5_0 (K .ret (selE 93 [(0, (.sl 0 (0 : Nat) (some n_0_l) (none : Option Nat))), (1, (.I .i64 i_1)), (2, (.I .i64 i_2)), (6, (.ptr 1 (0 : Nat) 0)), (7, (.B false)), (27, (.agg [(.I .i64 (0 : Int)), .nilf, .nilf, .nilf, (.I .i64 (19 : Int)), (.fn (.func 59) [] []), (.fn (.func 60) [] []), (.fn (.func 61) [] [(.ptr 2 (0 : Nat) 0)]), (.I .i64 (20 : Int)), (.fn (.func 62) [] []), (.fn (.func 63) [] []), (.fn (.func 64) [] [(.ptr 2 (0 : Nat) 0)]), (.I .i64 (22 : Int)), (.fn (.func 65) [] []), (.fn (.func 66) [] []), (.fn (.func 67) [] []), (.I .i64 (23 : Int)), (.fn (.func 68) [] []), (.fn (.func 69) [] []), (.fn (.func 67) [] [])])), (28, (.I .i64 (2 : Int)))]) [⟨[.ints .u8 xs_m_0_0], 5, false, false⟩, ⟨[.ints .i64 ([(0 : Int)] : List Int), .ints .i64 ([(0 : Int)] : List Int), .ints .i64 ([(0 : Int)] : List Int), .ints .i64 ([(0 : Int)] : List Int)], 88, false, true⟩, ⟨[.vals [(.sl 3 (0 : Nat) (none : Option Nat) (none : Option Nat))]], 22, false, true⟩, ⟨[.ints .u8 xs_m_5_0], 5, false, true⟩]) (fun (u0 : Int) => K .ret (selE 93 [(0, (.sl 0 (0 : Nat) (some n_0_l) (none : Option Nat))), (1, (.I .i64 i_1)), (2, (.I .i64 i_2)), (6, (.ptr 1 (0 : Nat) 0)), (7, (.B true)), (27, (.agg [(.I .i64 (0 : Int)), .nilf, .nilf, .nilf, (.I .i64 (19 : Int)), (.fn (.func 59) [] []), (.fn (.func 60) [] []), (.fn (.func 61) [] [(.ptr 2 (0 : Nat) 0)]), (.I .i64 (20 : Int)), (.fn (.func 62) [] []), (.fn (.func 63) [] []), (.fn (.func 64) [] [(.ptr 2 (0 : Nat) 0)]), (.I .i64 (22 : Int)), (.fn (.func 65) [] []), (.fn (.func 66) [] []), (.fn (.func 67) [] []), (.I .i64 (23 : Int)), (.fn (.func 68) [] []), (.fn (.func 69) [] []), (.fn (.func 67) [] [])])), (28, (.I .i64 (2 : Int)))]) [⟨[.ints .u8 xs_m_0_0], 5, false, false⟩, ⟨[.ints .i64 ([(2 : Int)] : List Int), .ints .i64 ([i_11] : List Int), .ints .i64 ([(12 : Int)] : List Int), .ints .i64 ([u0] : List Int)], 88, false, true⟩, ⟨[.vals [(.sl 3 (0 : Nat) (none : Option Nat) (none : Option Nat))]], 22, false, true⟩, ⟨[.ints .u8 xs_m_5_0], 5, false, true⟩]) (K (.exit 2) (selE 93 [(0, (.sl 0 (0 : Nat) (some n_0_l) (none : Option Nat))), (1, (.I .i64 i_1)), (2, (.I .i64 i_2)), (6, (.ptr 1 (0 : Nat) 0)), (7, .undef), (27, (.agg [(.I .i64 (0 : Int)), .nilf, .nilf, .nilf, (.I .i64 (19 : Int)), (.fn (.func 59) [] []), (.fn (.func 60) [] []), (.fn (.func 61) [] [(.ptr 2 (0 : Nat) 0)]), (.I .i64 (20 : Int)), (.fn (.func 62) [] []), (.fn (.func 63) [] []), (.fn (.func 64) [] [(.ptr 2 (0 : Nat) 0)]), (.I .i64 (22 : Int)), (.fn (.func 65) [] []), (.fn (.func 66) [] []), (.fn (.func 67) [] []), (.I .i64 (23 : Int)), (.fn (.func 68) [] []), (.fn (.func 69) [] []), (.fn (.func 67) [] [])])), (28, (.I .i64 (2 : Int)))]) [⟨[.ints .u8 xs_m_0_0], 5, false, false⟩, ⟨[.ints .i64 ([(0 : Int)] : List Int), .ints .i64 ([(0 : Int)] : List Int), .ints .i64 ([(0 : Int)] : List Int), .ints .i64 ([(0 : Int)] : List Int)], 88, false, true⟩, ⟨[.vals [(.sl 3 (0 : Nat) (none : Option Nat) (none : Option Nat))]], 22, false, true⟩, ⟨[.ints .u8 xs_m_5_0], 5, false, true⟩]) = HL45_10c f70_2 _ n_0_l i_1 i_2 i_11 i_49 xs_m_0_0 xs_m_5_0 (K .ret (selE 93 [(0, (.sl 0 (0 : Nat) (some n_0_l) (none : Option Nat))), (1, (.I .i64 i_1)), (2, (.I .i64 i_2)), (6, (.ptr 1 (0 : Nat) 0)), (7, (.B false)), (27, (.agg [(.I .i64 (0 : Int)), .nilf, .nilf, .nilf, (.I .i64 (19 : Int)), (.fn (.func 59) [] []), (.fn (.func 60) [] []), (.fn (.func 61) [] [(.ptr 2 (0 : Nat) 0)]), (.I .i64 (20 : Int)), (.fn (.func 62) [] []), (.fn (.func 63) [] []), (.fn (.func 64) [] [(.ptr 2 (0 : Nat) 0)]), (.I .i64 (22 : Int)), (.fn (.func 65) [] []), (.fn (.func 66) [] []), (.fn (.func 67) [] []), (.I .i64 (23 : Int)), (.fn (.func 68) [] []), (.fn (.func 69) [] []), (.fn (.func 67) [] [])])), (28, (.I .i64 (2 : Int)))]) [⟨[.ints .u8 xs_m_0_0], 5, false, false⟩, ⟨[.ints .i64 ([(0 : Int)] : List Int), .ints .i64 ([(0 : Int)] : List Int), .ints .i64 ([(0 : Int)] : List Int), .ints .i64 ([(0 : Int)] : List Int)], 88, false, true⟩, ⟨[.vals [(.sl 3 (0 : Nat) (none : Option Nat) (none : Option Nat))]], 22, false, true⟩, ⟨[.ints .u8 xs_m_5_0], 5, false, true⟩]) (fun (u0 : Int) => K .ret (selE 93 [(0, (.sl 0 (0 : Nat) (some n_0_l) (none : Option Nat))), (1, (.I .i64 i_1)), (2, (.I .i64 i_2)), (6, (.ptr 1 (0 : Nat) 0)), (7, (.B true)), (27, (.agg [(.I .i64 (0 : Int)), .nilf, .nilf, .nilf, (.I .i64 (19 : Int)), (.fn (.func 59) [] []), (.fn (.func 60) [] []), (.fn (.func 61) [] [(.ptr 2 (0 : Nat) 0)]), (.I .i64 (20 : Int)), (.fn (.func 62) [] []), (.fn (.func 63) [] []), (.fn (.func 64) [] [(.ptr 2 (0 : Nat) 0)]), (.I .i64 (22 : Int)), (.fn (.func 65) [] []), (.fn (.func 66) [] []), (.fn (.func 67) [] []), (.I .i64 (23 : Int)), (.fn (.func 68) [] []), (.fn (.func 69) [] []), (.fn (.func 67) [] [])])), (28, (.I .i64 (2 : Int)))]) [⟨[.ints .u8 xs_m_0_0], 5, false, false⟩, ⟨[.ints .i64 ([(2 : Int)] : List Int), .ints .i64 ([i_11] : List Int), .ints .i64 ([(12 : Int)] : List Int), .ints .i64 ([u0] : List Int)], 88, false, true⟩, ⟨[.vals [(.sl 3 (0 : Nat) (none : Option Nat) (none : Option Nat))]], 22, false, true⟩, ⟨[.ints .u8 xs_m_5_0], 5, false, true⟩]) (K (.exit 2) (selE 93 [(0, (.sl 0 (0 : Nat) (some n_0_l) (none : Option Nat))), (1, (.I .i64 i_1)), (2, (.I .i64 i_2)), (6, (.ptr 1 (0 : Nat) 0)), (7, .undef), (27, (.agg [(.I .i64 (0 : Int)), .nilf, .nilf, .nilf, (.I .i64 (19 : Int)), (.fn (.func 59) [] []), (.fn (.func 60) [] []), (.fn (.func 61) [] [(.ptr 2 (0 : Nat) 0)]), (.I .i64 (20 : Int)), (.fn (.func 62) [] []), (.fn (.func 63) [] []), (.fn (.func 64) [] [(.ptr 2 (0 : Nat) 0)]), (.I .i64 (22 : Int)), (.fn (.func 65) [] []), (.fn (.func 66) [] []), (.fn (.func 67) [] []), (.I .i64 (23 : Int)), (.fn (.func 68) [] []), (.fn (.func 69) [] []), (.fn (.func 67) [] [])])), (28, (.I .i64 (2 : Int)))]) [⟨[.ints .u8 xs_m_0_0], 5, false, false⟩, ⟨[.ints .i64 ([(0 : Int)] : List Int), .ints .i64 ([(0 : Int)] : List Int), .ints .i64 ([(0 : Int)] : List Int), .ints .i64 ([(0 : Int)] : List Int)], 88, false, true⟩, ⟨[.vals [(.sl 3 (0 : Nat) (none : Option Nat) (none : Option Nat))]], 22, false, true⟩, ⟨[.ints .u8 xs_m_5_0], 5, false, true⟩])
    refine congrArg (fun r => HL45_10c f70_2 r n_0_l i_1 i_2 i_11 i_49 xs_m_0_0 xs_m_5_0 (K .ret (selE 93 [(0, (.sl 0 (0 : Nat) (some n_0_l) (none : Option Nat))), (1, (.I .i64 i_1)), (2, (.I .i64 i_2)), (6, (.ptr 1 (0 : Nat) 0)), (7, (.B false)), (27, (.agg [(.I .i64 (0 : Int)), .nilf, .nilf, .nilf, (.I .i64 (19 : Int)), (.fn (.func 59) [] []), (.fn (.func 60) [] []), (.fn (.func 61) [] [(.ptr 2 (0 : Nat) 0)]), (.I .i64 (20 : Int)), (.fn (.func 62) [] []), (.fn (.func 63) [] []), (.fn (.func 64) [] [(.ptr 2 (0 : Nat) 0)]), (.I .i64 (22 : Int)), (.fn (.func 65) [] []), (.fn (.func 66) [] []), (.fn (.func 67) [] []), (.I .i64 (23 : Int)), (.fn (.func 68) [] []), (.fn (.func 69) [] []), (.fn (.func 67) [] [])])), (28, (.I .i64 (2 : Int)))]) [⟨[.ints .u8 xs_m_0_0], 5, false, false⟩, ⟨[.ints .i64 ([(0 : Int)] : List Int), .ints .i64 ([(0 : Int)] : List Int), .ints .i64 ([(0 : Int)] : List Int), .ints .i64 ([(0 : Int)] : List Int)], 88, false, true⟩, ⟨[.vals [(.sl 3 (0 : Nat) (none : Option Nat) (none : Option Nat))]], 22, false, true⟩, ⟨[.ints .u8 xs_m_5_0], 5, false, true⟩]) (fun (u0 : Int) => K .ret (selE 93 [(0, (.sl 0 (0 : Nat) (some n_0_l) (none : Option Nat))), (1, (.I .i64 i_1)), (2, (.I .i64 i_2)), (6, (.ptr 1 (0 : Nat) 0)), (7, (.B true)), (27, (.agg [(.I .i64 (0 : Int)), .nilf, .nilf, .nilf, (.I .i64 (19 : Int)), (.fn (.func 59) [] []), (.fn (.func 60) [] []), (.fn (.func 61) [] [(.ptr 2 (0 : Nat) 0)]), (.I .i64 (20 : Int)), (.fn (.func 62) [] []), (.fn (.func 63) [] []), (.fn (.func 64) [] [(.ptr 2 (0 : Nat) 0)]), (.I .i64 (22 : Int)), (.fn (.func 65) [] []), (.fn (.func 66) [] []), (.fn (.func 67) [] []), (.I .i64 (23 : Int)), (.fn (.func 68) [] []), (.fn (.func 69) [] []), (.fn (.func 67) [] [])])), (28, (.I .i64 (2 : Int)))]) [⟨[.ints .u8 xs_m_0_0], 5, false, false⟩, ⟨[.ints .i64 ([(2 : Int)] : List Int), .ints .i64 ([i_11] : List Int), .ints .i64 ([(12 : Int)] : List Int), .ints .i64 ([u0] : List Int)], 88, false, true⟩, ⟨[.vals [(.sl 3 (0 : Nat) (none : Option Nat) (none : Option Nat))]], 22, false, true⟩, ⟨[.ints .u8 xs_m_5_0], 5, false, true⟩]) (K (.exit 2) (selE 93 [(0, (.sl 0 (0 : Nat) (some n_0_l) (none : Option Nat))), (1, (.I .i64 i_1)), (2, (.I .i64 i_2)), (6, (.ptr 1 (0 : Nat) 0)), (7, .undef), (27, (.agg [(.I .i64 (0 : Int)), .nilf, .nilf, .nilf, (.I .i64 (19 : Int)), (.fn (.func 59) [] []), (.fn (.func 60) [] []), (.fn (.func 61) [] [(.ptr 2 (0 : Nat) 0)]), (.I .i64 (20 : Int)), (.fn (.func 62) [] []), (.fn (.func 63) [] []), (.fn (.func 64) [] [(.ptr 2 (0 : Nat) 0)]), (.I .i64 (22 : Int)), (.fn (.func 65) [] []), (.fn (.func 66) [] []), (.fn (.func 67) [] []), (.I .i64 (23 : Int)), (.fn (.func 68) [] []), (.fn (.func 69) [] []), (.fn (.func 67) [] [])])), (28, (.I .i64 (2 : Int)))]) [⟨[.ints .u8 xs_m_0_0], 5, false, false⟩, ⟨[.ints .i64 ([(0 : Int)] : List Int), .ints .i64 ([(0 : Int)] : List Int), .ints .i64 ([(0 : Int)] : List Int), .ints .i64 ([(0 : Int)] : List Int)], 88, false, true⟩, ⟨[.vals [(.sl 3 (0 : Nat) (none : Option Nat) (none : Option Nat))]], 22, false, true⟩, ⟨[.ints .u8 xs_m_5_0], 5, false, true⟩])) ?_
    funext i_49
    exact ih n_0_l i_1 i_2 i_11 i_49 xs_m_0_0 xs_m_5_0
def GL45_10c : YL45_10c := fun x n_0_l i_1 i_2 i_11 i_49 xs_m_0_0 xs_m_5_0 k1 k2 k3 => x = XL45_10c ∧ ∃ n, RL45_10c G70_2 n n_0_l i_1 i_2 i_11 i_49 xs_m_0_0 xs_m_5_0 k1 k2 k3
def VL45_10c (l : YL45_10c) (F : Prop) (x : Code) (ρ : Env) (m : Mem) (K : Ex → Env → Mem → Prop) : Prop :=
  match ρ.has (93 - 1) with
  | true => (seeSl 0 (ρ.get 0) F fun r2 l3 c4 => (seeN 0 r2 F (seeO l3 F fun n_0_l => (seeNo c4 F (seeI .i64 (ρ.get 1) F fun i_1 => (seeI .i64 (ρ.get 2) F fun i_2 => (seeV (.ptr 1 (0 : Nat) 0) (ρ.get 6) F (seeV (.I .i64 (2 : Int)) (ρ.get 8) F (seeV (.ptr 2 (0 : Nat) 0) (ρ.get 9) F (seeV (.sl 3 (0 : Nat) (none : Option Nat) (none : Option Nat)) (ρ.get 10) F (seeI .i64 (ρ.get 11) F fun i_11 => (seeV (.agg [(.I .i64 (0 : Int)), .nilf, .nilf, .nilf, (.I .i64 (19 : Int)), (.fn (.func 59) [] []), (.fn (.func 60) [] []), (.fn (.func 61) [] [(.ptr 4 (0 : Nat) 0)]), (.I .i64 (20 : Int)), (.fn (.func 62) [] []), (.fn (.func 63) [] []), (.fn (.func 64) [] [(.ptr 4 (0 : Nat) 0)]), (.I .i64 (22 : Int)), (.fn (.func 65) [] []), (.fn (.func 66) [] []), (.fn (.func 67) [] []), (.I .i64 (23 : Int)), (.fn (.func 68) [] []), (.fn (.func 69) [] []), (.fn (.func 67) [] [])]) (ρ.get 27) F (seeV (.I .i64 (2 : Int)) (ρ.get 28) F (seeI .i64 (ρ.get 49) F fun i_49 => (seeCons m F fun a15 q16 => (seeBlk 5 false false a15 F fun cs17 => (seeCons cs17 F fun a18 q19 => (seeInts .u8 a18 F fun xs_m_0_0 => (seeNil q19 F (seeCons q16 F fun a20 q21 => (seeBlk 88 false true a20 F fun cs22 => (seeCons cs22 F fun a23 q24 => (seeInts .i64 a23 F fun xs25 => (seeX ([(0 : Int)] : List Int) xs25 F (seeCons q24 F fun a26 q27 => (seeInts .i64 a26 F fun xs28 => (seeX ([(0 : Int)] : List Int) xs28 F (seeCons q27 F fun a29 q30 => (seeInts .i64 a29 F fun xs31 => (seeX ([(0 : Int)] : List Int) xs31 F (seeCons q30 F fun a32 q33 => (seeInts .i64 a32 F fun xs34 => (seeX ([(0 : Int)] : List Int) xs34 F (seeNil q33 F (seeCons q21 F fun a35 q36 => (seeBlk 83 false true a35 F fun cs37 => (seeCons cs37 F fun a38 q39 => (seeInts .i64 a38 F fun xs40 => (seeX ([(20 : Int)] : List Int) xs40 F (seeCons q39 F fun a41 q42 => (seeVals a41 F fun xs43 => (seeCons xs43 F fun a44 q45 => (seeV (.fn (.func 62) [] []) a44 F (seeNil q45 F (seeCons q42 F fun a46 q47 => (seeVals a46 F fun xs48 => (seeCons xs48 F fun a49 q50 => (seeV (.fn (.func 63) [] []) a49 F (seeNil q50 F (seeCons q47 F fun a51 q52 => (seeVals a51 F fun xs53 => (seeCons xs53 F fun a54 q55 => (seeV (.fn (.func 64) [] [(.ptr 4 (0 : Nat) 0)]) a54 F (seeNil q55 F (seeNil q52 F (seeCons q36 F fun a56 q57 => (seeBlk 32 false true a56 F fun cs58 => (seeCons cs58 F fun a59 q60 => (seeInts .i64 a59 F fun xs61 => (seeX ([(3 : Int), (8 : Int)] : List Int) xs61 F (seeCons q60 F fun a62 q63 => (seeInts .i64 a62 F fun xs64 => (seeX ([(4 : Int), (4 : Int)] : List Int) xs64 F (seeCons q63 F fun a65 q66 => (seeInts .i64 a65 F fun xs67 => (seeX ([(20 : Int), (4 : Int)] : List Int) xs67 F (seeCons q66 F fun a68 q69 => (seeStrs a68 F fun xs70 => (seeCons xs70 F fun a71 q72 => (seeX ([(120 : Int)] : List Int) a71 F (seeCons q72 F fun a73 q74 => (seeX ([(95 : Int), (95 : Int), (116 : Int), (108 : Int), (115 : Int), (95 : Int), (103 : Int), (101 : Int), (116 : Int), (95 : Int), (97 : Int), (100 : Int), (100 : Int), (114 : Int)] : List Int) a73 F (seeNil q74 F (seeCons q69 F fun a75 q76 => (seeInts .i64 a75 F fun xs77 => (seeX ([(-4 : Int), (-4 : Int)] : List Int) xs77 F (seeNil q76 F (seeCons q57 F fun a78 q79 => (seeBlk 22 false true a78 F fun cs80 => (seeCons cs80 F fun a81 q82 => (seeVals a81 F fun xs83 => (seeCons xs83 F fun a84 q85 => (seeV (.sl 5 (0 : Nat) (none : Option Nat) (none : Option Nat)) a84 F (seeNil q85 F (seeNil q82 F (seeCons q79 F fun a86 q87 => (seeBlk 5 false true a86 F fun cs88 => (seeCons cs88 F fun a89 q90 => (seeInts .u8 a89 F fun xs_m_5_0 => (seeNil q90 F (seeNil q87 F (l x n_0_l i_1 i_2 i_11 i_49 xs_m_0_0 xs_m_5_0 (K .ret (selE 93 [(0, (.sl 0 (0 : Nat) (some n_0_l) (none : Option Nat))), (1, (.I .i64 i_1)), (2, (.I .i64 i_2)), (6, (.ptr 1 (0 : Nat) 0)), (7, (.B false)), (27, (.agg [(.I .i64 (0 : Int)), .nilf, .nilf, .nilf, (.I .i64 (19 : Int)), (.fn (.func 59) [] []), (.fn (.func 60) [] []), (.fn (.func 61) [] [(.ptr 2 (0 : Nat) 0)]), (.I .i64 (20 : Int)), (.fn (.func 62) [] []), (.fn (.func 63) [] []), (.fn (.func 64) [] [(.ptr 2 (0 : Nat) 0)]), (.I .i64 (22 : Int)), (.fn (.func 65) [] []), (.fn (.func 66) [] []), (.fn (.func 67) [] []), (.I .i64 (23 : Int)), (.fn (.func 68) [] []), (.fn (.func 69) [] []), (.fn (.func 67) [] [])])), (28, (.I .i64 (2 : Int)))]) [⟨[.ints .u8 xs_m_0_0], 5, false, false⟩, ⟨[.ints .i64 ([(0 : Int)] : List Int), .ints .i64 ([(0 : Int)] : List Int), .ints .i64 ([(0 : Int)] : List Int), .ints .i64 ([(0 : Int)] : List Int)], 88, false, true⟩, ⟨[.vals [(.sl 3 (0 : Nat) (none : Option Nat) (none : Option Nat))]], 22, false, true⟩, ⟨[.ints .u8 xs_m_5_0], 5, false, true⟩]) (fun (u0 : Int) => K .ret (selE 93 [(0, (.sl 0 (0 : Nat) (some n_0_l) (none : Option Nat))), (1, (.I .i64 i_1)), (2, (.I .i64 i_2)), (6, (.ptr 1 (0 : Nat) 0)), (7, (.B true)), (27, (.agg [(.I .i64 (0 : Int)), .nilf, .nilf, .nilf, (.I .i64 (19 : Int)), (.fn (.func 59) [] []), (.fn (.func 60) [] []), (.fn (.func 61) [] [(.ptr 2 (0 : Nat) 0)]), (.I .i64 (20 : Int)), (.fn (.func 62) [] []), (.fn (.func 63) [] []), (.fn (.func 64) [] [(.ptr 2 (0 : Nat) 0)]), (.I .i64 (22 : Int)), (.fn (.func 65) [] []), (.fn (.func 66) [] []), (.fn (.func 67) [] []), (.I .i64 (23 : Int)), (.fn (.func 68) [] []), (.fn (.func 69) [] []), (.fn (.func 67) [] [])])), (28, (.I .i64 (2 : Int)))]) [⟨[.ints .u8 xs_m_0_0], 5, false, false⟩, ⟨[.ints .i64 ([(2 : Int)] : List Int), .ints .i64 ([i_11] : List Int), .ints .i64 ([(12 : Int)] : List Int), .ints .i64 ([u0] : List Int)], 88, false, true⟩, ⟨[.vals [(.sl 3 (0 : Nat) (none : Option Nat) (none : Option Nat))]], 22, false, true⟩, ⟨[.ints .u8 xs_m_5_0], 5, false, true⟩]) (K (.exit 2) (selE 93 [(0, (.sl 0 (0 : Nat) (some n_0_l) (none : Option Nat))), (1, (.I .i64 i_1)), (2, (.I .i64 i_2)), (6, (.ptr 1 (0 : Nat) 0)), (7, .undef), (27, (.agg [(.I .i64 (0 : Int)), .nilf, .nilf, .nilf, (.I .i64 (19 : Int)), (.fn (.func 59) [] []), (.fn (.func 60) [] []), (.fn (.func 61) [] [(.ptr 2 (0 : Nat) 0)]), (.I .i64 (20 : Int)), (.fn (.func 62) [] []), (.fn (.func 63) [] []), (.fn (.func 64) [] [(.ptr 2 (0 : Nat) 0)]), (.I .i64 (22 : Int)), (.fn (.func 65) [] []), (.fn (.func 66) [] []), (.fn (.func 67) [] []), (.I .i64 (23 : Int)), (.fn (.func 68) [] []), (.fn (.func 69) [] []), (.fn (.func 67) [] [])])), (28, (.I .i64 (2 : Int)))]) [⟨[.ints .u8 xs_m_0_0], 5, false, false⟩, ⟨[.ints .i64 ([(0 : Int)] : List Int), .ints .i64 ([(0 : Int)] : List Int), .ints .i64 ([(0 : Int)] : List Int), .ints .i64 ([(0 : Int)] : List Int)], 88, false, true⟩, ⟨[.vals [(.sl 3 (0 : Nat) (none : Option Nat) (none : Option Nat))]], 22, false, true⟩, ⟨[.ints .u8 xs_m_5_0], 5, false, true⟩])))))))))))))))))))))))))))))))))))))))))))))))))))))))))))))))))))))))))))))))))))))))))))))
  | false => False
def WL45_10c (l : YL45_10c) (W : Masks) : Masks := fun r =>
  match Nat.beq r 10 with
  | true => some fun x ρ m K => VL45_10c l (match W r with | some lf => lf x ρ m K | none => False) x (tidyE 1 [0, 1, 2, 6, 8, 9, 10, 11, 27, 28, 49] ρ m) (tidyM 1 [0, 1, 2, 6, 8, 9, 10, 11, 27, 28, 49] ρ m) K
  | false => W r
set_option maxRecDepth 100000 in
theorem WL45_10c_ok {W : Masks} (hW : LoopsOk Try.prog 1 W) : LoopsOk Try.prog 1 (WL45_10c GL45_10c W) := by
  intro r lf h
  unfold WL45_10c at h
  split at h
  · cases h
    intro x E0 m0 w0 ds hS0 ha ρ m K E a w Q hS hρ hd h hQ
    have fb : (match W r with | some lf => lf x ρ m K | none => False) → (Code.loop x).wp Try.prog Q a w := fun h => by
      split at h
      · rename_i lf hlf
        exact hW r lf hlf x hS0 ha ρ m K E a w Q hS hρ hd h hQ
      · cases h
    obtain ⟨E2, hS2, hρ2⟩ := tidy_rel hS0 hS hρ [0, 1, 2, 6, 8, 9, 10, 11, 27, 28, 49]
    rw [ha] at hS2 hρ2
    unfold VL45_10c at h
    split at h
    · rename_i hlen
      replace h := seeSl_use h
      rcases h with h | ⟨r2, l3, c4, e1, h⟩
      · exact fb h
      replace h := seeN_use h
      rcases h with h | ⟨rfl, h⟩
      · exact fb h
      replace h := seeO_use h
      rcases h with h | ⟨n_0_l, rfl, h⟩
      · exact fb h
      replace h := seeNo_use h
      rcases h with h | ⟨rfl, h⟩
      · exact fb h
      replace h := seeI_use h
      rcases h with h | ⟨i_1, e5, h⟩
      · exact fb h
      replace h := seeI_use h
      rcases h with h | ⟨i_2, e6, h⟩
      · exact fb h
      replace h := seeV_use h
      rcases h with h | ⟨e7, h⟩
      · exact fb h
      replace h := seeV_use h
      rcases h with h | ⟨e8, h⟩
      · exact fb h
      replace h := seeV_use h
      rcases h with h | ⟨e9, h⟩
      · exact fb h
      replace h := seeV_use h
      rcases h with h | ⟨e10, h⟩
      · exact fb h
      replace h := seeI_use h
      rcases h with h | ⟨i_11, e11, h⟩
      · exact fb h
      replace h := seeV_use h
      rcases h with h | ⟨e12, h⟩
      · exact fb h
      replace h := seeV_use h
      rcases h with h | ⟨e13, h⟩
      · exact fb h
      replace h := seeI_use h
      rcases h with h | ⟨i_49, e14, h⟩
      · exact fb h
      replace h := seeCons_use h
      rcases h with h | ⟨a15, q16, eqm, h⟩
      · exact fb h
      replace h := seeBlk_use h
      rcases h with h | ⟨cs17, rfl, h⟩
      · exact fb h
      replace h := seeCons_use h
      rcases h with h | ⟨a18, q19, rfl, h⟩
      · exact fb h
      replace h := seeInts_use h
      rcases h with h | ⟨xs_m_0_0, rfl, h⟩
      · exact fb h
      replace h := seeNil_use h
      rcases h with h | ⟨rfl, h⟩
      · exact fb h
      replace h := seeCons_use h
      rcases h with h | ⟨a20, q21, rfl, h⟩
      · exact fb h
      replace h := seeBlk_use h
      rcases h with h | ⟨cs22, rfl, h⟩
      · exact fb h
      replace h := seeCons_use h
      rcases h with h | ⟨a23, q24, rfl, h⟩
      · exact fb h
      replace h := seeInts_use h
      rcases h with h | ⟨xs25, rfl, h⟩
      · exact fb h
      replace h := seeX_use h
      rcases h with h | ⟨rfl, h⟩
      · exact fb h
      replace h := seeCons_use h
      rcases h with h | ⟨a26, q27, rfl, h⟩
      · exact fb h
      replace h := seeInts_use h
      rcases h with h | ⟨xs28, rfl, h⟩
      · exact fb h
      replace h := seeX_use h
      rcases h with h | ⟨rfl, h⟩
      · exact fb h
      replace h := seeCons_use h
      rcases h with h | ⟨a29, q30, rfl, h⟩
      · exact fb h
      replace h := seeInts_use h
      rcases h with h | ⟨xs31, rfl, h⟩
      · exact fb h
      replace h := seeX_use h
      rcases h with h | ⟨rfl, h⟩
      · exact fb h
      replace h := seeCons_use h
      rcases h with h | ⟨a32, q33, rfl, h⟩
      · exact fb h
      replace h := seeInts_use h
      rcases h with h | ⟨xs34, rfl, h⟩
      · exact fb h
      replace h := seeX_use h
      rcases h with h | ⟨rfl, h⟩
      · exact fb h
      replace h := seeNil_use h
      rcases h with h | ⟨rfl, h⟩
      · exact fb h
      replace h := seeCons_use h
      rcases h with h | ⟨a35, q36, rfl, h⟩
      · exact fb h
      replace h := seeBlk_use h
      rcases h with h | ⟨cs37, rfl, h⟩
      · exact fb h
      replace h := seeCons_use h
      rcases h with h | ⟨a38, q39, rfl, h⟩
      · exact fb h
      replace h := seeInts_use h
      rcases h with h | ⟨xs40, rfl, h⟩
      · exact fb h
      replace h := seeX_use h
      rcases h with h | ⟨rfl, h⟩
      · exact fb h
      replace h := seeCons_use h
      rcases h with h | ⟨a41, q42, rfl, h⟩
      · exact fb h
      replace h := seeVals_use h
      rcases h with h | ⟨xs43, rfl, h⟩
      · exact fb h
      replace h := seeCons_use h
      rcases h with h | ⟨a44, q45, rfl, h⟩
      · exact fb h
      replace h := seeV_use h
      rcases h with h | ⟨rfl, h⟩
      · exact fb h
      replace h := seeNil_use h
      rcases h with h | ⟨rfl, h⟩
      · exact fb h
      replace h := seeCons_use h
      rcases h with h | ⟨a46, q47, rfl, h⟩
      · exact fb h
      replace h := seeVals_use h
      rcases h with h | ⟨xs48, rfl, h⟩
      · exact fb h
      replace h := seeCons_use h
      rcases h with h | ⟨a49, q50, rfl, h⟩
      · exact fb h
      replace h := seeV_use h
      rcases h with h | ⟨rfl, h⟩
      · exact fb h
      replace h := seeNil_use h
      rcases h with h | ⟨rfl, h⟩
      · exact fb h
      replace h := seeCons_use h
      rcases h with h | ⟨a51, q52, rfl, h⟩
      · exact fb h
      replace h := seeVals_use h
      rcases h with h | ⟨xs53, rfl, h⟩
      · exact fb h
      replace h := seeCons_use h
      rcases h with h | ⟨a54, q55, rfl, h⟩
      · exact fb h
      replace h := seeV_use h
      rcases h with h | ⟨rfl, h⟩
      · exact fb h
      replace h := seeNil_use h
      rcases h with h | ⟨rfl, h⟩
      · exact fb h
      replace h := seeNil_use h
      rcases h with h | ⟨rfl, h⟩
      · exact fb h
      replace h := seeCons_use h
      rcases h with h | ⟨a56, q57, rfl, h⟩
      · exact fb h
      replace h := seeBlk_use h
      rcases h with h | ⟨cs58, rfl, h⟩
      · exact fb h
      replace h := seeCons_use h
      rcases h with h | ⟨a59, q60, rfl, h⟩
      · exact fb h
      replace h := seeInts_use h
      rcases h with h | ⟨xs61, rfl, h⟩
      · exact fb h
      replace h := seeX_use h
      rcases h with h | ⟨rfl, h⟩
      · exact fb h
      replace h := seeCons_use h
      rcases h with h | ⟨a62, q63, rfl, h⟩
      · exact fb h
      replace h := seeInts_use h
      rcases h with h | ⟨xs64, rfl, h⟩
      · exact fb h
      replace h := seeX_use h
      rcases h with h | ⟨rfl, h⟩
      · exact fb h
      replace h := seeCons_use h
      rcases h with h | ⟨a65, q66, rfl, h⟩
      · exact fb h
      replace h := seeInts_use h
      rcases h with h | ⟨xs67, rfl, h⟩
      · exact fb h
      replace h := seeX_use h
      rcases h with h | ⟨rfl, h⟩
      · exact fb h
      replace h := seeCons_use h
      rcases h with h | ⟨a68, q69, rfl, h⟩
      · exact fb h
      replace h := seeStrs_use h
      rcases h with h | ⟨xs70, rfl, h⟩
      · exact fb h
      replace h := seeCons_use h
      rcases h with h | ⟨a71, q72, rfl, h⟩
      · exact fb h
      replace h := seeX_use h
      rcases h with h | ⟨rfl, h⟩
      · exact fb h
      replace h := seeCons_use h
      rcases h with h | ⟨a73, q74, rfl, h⟩
      · exact fb h
      replace h := seeX_use h
      rcases h with h | ⟨rfl, h⟩
      · exact fb h
      replace h := seeNil_use h
      rcases h with h | ⟨rfl, h⟩
      · exact fb h
      replace h := seeCons_use h
      rcases h with h | ⟨a75, q76, rfl, h⟩
      · exact fb h
      replace h := seeInts_use h
      rcases h with h | ⟨xs77, rfl, h⟩
      · exact fb h
      replace h := seeX_use h
      rcases h with h | ⟨rfl, h⟩
      · exact fb h
      replace h := seeNil_use h
      rcases h with h | ⟨rfl, h⟩
      · exact fb h
      replace h := seeCons_use h
      rcases h with h | ⟨a78, q79, rfl, h⟩
      · exact fb h
      replace h := seeBlk_use h
      rcases h with h | ⟨cs80, rfl, h⟩
      · exact fb h
      replace h := seeCons_use h
      rcases h with h | ⟨a81, q82, rfl, h⟩
      · exact fb h
      replace h := seeVals_use h
      rcases h with h | ⟨xs83, rfl, h⟩
      · exact fb h
      replace h := seeCons_use h
      rcases h with h | ⟨a84, q85, rfl, h⟩
      · exact fb h
      replace h := seeV_use h
      rcases h with h | ⟨rfl, h⟩
      · exact fb h
      replace h := seeNil_use h
      rcases h with h | ⟨rfl, h⟩
      · exact fb h
      replace h := seeNil_use h
      rcases h with h | ⟨rfl, h⟩
      · exact fb h
      replace h := seeCons_use h
      rcases h with h | ⟨a86, q87, rfl, h⟩
      · exact fb h
      replace h := seeBlk_use h
      rcases h with h | ⟨cs88, rfl, h⟩
      · exact fb h
      replace h := seeCons_use h
      rcases h with h | ⟨a89, q90, rfl, h⟩
      · exact fb h
      replace h := seeInts_use h
      rcases h with h | ⟨xs_m_5_0, rfl, h⟩
      · exact fb h
      replace h := seeNil_use h
      rcases h with h | ⟨rfl, h⟩
      · exact fb h
      replace h := seeNil_use h
      rcases h with h | ⟨rfl, h⟩
      · exact fb h
      obtain ⟨rfl, n, h⟩ := h
      exact loop_use named (T70_2_ok C0_ok) (LoopsOk.none _ _) (RL45_10c_ok G70_2 K n _ _ _ _ _ _ _) h hS0 ha hlen ⟨e1, e5, e6, e7, e8, e9, e10, e11, e12, e13, e14, trivial⟩ (eqm ▸ hS2) hρ2 hd hQ
    · cases h
  · exact hW r lf h
abbrev YL45_10d : Type := Code → Nat → Int → Int → Int → Int → List Int → List Int → (Prop) → (Int → Prop) → (Prop) → Prop
def HL45_10d (f70_2 : Y70_2) (rec : Int → Prop) (n_0_l : Nat) (i_1 : Int) (i_2 : Int) (i_11 : Int) (i_49 : Int) (xs_m_0_0 : List Int) (xs_m_5_0 : List Int) (k1 : Prop) (k2 : Int → Prop) (k3 : Prop) : Prop :=
  (bif (decide (i_49 < (16 : Int))) then (bif (decide (i_1 < (0 : Int))) then (k1) else (bif (decide (i_11 < (0 : Int))) then (k1) else (bif (decide (i_11 > (IntKind.wrap .i64 (((n_0_l : Nat) : Int) - (16 : Int))))) then (k1) else (bif ((decide ((0 : Int) ≤ (IntKind.wrap .i64 (i_11 + (16 : Int))))) && ((decide ((Int.toNat (IntKind.wrap .i64 (i_11 + (16 : Int)))) ≤ ((List.length xs_m_0_0) - (0 : Nat)))) && ((decide ((0 : Int) ≤ i_11)) && (decide (i_11 ≤ (IntKind.wrap .i64 (i_11 + (16 : Int)))))))) then (f70_2 (Int.toNat i_11) ((Int.toNat (IntKind.wrap .i64 (i_11 + (16 : Int)))) - (Int.toNat i_11)) xs_m_0_0 (4 : Int) (12 : Int) (19 : Int) (4 : Int) ([(120 : Int)] : List Int) ([(95 : Int), (95 : Int), (116 : Int), (108 : Int), (115 : Int), (95 : Int), (103 : Int), (101 : Int), (116 : Int), (95 : Int), (97 : Int), (100 : Int), (100 : Int), (114 : Int)] : List Int) (-4 : Int) (-4 : Int) (fun (xs2 : List Int) => (bif (xs2 == ([(102 : Int), (72 : Int), (141 : Int), (61 : Int), (0 : Int), (0 : Int), (0 : Int), (0 : Int), (102 : Int), (102 : Int), (72 : Int), (232 : Int), (0 : Int), (0 : Int), (0 : Int), (0 : Int)] : List Int)) then (k2 i_49) else (rec (IntKind.wrap .i64 (i_49 + (1 : Int))))))) else False)))) else (k3))
def RL45_10d (f70_2 : Y70_2) : Nat → Nat → Int → Int → Int → Int → List Int → List Int → (Prop) → (Int → Prop) → (Prop) → Prop
  | 0, _, _, _, _, _, _, _, _, _, _ => False
  | n + 1, n_0_l, i_1, i_2, i_11, i_49, xs_m_0_0, xs_m_5_0, k1, k2, k3 => HL45_10d f70_2 (fun (i_49 : Int) => RL45_10d f70_2 n n_0_l i_1 i_2 i_11 i_49 xs_m_0_0 xs_m_5_0 k1 k2 k3) n_0_l i_1 i_2 i_11 i_49 xs_m_0_0 xs_m_5_0 k1 k2 k3
noncomputable def XL45_10d : Code := sub [true, true, false, true, false, false, true, true, false, false, true, true, true, true, true, false, false] (bodyOf Try.prog 45)
theorem HL45_10d_ok (f70_2 : Y70_2) (n : Nat) (n_0_l : Nat) (i_1 : Int) (i_2 : Int) (i_11 : Int) (i_49 : Int) (xs_m_0_0 : List Int) (xs_m_5_0 : List Int) (K : Ex → Env → Mem → Prop) : cround 1 [0, 1, 2, 6, 8, 9, 10, 11, 27, 28, 49] [0, 1, 2, 6, 7, 27, 28] (fun ρ m K => cexec Try.prog (T70_2 f70_2 C0) (fun _ => none) 1 1000 XL45_10d ρ m K) (n + 1) (selE 93 [(0, (.sl 0 (0 : Nat) (some n_0_l) (none : Option Nat))), (1, (.I .i64 i_1)), (2, (.I .i64 i_2)), (6, (.ptr 1 (0 : Nat) 0)), (8, (.I .i64 (1 : Int))), (9, (.ptr 2 (0 : Nat) 0)), (10, (.sl 3 (0 : Nat) (none : Option Nat) (none : Option Nat))), (11, (.I .i64 i_11)), (27, (.agg [(.I .i64 (0 : Int)), .nilf, .nilf, .nilf, (.I .i64 (19 : Int)), (.fn (.func 59) [] []), (.fn (.func 60) [] []), (.fn (.func 61) [] [(.ptr 4 (0 : Nat) 0)]), (.I .i64 (20 : Int)), (.fn (.func 62) [] []), (.fn (.func 63) [] []), (.fn (.func 64) [] [(.ptr 4 (0 : Nat) 0)]), (.I .i64 (22 : Int)), (.fn (.func 65) [] []), (.fn (.func 66) [] []), (.fn (.func 67) [] []), (.I .i64 (23 : Int)), (.fn (.func 68) [] []), (.fn (.func 69) [] []), (.fn (.func 67) [] [])])), (28, (.I .i64 (1 : Int))), (49, (.I .i64 i_49))]) [⟨[.ints .u8 xs_m_0_0], 5, false, false⟩, ⟨[.ints .i64 ([(0 : Int)] : List Int), .ints .i64 ([(0 : Int)] : List Int), .ints .i64 ([(0 : Int)] : List Int), .ints .i64 ([(0 : Int)] : List Int)], 88, false, true⟩, ⟨[.ints .i64 ([(19 : Int)] : List Int), .vals [(.fn (.func 59) [] [])], .vals [(.fn (.func 60) [] [])], .vals [(.fn (.func 61) [] [(.ptr 4 (0 : Nat) 0)])]], 83, false, true⟩, ⟨[.ints .i64 ([(4 : Int), (12 : Int)] : List Int), .ints .i64 ([(4 : Int), (4 : Int)] : List Int), .ints .i64 ([(19 : Int), (4 : Int)] : List Int), .strs ([([(120 : Int)] : List Int), ([(95 : Int), (95 : Int), (116 : Int), (108 : Int), (115 : Int), (95 : Int), (103 : Int), (101 : Int), (116 : Int), (95 : Int), (97 : Int), (100 : Int), (100 : Int), (114 : Int)] : List Int)] : List (List Int)), .ints .i64 ([(-4 : Int), (-4 : Int)] : List Int)], 32, false, true⟩, ⟨[.vals [(.sl 5 (0 : Nat) (none : Option Nat) (none : Option Nat))]], 22, false, true⟩, ⟨[.ints .u8 xs_m_5_0], 5, false, true⟩] K =
    HL45_10d f70_2 (fun (i_49 : Int) => cround 1 [0, 1, 2, 6, 8, 9, 10, 11, 27, 28, 49] [0, 1, 2, 6, 7, 27, 28] (fun ρ m K => cexec Try.prog (T70_2 f70_2 C0) (fun _ => none) 1 1000 XL45_10d ρ m K) n (selE 93 [(0, (.sl 0 (0 : Nat) (some n_0_l) (none : Option Nat))), (1, (.I .i64 i_1)), (2, (.I .i64 i_2)), (6, (.ptr 1 (0 : Nat) 0)), (8, (.I .i64 (1 : Int))), (9, (.ptr 2 (0 : Nat) 0)), (10, (.sl 3 (0 : Nat) (none : Option Nat) (none : Option Nat))), (11, (.I .i64 i_11)), (27, (.agg [(.I .i64 (0 : Int)), .nilf, .nilf, .nilf, (.I .i64 (19 : Int)), (.fn (.func 59) [] []), (.fn (.func 60) [] []), (.fn (.func 61) [] [(.ptr 4 (0 : Nat) 0)]), (.I .i64 (20 : Int)), (.fn (.func 62) [] []), (.fn (.func 63) [] []), (.fn (.func 64) [] [(.ptr 4 (0 : Nat) 0)]), (.I .i64 (22 : Int)), (.fn (.func 65) [] []), (.fn (.func 66) [] []), (.fn (.func 67) [] []), (.I .i64 (23 : Int)), (.fn (.func 68) [] []), (.fn (.func 69) [] []), (.fn (.func 67) [] [])])), (28, (.I .i64 (1 : Int))), (49, (.I .i64 i_49))]) [⟨[.ints .u8 xs_m_0_0], 5, false, false⟩, ⟨[.ints .i64 ([(0 : Int)] : List Int), .ints .i64 ([(0 : Int)] : List Int), .ints .i64 ([(0 : Int)] : List Int), .ints .i64 ([(0 : Int)] : List Int)], 88, false, true⟩, ⟨[.ints .i64 ([(19 : Int)] : List Int), .vals [(.fn (.func 59) [] [])], .vals [(.fn (.func 60) [] [])], .vals [(.fn (.func 61) [] [(.ptr 4 (0 : Nat) 0)])]], 83, false, true⟩, ⟨[.ints .i64 ([(4 : Int), (12 : Int)] : List Int), .ints .i64 ([(4 : Int), (4 : Int)] : List Int), .ints .i64 ([(19 : Int), (4 : Int)] : List Int), .strs ([([(120 : Int)] : List Int), ([(95 : Int), (95 : Int), (116 : Int), (108 : Int), (115 : Int), (95 : Int), (103 : Int), (101 : Int), (116 : Int), (95 : Int), (97 : Int), (100 : Int), (100 : Int), (114 : Int)] : List Int)] : List (List Int)), .ints .i64 ([(-4 : Int), (-4 : Int)] : List Int)], 32, false, true⟩, ⟨[.vals [(.sl 5 (0 : Nat) (none : Option Nat) (none : Option Nat))]], 22, false, true⟩, ⟨[.ints .u8 xs_m_5_0], 5, false, true⟩] K) n_0_l i_1 i_2 i_11 i_49 xs_m_0_0 xs_m_5_0 (K .ret (selE 93 [(0, (.sl 0 (0 : Nat) (some n_0_l) (none : Option Nat))), (1, (.I .i64 i_1)), (2, (.I .i64 i_2)), (6, (.ptr 1 (0 : Nat) 0)), (7, (.B false)), (27, (.agg [(.I .i64 (0 : Int)), .nilf, .nilf, .nilf, (.I .i64 (19 : Int)), (.fn (.func 59) [] []), (.fn (.func 60) [] []), (.fn (.func 61) [] [(.ptr 2 (0 : Nat) 0)]), (.I .i64 (20 : Int)), (.fn (.func 62) [] []), (.fn (.func 63) [] []), (.fn (.func 64) [] [(.ptr 2 (0 : Nat) 0)]), (.I .i64 (22 : Int)), (.fn (.func 65) [] []), (.fn (.func 66) [] []), (.fn (.func 67) [] []), (.I .i64 (23 : Int)), (.fn (.func 68) [] []), (.fn (.func 69) [] []), (.fn (.func 67) [] [])])), (28, (.I .i64 (1 : Int)))]) [⟨[.ints .u8 xs_m_0_0], 5, false, false⟩, ⟨[.ints .i64 ([(0 : Int)] : List Int), .ints .i64 ([(0 : Int)] : List Int), .ints .i64 ([(0 : Int)] : List Int), .ints .i64 ([(0 : Int)] : List Int)], 88, false, true⟩, ⟨[.vals [(.sl 3 (0 : Nat) (none : Option Nat) (none : Option Nat))]], 22, false, true⟩, ⟨[.ints .u8 xs_m_5_0], 5, false, true⟩]) (fun (u0 : Int) => K .ret (selE 93 [(0, (.sl 0 (0 : Nat) (some n_0_l) (none : Option Nat))), (1, (.I .i64 i_1)), (2, (.I .i64 i_2)), (6, (.ptr 1 (0 : Nat) 0)), (7, (.B true)), (27, (.agg [(.I .i64 (0 : Int)), .nilf, .nilf, .nilf, (.I .i64 (19 : Int)), (.fn (.func 59) [] []), (.fn (.func 60) [] []), (.fn (.func 61) [] [(.ptr 2 (0 : Nat) 0)]), (.I .i64 (20 : Int)), (.fn (.func 62) [] []), (.fn (.func 63) [] []), (.fn (.func 64) [] [(.ptr 2 (0 : Nat) 0)]), (.I .i64 (22 : Int)), (.fn (.func 65) [] []), (.fn (.func 66) [] []), (.fn (.func 67) [] []), (.I .i64 (23 : Int)), (.fn (.func 68) [] []), (.fn (.func 69) [] []), (.fn (.func 67) [] [])])), (28, (.I .i64 (1 : Int)))]) [⟨[.ints .u8 xs_m_0_0], 5, false, false⟩, ⟨[.ints .i64 ([(1 : Int)] : List Int), .ints .i64 ([i_11] : List Int), .ints .i64 ([(16 : Int)] : List Int), .ints .i64 ([u0] : List Int)], 88, false, true⟩, ⟨[.vals [(.sl 3 (0 : Nat) (none : Option Nat) (none : Option Nat))]], 22, false, true⟩, ⟨[.ints .u8 xs_m_5_0], 5, false, true⟩]) (K (.exit 2) (selE 93 [(0, (.sl 0 (0 : Nat) (some n_0_l) (none : Option Nat))), (1, (.I .i64 i_1)), (2, (.I .i64 i_2)), (6, (.ptr 1 (0 : Nat) 0)), (7, .undef), (27, (.agg [(.I .i64 (0 : Int)), .nilf, .nilf, .nilf, (.I .i64 (19 : Int)), (.fn (.func 59) [] []), (.fn (.func 60) [] []), (.fn (.func 61) [] [(.ptr 2 (0 : Nat) 0)]), (.I .i64 (20 : Int)), (.fn (.func 62) [] []), (.fn (.func 63) [] []), (.fn (.func 64) [] [(.ptr 2 (0 : Nat) 0)]), (.I .i64 (22 : Int)), (.fn (.func 65) [] []), (.fn (.func 66) [] []), (.fn (.func 67) [] []), (.I .i64 (23 : Int)), (.fn (.func 68) [] []), (.fn (.func 69) [] []), (.fn (.func 67) [] [])])), (28, (.I .i64 (1 : Int)))]) [⟨[.ints .u8 xs_m_0_0], 5, false, false⟩, ⟨[.ints .i64 ([(0 : Int)] : List Int), .ints .i64 ([(0 : Int)] : List Int), .ints .i64 ([(0 : Int)] : List Int), .ints .i64 ([(0 : Int)] : List Int)], 88, false, true⟩, ⟨[.vals [(.sl 3 (0 : Nat) (none : Option Nat) (none : Option Nat))]], 22, false, true⟩, ⟨[.ints .u8 xs_m_5_0], 5, false, true⟩]) := by kernel_rfl
theorem RL45_10d_ok (f70_2 : Y70_2) (K : Ex → Env → Mem → Prop) : ∀ (n : Nat) (n_0_l : Nat) (i_1 : Int) (i_2 : Int) (i_11 : Int) (i_49 : Int) (xs_m_0_0 : List Int) (xs_m_5_0 : List Int), cround 1 [0, 1, 2, 6, 8, 9, 10, 11, 27, 28, 49] [0, 1, 2, 6, 7, 27, 28] (fun ρ m K => cexec Try.prog (T70_2 f70_2 C0) (fun _ => none) 1 1000 XL45_10d ρ m K) n (selE 93 [(0, (.sl 0 (0 : Nat) (some n_0_l) (none : Option Nat))), (1, (.I .i64 i_1)), (2, (.I .i64 i_2)), (6, (.ptr 1 (0 : Nat) 0)), (8, (.I .i64 (1 : Int))), (9, (.ptr 2 (0 : Nat) 0)), (10, (.sl 3 (0 : Nat) (none : Option Nat) (none : Option Nat))), (11, (.I .i64 i_11)), (27, (.agg [(.I .i64 (0 : Int)), .nilf, .nilf, .nilf, (.I .i64 (19 : Int)), (.fn (.func 59) [] []), (.fn (.func 60) [] []), (.fn (.func 61) [] [(.ptr 4 (0 : Nat) 0)]), (.I .i64 (20 : Int)), (.fn (.func 62) [] []), (.fn (.func 63) [] []), (.fn (.func 64) [] [(.ptr 4 (0 : Nat) 0)]), (.I .i64 (22 : Int)), (.fn (.func 65) [] []), (.fn (.func 66) [] []), (.fn (.func 67) [] []), (.I .i64 (23 : Int)), (.fn (.func 68) [] []), (.fn (.func 69) [] []), (.fn (.func 67) [] [])])), (28, (.I .i64 (1 : Int))), (49, (.I .i64 i_49))]) [⟨[.ints .u8 xs_m_0_0], 5, false, false⟩, ⟨[.ints .i64 ([(0 : Int)] : List Int), .ints .i64 ([(0 : Int)] : List Int), .ints .i64 ([(0 : Int)] : List Int), .ints .i64 ([(0 : Int)] : List Int)], 88, false, true⟩, ⟨[.ints .i64 ([(19 : Int)] : List Int), .vals [(.fn (.func 59) [] [])], .vals [(.fn (.func 60) [] [])], .vals [(.fn (.func 61) [] [(.ptr 4 (0 : Nat) 0)])]], 83, false, true⟩, ⟨[.ints .i64 ([(4 : Int), (12 : Int)] : List Int), .ints .i64 ([(4 : Int), (4 : Int)] : List Int), .ints .i64 ([(19 : Int), (4 : Int)] : List Int), .strs ([([(120 : Int)] : List Int), ([(95 : Int), (95 : Int), (116 : Int), (108 : Int), (115 : Int), (95 : Int), (103 : Int), (101 : Int), (116 : Int), (95 : Int), (97 : Int), (100 : Int), (100 : Int), (114 : Int)] : List Int)] : List (List Int)), .ints .i64 ([(-4 : Int), (-4 : Int)] : List Int)], 32, false, true⟩, ⟨[.vals [(.sl 5 (0 : Nat) (none : Option Nat) (none : Option Nat))]], 22, false, true⟩, ⟨[.ints .u8 xs_m_5_0], 5, false, true⟩] K = RL45_10d f70_2 n n_0_l i_1 i_2 i_11 i_49 xs_m_0_0 xs_m_5_0 (K .ret (selE 93 [(0, (.sl 0 (0 : Nat) (some n_0_l) (none : Option Nat))), (1, (.I .i64 i_1)), (2, (.I .i64 i_2)), (6, (.ptr 1 (0 : Nat) 0)), (7, (.B false)), (27, (.agg [(.I .i64 (0 : Int)), .nilf, .nilf, .nilf, (.I .i64 (19 : Int)), (.fn (.func 59) [] []), (.fn (.func 60) [] []), (.fn (.func 61) [] [(.ptr 2 (0 : Nat) 0)]), (.I .i64 (20 : Int)), (.fn (.func 62) [] []), (.fn (.func 63) [] []), (.fn (.func 64) [] [(.ptr 2 (0 : Nat) 0)]), (.I .i64 (22 : Int)), (.fn (.func 65) [] []), (.fn (.func 66) [] []), (.fn (.func 67) [] []), (.I .i64 (23 : Int)), (.fn (.func 68) [] []), (.fn (.func 69) [] []), (.fn (.func 67) [] [])])), (28, (.I .i64 (1 : Int)))]) [⟨[.ints .u8 xs_m_0_0], 5, false, false⟩, ⟨[.ints .i64 ([(0 : Int)] : List Int), .ints .i64 ([(0 : Int)] : List Int), .ints .i64 ([(0 : Int)] : List Int), .ints .i64 ([(0 : Int)] : List Int)], 88, false, true⟩, ⟨[.vals [(.sl 3 (0 : Nat) (none : Option Nat) (none : Option Nat))]], 22, false, true⟩, ⟨[.ints .u8 xs_m_5_0], 5, false, true⟩]) (fun (u0 : Int) => K .ret (selE 93 [(0, (.sl 0 (0 : Nat) (some n_0_l) (none : Option Nat))), (1, (.I .i64 i_1)), (2, (.I .i64 i_2)), (6, (.ptr 1 (0 : Nat) 0)), (7, (.B true)), (27, (.agg [(.I .i64 (0 : Int)), .nilf, .nilf, .nilf, (.I .i64 (19 : Int)), (.fn (.func 59) [] []), (.fn (.func 60) [] []), (.fn (.func 61) [] [(.ptr 2 (0 : Nat) 0)]), (.I .i64 (20 : Int)), (.fn (.func 62) [] []), (.fn (.func 63) [] []), (.fn (.func 64) [] [(.ptr 2 (0 : Nat) 0)]), (.I .i64 (22 : Int)), (.fn (.func 65) [] []), (.fn (.func 66) [] []), (.fn (.func 67) [] []), (.I .i64 (23 : Int)), (.fn (.func 68) [] []), (.fn (.func 69) [] []), (.fn (.func 67) [] [])])), (28, (.I .i64 (1 : Int)))]) [⟨[.ints .u8 xs_m_0_0], 5, false, false⟩, ⟨[.ints .i64 ([(1 : Int)] : List Int), .ints .i64 ([i_11] : List Int), .ints .i64 ([(16 : Int)] : List Int), .ints .i64 ([u0] : List Int)], 88, false, true⟩, ⟨[.vals [(.sl 3 (0 : Nat) (none : Option Nat) (none : Option Nat))]], 22, false, true⟩, ⟨[.ints .u8 xs_m_5_0], 5, false, true⟩]) (K (.exit 2) (selE 93 [(0, (.sl 0 (0 : Nat) (some n_0_l) (none : Option Nat))), (1, (.I .i64 i_1)), (2, (.I .i64 i_2)), (6, (.ptr 1 (0 : Nat) 0)), (7, .undef), (27, (.agg [(.I .i64 (0 : Int)), .nilf, .nilf, .nilf, (.I .i64 (19 : Int)), (.fn (.func 59) [] []), (.fn (.func 60) [] []), (.fn (.func 61) [] [(.ptr 2 (0 : Nat) 0)]), (.I .i64 (20 : Int)), (.fn (.func 62) [] []), (.fn (.func 63) [] []), (.fn (.func 64) [] [(.ptr 2 (0 : Nat) 0)]), (.I .i64 (22 : Int)), (.fn (.func 65) [] []), (.fn (.func 66) [] []), (.fn (.func 67) [] []), (.I .i64 (23 : Int)), (.fn (.func 68) [] []), (.fn (.func 69) [] []), (.fn (.func 67) [] [])])), (28, (.I .i64 (1 : Int)))]) [⟨[.ints .u8 xs_m_0_0], 5, false, false⟩, ⟨[.ints .i64 ([(0 : Int)] : List Int), .ints .i64 ([(0 : Int)] : List Int), .ints .i64 ([(0 : Int)] : List Int), .ints .i64 ([(0 : Int)] : List Int)], 88, false, true⟩, ⟨[.vals [(.sl 3 (0 : Nat) (none : Option Nat) (none : Option Nat))]], 22, false, true⟩, ⟨[.ints .u8 xs_m_5_0], 5, false, true⟩])
  | 0, n_0_l, i_1, i_2, i_11, i_49, xs_m_0_0, xs_m_5_0 => rfl
  | n + 1, n_0_l, i_1, i_2, i_11, i_49, xs_m_0_0, xs_m_5_0 => by
    have ih := RL45_10d_ok f70_2 K n
    rw [HL45_10d_ok f70_2 n n_0_l i_1 i_2 i_11 i_49 xs_m_0_0 xs_m_5_0 K]
    show HL45_10d f70_2 _ n_0_l i_1 i_2 i_11 i_49 xs_m_0_0 xs_m_5_0 (K .ret (selE 93 [(0, (.sl 0 (0 : Nat) (some n_0_l) (none : Option Nat))), (1, (.I .i64 i_1)), (2, (.I .i64 i_2)), (6, (.ptr 1 (0 : Nat) 0)), (7, (.B false)), (27, (.agg [(.I .i64 (0 : Int)), .nilf, .nilf, .nilf, (.I .i64 (19 : Int)), (.fn (.func 59) [] []), (.fn (.func 60) [] []), (.fn (.func 61) [] [(.ptr 2 (0 : Nat) 0)]), (.I .i64 (20 : Int)), (.fn (.func 62) [] []), (.fn (.func 63) [] []), (.fn (.func 64) [] [(.ptr 2 (0 : Nat) 0)]), (.I .i64 (22 : Int)), (.fn (.func 65) [] []), (.fn (.func 66) [] []), (.fn (.func 67) [] []), (.I .i64 (23 : Int)), (.fn (.func 68) [] []), (.fn (.func 69) [] []), (.fn (.func 67) [] [])])), (28, (.I .i64 (1 : Int)))]) [⟨[.ints .u8 xs_m_0_0], 5, false, false⟩, ⟨[.ints .i64 ([(0 : Int)] : List Int), .ints .i64 ([(0 : Int)] : List Int), .ints .i64 ([(0 : Int)] : List Int), .ints .i64 ([(0 : Int)] : List Int)], 88, false, true⟩, ⟨[.vals [(.sl 3 (0 : Nat) (none : Option Nat) (none : Option Nat))]], 22, false, true⟩, ⟨[.ints .u8 xs_m_5_0], 5, false, true⟩]) (fun (u0 : Int) => K .ret (selE 93 [(0, (.sl 0 (0 : Nat) (some n_0_l) (none : Option Nat))), (1, (.I .i64 i_1)), (2, (.I .i64 i_2)), (6, (.ptr 1 (0 : Nat) 0)), (7, (.B true)), (27, (.agg [(.I .i64 (0 : Int)), .nilf, .nilf, .nilf, (.I .i64 (19 : Int)), (.fn (.func 59) [] []), (.fn (.func 60) [] []), (.fn (.func 61) [] [(.ptr 2 (0 : Nat) 0)]), (.I .i64 (20 : Int)), (.fn (.func 62) [] []), (.fn (.func 63) [] []), (.fn (.func 64) [] [(.ptr 2 (0 : Nat) 0)]), (.I .i64 (22 : Int)), (.fn (.func 65) [] []), (.fn (.func 66) [] []), (.fn (.func 67) [] []), (.I .i64 (23 : Int)), (.fn (.func 68) [] []), (.fn (.func 69) [] []), (.fn (.func 67) [] [])])), (28, (.I .i64 (1 : Int)))]) [⟨[.ints .u8 xs_m_0_0], 5, false, false⟩, ⟨[.ints .i64 ([(1 : Int)] : List Int), .ints .i64 ([i_11] : List Int), .ints .i64 ([(16 : Int)] : List Int), .ints .i64 ([u0] : List Int)], 88, false, true⟩, ⟨[.vals [(.sl 3 (0 : Nat) (none : Option Nat) (none : Option Nat))]], 22, false, true⟩, ⟨[.ints .u8 xs_m_5_0], 5, false, true⟩]) (K (.exit 2) (selE 93 [(0, (.sl 0 (0 : Nat) (some n_0_l) (none : Option Nat))), (1, (.I .i64 i_1)), (2, (.I .i64 i_2)), (6, (.ptr 1 (0 : Nat) 0)), (7, .undef), (27, (.agg [(.I .i64 (0 : Int)), .nilf, .nilf, .nilf, (.I .i64 (19 : Int)), (.fn (.func 59) [] []), (.fn (.func 60) [] []), (.fn (.func 61) [] [(.ptr 2 (0 : Nat) 0)]), (.I .i64 (20 : Int)), (.fn (.func 62) [] []), (.fn (.func 63) [] []), (.fn (.func 64) [] [(.ptr 2 (0 : Nat) 0)]), (.I .i64 (22 : Int)), (.fn (.func 65) [] []), (.fn (.func 66) [] []), (.fn (.func 67) [] []), (.I .i64 (23 : Int)), (.fn (.func 68) [] []), (.fn (.func 69) [] []), (.fn (.func 67) [] [])])), (28, (.I .i64 (1 : Int)))]) [⟨[.ints .u8 xs_m_0_0], 5, false, false⟩, ⟨[.ints .i64 ([(0 : Int)] : List Int), .ints .i64 ([(0 : Int)] : List Int), .ints .i64 ([(0 : Int)] : List Int), .ints .i64 ([(0 : Int)] : List Int)], 88, false, true⟩, ⟨[.vals [(.sl 3 (0 : Nat) (none : Option Nat) (none : Option Nat))]], 22, false, true⟩, ⟨[.ints .u8 xs_m_5_0], 5, false, true⟩]) = HL45_10d f70_2 _ n_0_l i_1 i_2 i_11 i_49 xs_m_0_0 xs_m_5_0 (K .ret (selE 93 [(0, (.sl 0 (0 : Nat) (some n_0_l) (none : Option Nat))), (1, (.I .i64 i_1)), (2, (.I .i64 i_2)), (6, (.ptr 1 (0 : Nat) 0)), (7, (.B false)), (27, (.agg [(.I .i64 (0 : Int)), .nilf, .nilf, .nilf, (.I .i64 (19 : Int)), (.fn (.func 59) [] []), (.fn (.func 60) [] []), (.fn (.func 61) [] [(.ptr 2 (0 : Nat) 0)]), (.I .i64 (20 : Int)), (.fn (.func 62) [] []), (.fn (.func 63) [] []), (.fn (.func 64) [] [(.ptr 2 (0 : Nat) 0)]), (.I .i64 (22 : Int)), (.fn (.func 65) [] []), (.fn (.func 66) [] []), (.fn (.func 67) [] []), (.I .i64 (23 : Int)), (.fn (.func 68) [] []), (.fn (.func 69) [] []), (.fn (.func 67) [] [])])), (28, (.I .i64 (1 : Int)))]) [⟨[.ints .u8 xs_m_0_0], 5, false, false⟩, ⟨[.ints .i64 ([(0 : Int)] : List Int), .ints .i64 ([(0 : Int)] : List Int), .ints .i64 ([(0 : Int)] : List Int), .ints .i64 ([(0 : Int)] : List Int)], 88, false, true⟩, ⟨[.vals [(.sl 3 (0 : Nat) (none : Option Nat) (none : Option Nat))]], 22, false, true⟩, ⟨[.ints .u8 xs_m_5_0], 5, false, true⟩]) (fun (u0 : Int) => K .ret (selE 93 [(0, (.sl 0 (0 : Nat) (some n_0_l) (none : Option Nat))), (1, (.I .i64 i_1)), (2, (.I .i64 i_2)), (6, (.ptr 1 (0 : Nat) 0)), (7, (.B true)), (27, (.agg [(.I .i64 (0 : Int)), .nilf, .nilf, .nilf, (.I .i64 (19 : Int)), (.fn (.func 59) [] []), (.fn (.func 60) [] []), (.fn (.func 61) [] [(.ptr 2 (0 : Nat) 0)]), (.I .i64 (20 : Int)), (.fn (.func 62) [] []), (.fn (.func 63) [] []), (.fn (.func 64) [] [(.ptr 2 (0 : Nat) 0)]), (.I .i64 (22 : Int)), (.fn (.func 65) [] []), (.fn (.func 66) [] []), (.fn (.func 67) [] []), (.I .i64 (23 : Int)), (.fn (.func 68) [] []), (.fn (.func 69) [] []), (.fn (.func 67) [] [])])), (28, (.I .i64 (1 : Int)))]) [⟨[.ints .u8 xs_m_0_0], 5, false, false⟩, ⟨[.ints .i64 ([(1 : Int)] : List Int), .ints .i64 ([i_11] : List Int), .ints .i64 ([(16 : Int)] : List Int), .ints .i64 ([u0] : List Int)], 88, false, true⟩, ⟨[.vals [(.sl 3 (0 : Nat) (none : Option Nat) (none : Option Nat))]], 22, false, true⟩, ⟨[.ints .u8 xs_m_5_0], 5, false, true⟩]) (K (.exit 2) (selE 93 [(0, (.sl 0 (0 : Nat) (some n_0_l) (none : Option Nat))), (1, (.I .i64 i_1)), (2, (.I .i64 i_2)), (6, (.ptr 1 (0 : Nat) 0)), (7, .undef), (27, (.agg [(.I .i64 (0 : Int)), .nilf, .nilf, .nilf, (.I .i64 (19 : Int)), (.fn (.func 59) [] []), (.fn (.func 60) [] []), (.fn (.func 61) [] [(.ptr 2 (0 : Nat) 0)]), (.I .i64 (20 : Int)), (.fn (.func 62) [] []), (.fn (.func 63) [] []), (.fn (.func 64) [] [(.ptr 2 (0 : Nat) 0)]), (.I .i64 (22 : Int)), (.fn (.func 65) [] []), (.fn (.func 66) [] []), (.fn (.func 67) [] []), (.I .i64 (23 : Int)), (.fn (.func 68) [] []), (.fn (.func 69) [] []), (.fn (.func 67) [] [])])), (28, (.I .i64 (1 : Int)))]) [⟨[.ints .u8 xs_m_0_0], 5, false, false⟩, ⟨[.ints .i64 ([(0 : Int)] : List Int), .ints .i64 ([(0 : Int)] : List Int), .ints .i64 ([(0 : Int)] : List Int), .ints .i64 ([(0 : Int)] : List Int)], 88, false, true⟩, ⟨[.vals [(.sl 3 (0 : Nat) (none : Option Nat) (none : Option Nat))]], 22, false, true⟩, ⟨[.ints .u8 xs_m_5_0], 5, false, true⟩])
    refine congrArg (fun r => HL45_10d f70_2 r n_0_l i_1 i_2 i_11 i_49 xs_m_0_0 xs_m_5_0 (K .ret (selE 93 [(0, (.sl 0 (0 : Nat) (some n_0_l) (none : Option Nat))), (1, (.I .i64 i_1)), (2, (.I .i64 i_2)), (6, (.ptr 1 (0 : Nat) 0)), (7, (.B false)), (27, (.agg [(.I .i64 (0 : Int)), .nilf, .nilf, .nilf, (.I .i64 (19 : Int)), (.fn (.func 59) [] []), (.fn (.func 60) [] []), (.fn (.func 61) [] [(.ptr 2 (0 : Nat) 0)]), (.I .i64 (20 : Int)), (.fn (.func 62) [] []), (.fn (.func 63) [] []), (.fn (.func 64) [] [(.ptr 2 (0 : Nat) 0)]), (.I .i64 (22 : Int)), (.fn (.func 65) [] []), (.fn (.func 66) [] []), (.fn (.func 67) [] []), (.I .i64 (23 : Int)), (.fn (.func 68) [] []), (.fn (.func 69) [] []), (.fn (.func 67) [] [])])), (28, (.I .i64 (1 : Int)))]) [⟨[.ints .u8 xs_m_0_0], 5, false, false⟩, ⟨[.ints .i64 ([(0 : Int)] : List Int), .ints .i64 ([(0 : Int)] : List Int), .ints .i64 ([(0 : Int)] : List Int), .ints .i64 ([(0 : Int)] : List Int)], 88, false, true⟩, ⟨[.vals [(.sl 3 (0 : Nat) (none : Option Nat) (none : Option Nat))]], 22, false, true⟩, ⟨[.ints .u8 xs_m_5_0], 5, false, true⟩]) (fun (u0 : Int) => K .ret (selE 93 [(0, (.sl 0 (0 : Nat) (some n_0_l) (none : Option Nat))), (1, (.I .i64 i_1)), (2, (.I .i64 i_2)), (6, (.ptr 1 (0 : Nat) 0)), (7, (.B true)), (27, (.agg [(.I .i64 (0 : Int)), .nilf, .nilf, .nilf, (.I .i64 (19 : Int)), (.fn (.func 59) [] []), (.fn (.func 60) [] []), (.fn (.func 61) [] [(.ptr 2 (0 : Nat) 0)]), (.I .i64 (20 : Int)), (.fn (.func 62) [] []), (.fn (.func 63) [] []), (.fn (.func 64) [] [(.ptr 2 (0 : Nat) 0)]), (.I .i64 (22 : Int)), (.fn (.func 65) [] []), (.fn (.func 66) [] []), (.fn (.func 67) [] []), (.I .i64 (23 : Int)), (.fn (.func 68) [] []), (.fn (.func 69) [] []), (.fn (.func 67) [] [])])), (28, (.I .i64 (1 : Int)))]) [⟨[.ints .u8 xs_m_0_0], 5, false, false⟩, ⟨[.ints .i64 ([(1 : Int)] : List Int), .ints .i64 ([i_11] : List Int), .ints .i64 ([(16 : Int)] : List Int), .ints .i64 ([u0] : List Int)], 88, false, true⟩, ⟨[.vals [(.sl 3 (0 : Nat) (none : Option Nat) (none : Option Nat))]], 22, false, true⟩, ⟨[.ints .u8 xs_m_5_0], 5, false, true⟩]) (K (.exit 2) (selE 93 [(0, (.sl 0 (0 : Nat) (some n_0_l) (none : Option Nat))), (1, (.I .i64 i_1)), (2, (.I .i64 i_2)), (6, (.ptr 1 (0 : Nat) 0)), (7, .undef), (27, (.agg [(.I .i64 (0 : Int)), .nilf, .nilf, .nilf, (.I .i64 (19 : Int)), (.fn (.func 59) [] []), (.fn (.func 60) [] []), (.fn (.func 61) [] [(.ptr 2 (0 : Nat) 0)]), (.I .i64 (20 : Int)), (.fn (.func 62) [] []), (.fn (.func 63) [] []), (.fn (.func 64) [] [(.ptr 2 (0 : Nat) 0)]), (.I .i64 (22 : Int)), (.fn (.func 65) [] []), (.fn (.func 66) [] []), (.fn (.func 67) [] []), (.I .i64 (23 : Int)), (.fn (.func 68) [] []), (.fn (.func 69) [] []), (.fn (.func 67) [] [])])), (28, (.I .i64 (1 : Int)))]) [⟨[.ints .u8 xs_m_0_0], 5, false, false⟩, ⟨[.ints .i64 ([(0 : Int)] : List Int), .ints .i64 ([(0 : Int)] : List Int), .ints .i64 ([(0 : Int)] : List Int), .ints .i64 ([(0 : Int)] : List Int)], 88, false, true⟩, ⟨[.vals [(.sl 3 (0 : Nat) (none : Option Nat) (none : Option Nat))]], 22, false, true⟩, ⟨[.ints .u8 xs_m_5_0], 5, false, true⟩])) ?_
    funext i_49
    exact ih n_0_l i_1 i_2 i_11 i_49 xs_m_0_0 xs_m_5_0
def GL45_10d : YL45_10d := fun x n_0_l i_1 i_2 i_11 i_49 xs_m_0_0 xs_m_5_0 k1 k2 k3 => x = XL45_10d ∧ ∃ n, RL45_10d G70_2 n n_0_l i_1 i_2 i_11 i_49 xs_m_0_0 xs_m_5_0 k1 k2 k3
def VL45_10d (l : YL45_10d) (F : Prop) (x : Code) (ρ : Env) (m : Mem) (K : Ex → Env → Mem → Prop) : Prop :=
  match ρ.has (93 - 1) with
  | true => (seeSl 0 (ρ.get 0) F fun r2 l3 c4 => (seeN 0 r2 F (seeO l3 F fun n_0_l => (seeNo c4 F (seeI .i64 (ρ.get 1) F fun i_1 => (seeI .i64 (ρ.get 2) F fun i_2 => (seeV (.ptr 1 (0 : Nat) 0) (ρ.get 6) F (seeV (.I .i64 (1 : Int)) (ρ.get 8) F (seeV (.ptr 2 (0 : Nat) 0) (ρ.get 9) F (seeV (.sl 3 (0 : Nat) (none : Option Nat) (none : Option Nat)) (ρ.get 10) F (seeI .i64 (ρ.get 11) F fun i_11 => (seeV (.agg [(.I .i64 (0 : Int)), .nilf, .nilf, .nilf, (.I .i64 (19 : Int)), (.fn (.func 59) [] []), (.fn (.func 60) [] []), (.fn (.func 61) [] [(.ptr 4 (0 : Nat) 0)]), (.I .i64 (20 : Int)), (.fn (.func 62) [] []), (.fn (.func 63) [] []), (.fn (.func 64) [] [(.ptr 4 (0 : Nat) 0)]), (.I .i64 (22 : Int)), (.fn (.func 65) [] []), (.fn (.func 66) [] []), (.fn (.func 67) [] []), (.I .i64 (23 : Int)), (.fn (.func 68) [] []), (.fn (.func 69) [] []), (.fn (.func 67) [] [])]) (ρ.get 27) F (seeV (.I .i64 (1 : Int)) (ρ.get 28) F (seeI .i64 (ρ.get 49) F fun i_49 => (seeCons m F fun a15 q16 => (seeBlk 5 false false a15 F fun cs17 => (seeCons cs17 F fun a18 q19 => (seeInts .u8 a18 F fun xs_m_0_0 => (seeNil q19 F (seeCons q16 F fun a20 q21 => (seeBlk 88 false true a20 F fun cs22 => (seeCons cs22 F fun a23 q24 => (seeInts .i64 a23 F fun xs25 => (seeX ([(0 : Int)] : List Int) xs25 F (seeCons q24 F fun a26 q27 => (seeInts .i64 a26 F fun xs28 => (seeX ([(0 : Int)] : List Int) xs28 F (seeCons q27 F fun a29 q30 => (seeInts .i64 a29 F fun xs31 => (seeX ([(0 : Int)] : List Int) xs31 F (seeCons q30 F fun a32 q33 => (seeInts .i64 a32 F fun xs34 => (seeX ([(0 : Int)] : List Int) xs34 F (seeNil q33 F (seeCons q21 F fun a35 q36 => (seeBlk 83 false true a35 F fun cs37 => (seeCons cs37 F fun a38 q39 => (seeInts .i64 a38 F fun xs40 => (seeX ([(19 : Int)] : List Int) xs40 F (seeCons q39 F fun a41 q42 => (seeVals a41 F fun xs43 => (seeCons xs43 F fun a44 q45 => (seeV (.fn (.func 59) [] []) a44 F (seeNil q45 F (seeCons q42 F fun a46 q47 => (seeVals a46 F fun xs48 => (seeCons xs48 F fun a49 q50 => (seeV (.fn (.func 60) [] []) a49 F (seeNil q50 F (seeCons q47 F fun a51 q52 => (seeVals a51 F fun xs53 => (seeCons xs53 F fun a54 q55 => (seeV (.fn (.func 61) [] [(.ptr 4 (0 : Nat) 0)]) a54 F (seeNil q55 F (seeNil q52 F (seeCons q36 F fun a56 q57 => (seeBlk 32 false true a56 F fun cs58 => (seeCons cs58 F fun a59 q60 => (seeInts .i64 a59 F fun xs61 => (seeX ([(4 : Int), (12 : Int)] : List Int) xs61 F (seeCons q60 F fun a62 q63 => (seeInts .i64 a62 F fun xs64 => (seeX ([(4 : Int), (4 : Int)] : List Int) xs64 F (seeCons q63 F fun a65 q66 => (seeInts .i64 a65 F fun xs67 => (seeX ([(19 : Int), (4 : Int)] : List Int) xs67 F (seeCons q66 F fun a68 q69 => (seeStrs a68 F fun xs70 => (seeCons xs70 F fun a71 q72 => (seeX ([(120 : Int)] : List Int) a71 F (seeCons q72 F fun a73 q74 => (seeX ([(95 : Int), (95 : Int), (116 : Int), (108 : Int), (115 : Int), (95 : Int), (103 : Int), (101 : Int), (116 : Int), (95 : Int), (97 : Int), (100 : Int), (100 : Int), (114 : Int)] : List Int) a73 F (seeNil q74 F (seeCons q69 F fun a75 q76 => (seeInts .i64 a75 F fun xs77 => (seeX ([(-4 : Int), (-4 : Int)] : List Int) xs77 F (seeNil q76 F (seeCons q57 F fun a78 q79 => (seeBlk 22 false true a78 F fun cs80 => (seeCons cs80 F fun a81 q82 => (seeVals a81 F fun xs83 => (seeCons xs83 F fun a84 q85 => (seeV (.sl 5 (0 : Nat) (none : Option Nat) (none : Option Nat)) a84 F (seeNil q85 F (seeNil q82 F (seeCons q79 F fun a86 q87 => (seeBlk 5 false true a86 F fun cs88 => (seeCons cs88 F fun a89 q90 => (seeInts .u8 a89 F fun xs_m_5_0 => (seeNil q90 F (seeNil q87 F (l x n_0_l i_1 i_2 i_11 i_49 xs_m_0_0 xs_m_5_0 (K .ret (selE 93 [(0, (.sl 0 (0 : Nat) (some n_0_l) (none : Option Nat))), (1, (.I .i64 i_1)), (2, (.I .i64 i_2)), (6, (.ptr 1 (0 : Nat) 0)), (7, (.B false)), (27, (.agg [(.I .i64 (0 : Int)), .nilf, .nilf, .nilf, (.I .i64 (19 : Int)), (.fn (.func 59) [] []), (.fn (.func 60) [] []), (.fn (.func 61) [] [(.ptr 2 (0 : Nat) 0)]), (.I .i64 (20 : Int)), (.fn (.func 62) [] []), (.fn (.func 63) [] []), (.fn (.func 64) [] [(.ptr 2 (0 : Nat) 0)]), (.I .i64 (22 : Int)), (.fn (.func 65) [] []), (.fn (.func 66) [] []), (.fn (.func 67) [] []), (.I .i64 (23 : Int)), (.fn (.func 68) [] []), (.fn (.func 69) [] []), (.fn (.func 67) [] [])])), (28, (.I .i64 (1 : Int)))]) [⟨[.ints .u8 xs_m_0_0], 5, false, false⟩, ⟨[.ints .i64 ([(0 : Int)] : List Int), .ints .i64 ([(0 : Int)] : List Int), .ints .i64 ([(0 : Int)] : List Int), .ints .i64 ([(0 : Int)] : List Int)], 88, false, true⟩, ⟨[.vals [(.sl 3 (0 : Nat) (none : Option Nat) (none : Option Nat))]], 22, false, true⟩, ⟨[.ints .u8 xs_m_5_0], 5, false, true⟩]) (fun (u0 : Int) => K .ret (selE 93 [(0, (.sl 0 (0 : Nat) (some n_0_l) (none : Option Nat))), (1, (.I .i64 i_1)), (2, (.I .i64 i_2)), (6, (.ptr 1 (0 : Nat) 0)), (7, (.B true)), (27, (.agg [(.I .i64 (0 : Int)), .nilf, .nilf, .nilf, (.I .i64 (19 : Int)), (.fn (.func 59) [] []), (.fn (.func 60) [] []), (.fn (.func 61) [] [(.ptr 2 (0 : Nat) 0)]), (.I .i64 (20 : Int)), (.fn (.func 62) [] []), (.fn (.func 63) [] []), (.fn (.func 64) [] [(.ptr 2 (0 : Nat) 0)]), (.I .i64 (22 : Int)), (.fn (.func 65) [] []), (.fn (.func 66) [] []), (.fn (.func 67) [] []), (.I .i64 (23 : Int)), (.fn (.func 68) [] []), (.fn (.func 69) [] []), (.fn (.func 67) [] [])])), (28, (.I .i64 (1 : Int)))]) [⟨[.ints .u8 xs_m_0_0], 5, false, false⟩, ⟨[.ints .i64 ([(1 : Int)] : List Int), .ints .i64 ([i_11] : List Int), .ints .i64 ([(16 : Int)] : List Int), .ints .i64 ([u0] : List Int)], 88, false, true⟩, ⟨[.vals [(.sl 3 (0 : Nat) (none : Option Nat) (none : Option Nat))]], 22, false, true⟩, ⟨[.ints .u8 xs_m_5_0], 5, false, true⟩]) (K (.exit 2) (selE 93 [(0, (.sl 0 (0 : Nat) (some n_0_l) (none : Option Nat))), (1, (.I .i64 i_1)), (2, (.I .i64 i_2)), (6, (.ptr 1 (0 : Nat) 0)), (7, .undef), (27, (.agg [(.I .i64 (0 : Int)), .nilf, .nilf, .nilf, (.I .i64 (19 : Int)), (.fn (.func 59) [] []), (.fn (.func 60) [] []), (.fn (.func 61) [] [(.ptr 2 (0 : Nat) 0)]), (.I .i64 (20 : Int)), (.fn (.func 62) [] []), (.fn (.func 63) [] []), (.fn (.func 64) [] [(.ptr 2 (0 : Nat) 0)]), (.I .i64 (22 : Int)), (.fn (.func 65) [] []), (.fn (.func 66) [] []), (.fn (.func 67) [] []), (.I .i64 (23 : Int)), (.fn (.func 68) [] []), (.fn (.func 69) [] []), (.fn (.func 67) [] [])])), (28, (.I .i64 (1 : Int)))]) [⟨[.ints .u8 xs_m_0_0], 5, false, false⟩, ⟨[.ints .i64 ([(0 : Int)] : List Int), .ints .i64 ([(0 : Int)] : List Int), .ints .i64 ([(0 : Int)] : List Int), .ints .i64 ([(0 : Int)] : List Int)], 88, false, true⟩, ⟨[.vals [(.sl 3 (0 : Nat) (none : Option Nat) (none : Option Nat))]], 22, false, true⟩, ⟨[.ints .u8 xs_m_5_0], 5, false, true⟩])))))))))))))))))))))))))))))))))))))))))))))))))))))))))))))))))))))))))))))))))))))))))))))
  | false => False
def WL45_10d (l : YL45_10d) (W : Masks) : Masks := fun r =>
  match Nat.beq r 10 with
  | true => some fun x ρ m K => VL45_10d l (match W r with | some lf => lf x ρ m K | none => False) x (tidyE 1 [0, 1, 2, 6, 8, 9, 10, 11, 27, 28, 49] ρ m) (tidyM 1 [0, 1, 2, 6, 8, 9, 10, 11, 27, 28, 49] ρ m) K
  | false => W r
set_option maxRecDepth 100000 in
theorem WL45_10d_ok {W : Masks} (hW : LoopsOk Try.prog 1 W) : LoopsOk Try.prog 1 (WL45_10d GL45_10d W) := by
  intro r lf h
  unfold WL45_10d at h
  split at h
  · cases h
    intro x E0 m0 w0 ds hS0 ha ρ m K E a w Q hS hρ hd h hQ
    have fb : (match W r with | some lf => lf x ρ m K | none => False) → (Code.loop x).wp Try.prog Q a w := fun h => by
      split at h
      · rename_i lf hlf
        exact hW r lf hlf x hS0 ha ρ m K E a w Q hS hρ hd h hQ
      · cases h
    obtain ⟨E2, hS2, hρ2⟩ := tidy_rel hS0 hS hρ [0, 1, 2, 6, 8, 9, 10, 11, 27, 28, 49]
    rw [ha] at hS2 hρ2
    unfold VL45_10d at h
    split at h
    · rename_i hlen
      replace h := seeSl_use h
      rcases h with h | ⟨r2, l3, c4, e1, h⟩
      · exact fb h
      replace h := seeN_use h
      rcases h with h | ⟨rfl, h⟩
      · exact fb h
      replace h := seeO_use h
      rcases h with h | ⟨n_0_l, rfl, h⟩
      · exact fb h
      replace h := seeNo_use h
      rcases h with h | ⟨rfl, h⟩
      · exact fb h
      replace h := seeI_use h
      rcases h with h | ⟨i_1, e5, h⟩
      · exact fb h
      replace h := seeI_use h
      rcases h with h | ⟨i_2, e6, h⟩
      · exact fb h
      replace h := seeV_use h
      rcases h with h | ⟨e7, h⟩
      · exact fb h
      replace h := seeV_use h
      rcases h with h | ⟨e8, h⟩
      · exact fb h
      replace h := seeV_use h
      rcases h with h | ⟨e9, h⟩
      · exact fb h
      replace h := seeV_use h
      rcases h with h | ⟨e10, h⟩
      · exact fb h
      replace h := seeI_use h
      rcases h with h | ⟨i_11, e11, h⟩
      · exact fb h
      replace h := seeV_use h
      rcases h with h | ⟨e12, h⟩
      · exact fb h
      replace h := seeV_use h
      rcases h with h | ⟨e13, h⟩
      · exact fb h
      replace h := seeI_use h
      rcases h with h | ⟨i_49, e14, h⟩
      · exact fb h
      replace h := seeCons_use h
      rcases h with h | ⟨a15, q16, eqm, h⟩
      · exact fb h
      replace h := seeBlk_use h
      rcases h with h | ⟨cs17, rfl, h⟩
      · exact fb h
      replace h := seeCons_use h
      rcases h with h | ⟨a18, q19, rfl, h⟩
      · exact fb h
      replace h := seeInts_use h
      rcases h with h | ⟨xs_m_0_0, rfl, h⟩
      · exact fb h
      replace h := seeNil_use h
      rcases h with h | ⟨rfl, h⟩
      · exact fb h
      replace h := seeCons_use h
      rcases h with h | ⟨a20, q21, rfl, h⟩
      · exact fb h
      replace h := seeBlk_use h
      rcases h with h | ⟨cs22, rfl, h⟩
      · exact fb h
      replace h := seeCons_use h
      rcases h with h | ⟨a23, q24, rfl, h⟩
      · exact fb h
      replace h := seeInts_use h
      rcases h with h | ⟨xs25, rfl, h⟩
      · exact fb h
      replace h := seeX_use h
      rcases h with h | ⟨rfl, h⟩
      · exact fb h
      replace h := seeCons_use h
      rcases h with h | ⟨a26, q27, rfl, h⟩
      · exact fb h
      replace h := seeInts_use h
      rcases h with h | ⟨xs28, rfl, h⟩
      · exact fb h
      replace h := seeX_use h
      rcases h with h | ⟨rfl, h⟩
      · exact fb h
      replace h := seeCons_use h
      rcases h with h | ⟨a29, q30, rfl, h⟩
      · exact fb h
      replace h := seeInts_use h
      rcases h with h | ⟨xs31, rfl, h⟩
      · exact fb h
      replace h := seeX_use h
      rcases h with h | ⟨rfl, h⟩
      · exact fb h
      replace h := seeCons_use h
      rcases h with h | ⟨a32, q33, rfl, h⟩
      · exact fb h
      replace h := seeInts_use h
      rcases h with h | ⟨xs34, rfl, h⟩
      · exact fb h
      replace h := seeX_use h
      rcases h with h | ⟨rfl, h⟩
      · exact fb h
      replace h := seeNil_use h
      rcases h with h | ⟨rfl, h⟩
      · exact fb h
      replace h := seeCons_use h
      rcases h with h | ⟨a35, q36, rfl, h⟩
      · exact fb h
      replace h := seeBlk_use h
      rcases h with h | ⟨cs37, rfl, h⟩
      · exact fb h
      replace h := seeCons_use h
      rcases h with h | ⟨a38, q39, rfl, h⟩
      · exact fb h
      replace h := seeInts_use h
      rcases h with h | ⟨xs40, rfl, h⟩
      · exact fb h
      replace h := seeX_use h
      rcases h with h | ⟨rfl, h⟩
      · exact fb h
      replace h := seeCons_use h
      rcases h with h | ⟨a41, q42, rfl, h⟩
      · exact fb h
      replace h := seeVals_use h
      rcases h with h | ⟨xs43, rfl, h⟩
      · exact fb h
      replace h := seeCons_use h
      rcases h with h | ⟨a44, q45, rfl, h⟩
      · exact fb h
      replace h := seeV_use h
      rcases h with h | ⟨rfl, h⟩
      · exact fb h
      replace h := seeNil_use h
      rcases h with h | ⟨rfl, h⟩
      · exact fb h
      replace h := seeCons_use h
      rcases h with h | ⟨a46, q47, rfl, h⟩
      · exact fb h
      replace h := seeVals_use h
      rcases h with h | ⟨xs48, rfl, h⟩
      · exact fb h
      replace h := seeCons_use h
      rcases h with h | ⟨a49, q50, rfl, h⟩
      · exact fb h
      replace h := seeV_use h
      rcases h with h | ⟨rfl, h⟩
      · exact fb h
      replace h := seeNil_use h
      rcases h with h | ⟨rfl, h⟩
      · exact fb h
      replace h := seeCons_use h
      rcases h with h | ⟨a51, q52, rfl, h⟩
      · exact fb h
      replace h := seeVals_use h
      rcases h with h | ⟨xs53, rfl, h⟩
      · exact fb h
      replace h := seeCons_use h
      rcases h with h | ⟨a54, q55, rfl, h⟩
      · exact fb h
      replace h := seeV_use h
      rcases h with h | ⟨rfl, h⟩
      · exact fb h
      replace h := seeNil_use h
      rcases h with h | ⟨rfl, h⟩
      · exact fb h
      replace h := seeNil_use h
      rcases h with h | ⟨rfl, h⟩
      · exact fb h
      replace h := seeCons_use h
      rcases h with h | ⟨a56, q57, rfl, h⟩
      · exact fb h
      replace h := seeBlk_use h
      rcases h with h | ⟨cs58, rfl, h⟩
      · exact fb h
      replace h := seeCons_use h
      rcases h with h | ⟨a59, q60, rfl, h⟩
      · exact fb h
      replace h := seeInts_use h
      rcases h with h | ⟨xs61, rfl, h⟩
      · exact fb h
      replace h := seeX_use h
      rcases h with h | ⟨rfl, h⟩
      · exact fb h
      replace h := seeCons_use h
      rcases h with h | ⟨a62, q63, rfl, h⟩
      · exact fb h
      replace h := seeInts_use h
      rcases h with h | ⟨xs64, rfl, h⟩
      · exact fb h
      replace h := seeX_use h
      rcases h with h | ⟨rfl, h⟩
      · exact fb h
      replace h := seeCons_use h
      rcases h with h | ⟨a65, q66, rfl, h⟩
      · exact fb h
      replace h := seeInts_use h
      rcases h with h | ⟨xs67, rfl, h⟩
      · exact fb h
      replace h := seeX_use h
      rcases h with h | ⟨rfl, h⟩
      · exact fb h
      replace h := seeCons_use h
      rcases h with h | ⟨a68, q69, rfl, h⟩
      · exact fb h
      replace h := seeStrs_use h
      rcases h with h | ⟨xs70, rfl, h⟩
      · exact fb h
      replace h := seeCons_use h
      rcases h with h | ⟨a71, q72, rfl, h⟩
      · exact fb h
      replace h := seeX_use h
      rcases h with h | ⟨rfl, h⟩
      · exact fb h
      replace h := seeCons_use h
      rcases h with h | ⟨a73, q74, rfl, h⟩
      · exact fb h
      replace h := seeX_use h
      rcases h with h | ⟨rfl, h⟩
      · exact fb h
      replace h := seeNil_use h
      rcases h with h | ⟨rfl, h⟩
      · exact fb h
      replace h := seeCons_use h
      rcases h with h | ⟨a75, q76, rfl, h⟩
      · exact fb h
      replace h := seeInts_use h
      rcases h with h | ⟨xs77, rfl, h⟩
      · exact fb h
      replace h := seeX_use h
      rcases h with h | ⟨rfl, h⟩
      · exact fb h
      replace h := seeNil_use h
      rcases h with h | ⟨rfl, h⟩
      · exact fb h
      replace h := seeCons_use h
      rcases h with h | ⟨a78, q79, rfl, h⟩
      · exact fb h
      replace h := seeBlk_use h
      rcases h with h | ⟨cs80, rfl, h⟩
      · exact fb h
      replace h := seeCons_use h
      rcases h with h | ⟨a81, q82, rfl, h⟩
      · exact fb h
      replace h := seeVals_use h
      rcases h with h | ⟨xs83, rfl, h⟩
      · exact fb h
      replace h := seeCons_use h
      rcases h with h | ⟨a84, q85, rfl, h⟩
      · exact fb h
      replace h := seeV_use h
      rcases h with h | ⟨rfl, h⟩
      · exact fb h
      replace h := seeNil_use h
      rcases h with h | ⟨rfl, h⟩
      · exact fb h
      replace h := seeNil_use h
      rcases h with h | ⟨rfl, h⟩
      · exact fb h
      replace h := seeCons_use h
      rcases h with h | ⟨a86, q87, rfl, h⟩
      · exact fb h
      replace h := seeBlk_use h
      rcases h with h | ⟨cs88, rfl, h⟩
      · exact fb h
      replace h := seeCons_use h
      rcases h with h | ⟨a89, q90, rfl, h⟩
      · exact fb h
      replace h := seeInts_use h
      rcases h with h | ⟨xs_m_5_0, rfl, h⟩
      · exact fb h
      replace h := seeNil_use h
      rcases h with h | ⟨rfl, h⟩
      · exact fb h
      replace h := seeNil_use h
      rcases h with h | ⟨rfl, h⟩
      · exact fb h
      obtain ⟨rfl, n, h⟩ := h
      exact loop_use named (T70_2_ok C0_ok) (LoopsOk.none _ _) (RL45_10d_ok G70_2 K n _ _ _ _ _ _ _) h hS0 ha hlen ⟨e1, e5, e6, e7, e8, e9, e10, e11, e12, e13, e14, trivial⟩ (eqm ▸ hS2) hρ2 hd hQ
    · cases h
  · exact hW r lf h
theorem at45 : Try.prog.funcs[45]? = some (fnOf Try.prog 45) := by kernel_rfl
abbrev Y45 : Type := Nat → Int → Int → List Int → (Int → Bool → Prop) → (Int → Prop) → (Int → Prop) → (Int → Int → Prop) → (Int → Int → Prop) → (Int → Int → Prop) → (Int → Int → Prop) → Prop
def F45  (l45_10 : YL45_10) (l45_10b : YL45_10b) (l45_10c : YL45_10c) (l45_10d : YL45_10d) (n : Nat) (pa : Int) (t : Int) (xs : List Int) (k1 : Int → Bool → Prop) (k2 : Int → Prop) (k3 : Int → Prop) (k4 : Int → Int → Prop) (k5 : Int → Int → Prop) (k6 : Int → Int → Prop) (k7 : Int → Int → Prop) : Prop :=
  (bif (t == (23 : Int)) then (bif (decide (pa ≥ (0 : Int))) then (k1 (0 : Int) (decide (pa ≤ (IntKind.wrap .i64 (((n : Nat) : Int) - (4 : Int)))))) else (k2 (0 : Int))) else (bif ((19 : Int) != t) then (bif ((20 : Int) != t) then (bif ((22 : Int) != t) then (bif ((23 : Int) != t) then (k3 (0 : Int)) else (l45_10 XL45_10 n pa t (IntKind.wrap .i64 (pa - (3 : Int))) (0 : Int) xs ([(100 : Int), (72 : Int), (139 : Int), (4 : Int), (37 : Int), (0 : Int), (0 : Int), (0 : Int), (0 : Int)] : List Int) ((k3 (0 : Int))) (fun (n1 : Int) => (k4 (IntKind.wrap .i64 (pa - (3 : Int))) n1)) ((k3 (0 : Int))))) else (l45_10b XL45_10b n pa t (IntKind.wrap .i64 (pa - (3 : Int))) (0 : Int) xs ([(100 : Int), (72 : Int), (139 : Int), (4 : Int), (37 : Int), (0 : Int), (0 : Int), (0 : Int), (0 : Int)] : List Int) ((k3 (0 : Int))) (fun (n2 : Int) => (k5 (IntKind.wrap .i64 (pa - (3 : Int))) n2)) ((bif ((23 : Int) != t) then (k3 (0 : Int)) else (l45_10 XL45_10 n pa t (IntKind.wrap .i64 (pa - (3 : Int))) (0 : Int) xs ([(100 : Int), (72 : Int), (139 : Int), (4 : Int), (37 : Int), (0 : Int), (0 : Int), (0 : Int), (0 : Int)] : List Int) ((k3 (0 : Int))) (fun (n3 : Int) => (k4 (IntKind.wrap .i64 (pa - (3 : Int))) n3)) ((k3 (0 : Int)))))))) else (l45_10c XL45_10c n pa t (IntKind.wrap .i64 (pa - (3 : Int))) (0 : Int) xs ([(100 : Int), (72 : Int), (139 : Int), (4 : Int), (37 : Int), (0 : Int), (0 : Int), (0 : Int), (0 : Int)] : List Int) ((k3 (0 : Int))) (fun (n4 : Int) => (k6 (IntKind.wrap .i64 (pa - (3 : Int))) n4)) ((bif ((22 : Int) != t) then (bif ((23 : Int) != t) then (k3 (0 : Int)) else (l45_10 XL45_10 n pa t (IntKind.wrap .i64 (pa - (3 : Int))) (0 : Int) xs ([(100 : Int), (72 : Int), (139 : Int), (4 : Int), (37 : Int), (0 : Int), (0 : Int), (0 : Int), (0 : Int)] : List Int) ((k3 (0 : Int))) (fun (n5 : Int) => (k4 (IntKind.wrap .i64 (pa - (3 : Int))) n5)) ((k3 (0 : Int))))) else (l45_10b XL45_10b n pa t (IntKind.wrap .i64 (pa - (3 : Int))) (0 : Int) xs ([(100 : Int), (72 : Int), (139 : Int), (4 : Int), (37 : Int), (0 : Int), (0 : Int), (0 : Int), (0 : Int)] : List Int) ((k3 (0 : Int))) (fun (n6 : Int) => (k5 (IntKind.wrap .i64 (pa - (3 : Int))) n6)) ((bif ((23 : Int) != t) then (k3 (0 : Int)) else (l45_10 XL45_10 n pa t (IntKind.wrap .i64 (pa - (3 : Int))) (0 : Int) xs ([(100 : Int), (72 : Int), (139 : Int), (4 : Int), (37 : Int), (0 : Int), (0 : Int), (0 : Int), (0 : Int)] : List Int) ((k3 (0 : Int))) (fun (n7 : Int) => (k4 (IntKind.wrap .i64 (pa - (3 : Int))) n7)) ((k3 (0 : Int))))))))))) else (l45_10d XL45_10d n pa t (IntKind.wrap .i64 (pa - (4 : Int))) (0 : Int) xs ([(100 : Int), (72 : Int), (139 : Int), (4 : Int), (37 : Int), (0 : Int), (0 : Int), (0 : Int), (0 : Int)] : List Int) ((k3 (0 : Int))) (fun (n8 : Int) => (k7 (IntKind.wrap .i64 (pa - (4 : Int))) n8)) ((bif ((20 : Int) != t) then (bif ((22 : Int) != t) then (bif ((23 : Int) != t) then (k3 (0 : Int)) else (l45_10 XL45_10 n pa t (IntKind.wrap .i64 (pa - (3 : Int))) (0 : Int) xs ([(100 : Int), (72 : Int), (139 : Int), (4 : Int), (37 : Int), (0 : Int), (0 : Int), (0 : Int), (0 : Int)] : List Int) ((k3 (0 : Int))) (fun (n9 : Int) => (k4 (IntKind.wrap .i64 (pa - (3 : Int))) n9)) ((k3 (0 : Int))))) else (l45_10b XL45_10b n pa t (IntKind.wrap .i64 (pa - (3 : Int))) (0 : Int) xs ([(100 : Int), (72 : Int), (139 : Int), (4 : Int), (37 : Int), (0 : Int), (0 : Int), (0 : Int), (0 : Int)] : List Int) ((k3 (0 : Int))) (fun (n10 : Int) => (k5 (IntKind.wrap .i64 (pa - (3 : Int))) n10)) ((bif ((23 : Int) != t) then (k3 (0 : Int)) else (l45_10 XL45_10 n pa t (IntKind.wrap .i64 (pa - (3 : Int))) (0 : Int) xs ([(100 : Int), (72 : Int), (139 : Int), (4 : Int), (37 : Int), (0 : Int), (0 : Int), (0 : Int), (0 : Int)] : List Int) ((k3 (0 : Int))) (fun (n11 : Int) => (k4 (IntKind.wrap .i64 (pa - (3 : Int))) n11)) ((k3 (0 : Int)))))))) else (l45_10c XL45_10c n pa t (IntKind.wrap .i64 (pa - (3 : Int))) (0 : Int) xs ([(100 : Int), (72 : Int), (139 : Int), (4 : Int), (37 : Int), (0 : Int), (0 : Int), (0 : Int), (0 : Int)] : List Int) ((k3 (0 : Int))) (fun (n12 : Int) => (k6 (IntKind.wrap .i64 (pa - (3 : Int))) n12)) ((bif ((22 : Int) != t) then (bif ((23 : Int) != t) then (k3 (0 : Int)) else (l45_10 XL45_10 n pa t (IntKind.wrap .i64 (pa - (3 : Int))) (0 : Int) xs ([(100 : Int), (72 : Int), (139 : Int), (4 : Int), (37 : Int), (0 : Int), (0 : Int), (0 : Int), (0 : Int)] : List Int) ((k3 (0 : Int))) (fun (n13 : Int) => (k4 (IntKind.wrap .i64 (pa - (3 : Int))) n13)) ((k3 (0 : Int))))) else (l45_10b XL45_10b n pa t (IntKind.wrap .i64 (pa - (3 : Int))) (0 : Int) xs ([(100 : Int), (72 : Int), (139 : Int), (4 : Int), (37 : Int), (0 : Int), (0 : Int), (0 : Int), (0 : Int)] : List Int) ((k3 (0 : Int))) (fun (n14 : Int) => (k5 (IntKind.wrap .i64 (pa - (3 : Int))) n14)) ((bif ((23 : Int) != t) then (k3 (0 : Int)) else (l45_10 XL45_10 n pa t (IntKind.wrap .i64 (pa - (3 : Int))) (0 : Int) xs ([(100 : Int), (72 : Int), (139 : Int), (4 : Int), (37 : Int), (0 : Int), (0 : Int), (0 : Int), (0 : Int)] : List Int) ((k3 (0 : Int))) (fun (n15 : Int) => (k4 (IntKind.wrap .i64 (pa - (3 : Int))) n15)) ((k3 (0 : Int)))))))))))))))
theorem F45_ok  (l45_10 : YL45_10) (l45_10b : YL45_10b) (l45_10c : YL45_10c) (l45_10d : YL45_10d) (n : Nat) (pa : Int) (t : Int) (xs : List Int) (K : V → Mem → Prop) : cbody Try.prog C0 (WL45_10 l45_10 (WL45_10b l45_10b (WL45_10c l45_10c (WL45_10d l45_10d (fun _ => none))))) 1000 (fnOf Try.prog 45) [(.sl 0 (0 : Nat) (some n) (none : Option Nat)), (.I .i64 pa), (.I .i64 t)] [⟨[.ints .u8 xs], 5, false, false⟩] K =
    F45  l45_10 l45_10b l45_10c l45_10d n pa t xs (fun (u0 : Int) (u1 : Bool) => K (.tup [(.agg [(.I .i64 (4 : Int)), (.I .i64 pa), (.I .i64 (4 : Int)), (.I .i64 u0)]), (.B u1)]) [⟨[.ints .u8 xs], 5, false, false⟩]) (fun (u0 : Int) => K (.tup [(.agg [(.I .i64 (4 : Int)), (.I .i64 pa), (.I .i64 (4 : Int)), (.I .i64 u0)]), (.B false)]) [⟨[.ints .u8 xs], 5, false, false⟩]) (fun (u0 : Int) => K (.tup [(.agg [(.I .i64 (0 : Int)), (.I .i64 (0 : Int)), (.I .i64 (0 : Int)), (.I .i64 u0)]), (.B false)]) [⟨[.ints .u8 xs], 5, false, false⟩]) (fun (u0 : Int) (u1 : Int) => K (.tup [(.agg [(.I .i64 (4 : Int)), (.I .i64 u0), (.I .i64 (7 : Int)), (.I .i64 u1)]), (.B true)]) [⟨[.ints .u8 xs], 5, false, false⟩]) (fun (u0 : Int) (u1 : Int) => K (.tup [(.agg [(.I .i64 (3 : Int)), (.I .i64 u0), (.I .i64 (7 : Int)), (.I .i64 u1)]), (.B true)]) [⟨[.ints .u8 xs], 5, false, false⟩]) (fun (u0 : Int) (u1 : Int) => K (.tup [(.agg [(.I .i64 (2 : Int)), (.I .i64 u0), (.I .i64 (12 : Int)), (.I .i64 u1)]), (.B true)]) [⟨[.ints .u8 xs], 5, false, false⟩]) (fun (u0 : Int) (u1 : Int) => K (.tup [(.agg [(.I .i64 (1 : Int)), (.I .i64 u0), (.I .i64 (16 : Int)), (.I .i64 u1)]), (.B true)]) [⟨[.ints .u8 xs], 5, false, false⟩]) := by kernel_rfl
def G45 : Y45 := F45  GL45_10 GL45_10b GL45_10c GL45_10d
def VT45 (f : Y45) (F : Prop) (args : List V) (m : Mem) (K : V → Mem → Prop) : Prop :=
  (seeCons args F fun a1 q2 => (seeSl 0 a1 F fun r3 l4 c5 => (seeN 0 r3 F (seeO l4 F fun n => (seeNo c5 F (seeCons q2 F fun a6 q7 => (seeI .i64 a6 F fun pa => (seeCons q7 F fun a8 q9 => (seeI .i64 a8 F fun t => (seeNil q9 F (seeCons m F fun a10 q11 => (seeBlk 5 false false a10 F fun cs12 => (seeCons cs12 F fun a13 q14 => (seeInts .u8 a13 F fun xs => (seeNil q14 F (seeNil q11 F (f n pa t xs (fun (u0 : Int) (u1 : Bool) => K (.tup [(.agg [(.I .i64 (4 : Int)), (.I .i64 pa), (.I .i64 (4 : Int)), (.I .i64 u0)]), (.B u1)]) [⟨[.ints .u8 xs], 5, false, false⟩]) (fun (u0 : Int) => K (.tup [(.agg [(.I .i64 (4 : Int)), (.I .i64 pa), (.I .i64 (4 : Int)), (.I .i64 u0)]), (.B false)]) [⟨[.ints .u8 xs], 5, false, false⟩]) (fun (u0 : Int) => K (.tup [(.agg [(.I .i64 (0 : Int)), (.I .i64 (0 : Int)), (.I .i64 (0 : Int)), (.I .i64 u0)]), (.B false)]) [⟨[.ints .u8 xs], 5, false, false⟩]) (fun (u0 : Int) (u1 : Int) => K (.tup [(.agg [(.I .i64 (4 : Int)), (.I .i64 u0), (.I .i64 (7 : Int)), (.I .i64 u1)]), (.B true)]) [⟨[.ints .u8 xs], 5, false, false⟩]) (fun (u0 : Int) (u1 : Int) => K (.tup [(.agg [(.I .i64 (3 : Int)), (.I .i64 u0), (.I .i64 (7 : Int)), (.I .i64 u1)]), (.B true)]) [⟨[.ints .u8 xs], 5, false, false⟩]) (fun (u0 : Int) (u1 : Int) => K (.tup [(.agg [(.I .i64 (2 : Int)), (.I .i64 u0), (.I .i64 (12 : Int)), (.I .i64 u1)]), (.B true)]) [⟨[.ints .u8 xs], 5, false, false⟩]) (fun (u0 : Int) (u1 : Int) => K (.tup [(.agg [(.I .i64 (1 : Int)), (.I .i64 u0), (.I .i64 (16 : Int)), (.I .i64 u1)]), (.B true)]) [⟨[.ints .u8 xs], 5, false, false⟩]))))))))))))))))))
def T45 (f : Y45) (C : CC) : CC := fun g args m K =>
  match Nat.beq g 45 with
  | true => VT45 f (C g args m K) args m K
  | false => C g args m K
set_option maxRecDepth 100000 in
theorem T45_ok {C : CC} (hC : CallsOk Try.prog C) : CallsOk Try.prog (T45 G45 C) := by
  intro g args m K E w cargs hS ha h
  unfold T45 at h
  split at h
  · rename_i hg
    obtain rfl := Nat.eq_of_beq_eq_true hg
    unfold VT45 at h
    replace h := seeCons_use h
    rcases h with h | ⟨a1, q2, rfl, h⟩
    · exact hC _ _ _ _ _ _ _ hS ha h
    replace h := seeSl_use h
    rcases h with h | ⟨r3, l4, c5, rfl, h⟩
    · exact hC _ _ _ _ _ _ _ hS ha h
    replace h := seeN_use h
    rcases h with h | ⟨rfl, h⟩
    · exact hC _ _ _ _ _ _ _ hS ha h
    replace h := seeO_use h
    rcases h with h | ⟨n, rfl, h⟩
    · exact hC _ _ _ _ _ _ _ hS ha h
    replace h := seeNo_use h
    rcases h with h | ⟨rfl, h⟩
    · exact hC _ _ _ _ _ _ _ hS ha h
    replace h := seeCons_use h
    rcases h with h | ⟨a6, q7, rfl, h⟩
    · exact hC _ _ _ _ _ _ _ hS ha h
    replace h := seeI_use h
    rcases h with h | ⟨pa, rfl, h⟩
    · exact hC _ _ _ _ _ _ _ hS ha h
    replace h := seeCons_use h
    rcases h with h | ⟨a8, q9, rfl, h⟩
    · exact hC _ _ _ _ _ _ _ hS ha h
    replace h := seeI_use h
    rcases h with h | ⟨t, rfl, h⟩
    · exact hC _ _ _ _ _ _ _ hS ha h
    replace h := seeNil_use h
    rcases h with h | ⟨rfl, h⟩
    · exact hC _ _ _ _ _ _ _ hS ha h
    replace h := seeCons_use h
    rcases h with h | ⟨a10, q11, rfl, h⟩
    · exact hC _ _ _ _ _ _ _ hS ha h
    replace h := seeBlk_use h
    rcases h with h | ⟨cs12, rfl, h⟩
    · exact hC _ _ _ _ _ _ _ hS ha h
    replace h := seeCons_use h
    rcases h with h | ⟨a13, q14, rfl, h⟩
    · exact hC _ _ _ _ _ _ _ hS ha h
    replace h := seeInts_use h
    rcases h with h | ⟨xs, rfl, h⟩
    · exact hC _ _ _ _ _ _ _ hS ha h
    replace h := seeNil_use h
    rcases h with h | ⟨rfl, h⟩
    · exact hC _ _ _ _ _ _ _ hS ha h
    replace h := seeNil_use h
    rcases h with h | ⟨rfl, h⟩
    · exact hC _ _ _ _ _ _ _ hS ha h
    exact cbody_use named C0_ok at45 (l := 1) rfl (WL45_10_ok (WL45_10b_ok (WL45_10c_ok (WL45_10d_ok (LoopsOk.none _ _))))) (F45_ok  GL45_10 GL45_10b GL45_10c GL45_10d n pa t xs K) hS ha h
  · exact hC _ _ _ _ _ _ _ hS ha h
theorem at17 : Try.prog.funcs[17]? = some (fnOf Try.prog 17) := by kernel_rfl
abbrev Y17 : Type := Nat → Int → Int → List Int → (Prop) → (Prop) → (Int → Prop) → (Int → Prop) → (Int → Prop) → (Int → Prop) → Prop
def F17 (f45 : Y45) (n : Nat) (pa : Int) (t : Int) (xs : List Int) (k1 : Prop) (k2 : Prop) (k3 : Int → Prop) (k4 : Int → Prop) (k5 : Int → Prop) (k6 : Int → Prop) : Prop :=
  (f45 n pa t xs (fun (n1 : Int) (b2 : Bool) => (bif (!b2) then (k1) else (bif ((pa == pa) && true) then (k2) else False))) (fun (n3 : Int) => (k1)) (fun (n4 : Int) => (k1)) (fun (n5 : Int) (n6 : Int) => (bif ((n5 == n5) && true) then (k3 n5) else False)) (fun (n7 : Int) (n8 : Int) => (bif ((n7 == n7) && true) then (k4 n7) else False)) (fun (n9 : Int) (n10 : Int) => (bif ((n9 == n9) && true) then (k5 n9) else False)) (fun (n11 : Int) (n12 : Int) => (bif ((n11 == n11) && true) then (k6 n11) else False)))
theorem F17_ok (f45 : Y45) (n : Nat) (pa : Int) (t : Int) (xs : List Int) (K : V → Mem → Prop) : cbody Try.prog (T45 f45 C0) (fun _ => none) 1000 (fnOf Try.prog 17) [(.sl 0 (0 : Nat) (some n) (none : Option Nat)), (.I .i64 pa), (.I .i64 t)] [⟨[.ints .u8 xs], 5, false, false⟩] K =
    F17 f45 n pa t xs (K (.tup [(.I .i64 (0 : Int)), (.I .i64 (0 : Int)), (.I .i64 (0 : Int)), (.I .i64 (210 : Int))]) [⟨[.ints .u8 xs], 5, false, false⟩]) (K (.tup [(.I .i64 (4 : Int)), (.I .i64 pa), (.I .i64 (4 : Int)), (.I .i64 (0 : Int))]) [⟨[.ints .u8 xs], 5, false, false⟩]) (fun (u0 : Int) => K (.tup [(.I .i64 (4 : Int)), (.I .i64 u0), (.I .i64 (7 : Int)), (.I .i64 (0 : Int))]) [⟨[.ints .u8 xs], 5, false, false⟩]) (fun (u0 : Int) => K (.tup [(.I .i64 (3 : Int)), (.I .i64 u0), (.I .i64 (7 : Int)), (.I .i64 (0 : Int))]) [⟨[.ints .u8 xs], 5, false, false⟩]) (fun (u0 : Int) => K (.tup [(.I .i64 (2 : Int)), (.I .i64 u0), (.I .i64 (12 : Int)), (.I .i64 (0 : Int))]) [⟨[.ints .u8 xs], 5, false, false⟩]) (fun (u0 : Int) => K (.tup [(.I .i64 (1 : Int)), (.I .i64 u0), (.I .i64 (16 : Int)), (.I .i64 (0 : Int))]) [⟨[.ints .u8 xs], 5, false, false⟩]) := by kernel_rfl
def G17 : Y17 := F17 G45
def VT17 (f : Y17) (F : Prop) (args : List V) (m : Mem) (K : V → Mem → Prop) : Prop :=
  (seeCons args F fun a1 q2 => (seeSl 0 a1 F fun r3 l4 c5 => (seeN 0 r3 F (seeO l4 F fun n => (seeNo c5 F (seeCons q2 F fun a6 q7 => (seeI .i64 a6 F fun pa => (seeCons q7 F fun a8 q9 => (seeI .i64 a8 F fun t => (seeNil q9 F (seeCons m F fun a10 q11 => (seeBlk 5 false false a10 F fun cs12 => (seeCons cs12 F fun a13 q14 => (seeInts .u8 a13 F fun xs => (seeNil q14 F (seeNil q11 F (f n pa t xs (K (.tup [(.I .i64 (0 : Int)), (.I .i64 (0 : Int)), (.I .i64 (0 : Int)), (.I .i64 (210 : Int))]) [⟨[.ints .u8 xs], 5, false, false⟩]) (K (.tup [(.I .i64 (4 : Int)), (.I .i64 pa), (.I .i64 (4 : Int)), (.I .i64 (0 : Int))]) [⟨[.ints .u8 xs], 5, false, false⟩]) (fun (u0 : Int) => K (.tup [(.I .i64 (4 : Int)), (.I .i64 u0), (.I .i64 (7 : Int)), (.I .i64 (0 : Int))]) [⟨[.ints .u8 xs], 5, false, false⟩]) (fun (u0 : Int) => K (.tup [(.I .i64 (3 : Int)), (.I .i64 u0), (.I .i64 (7 : Int)), (.I .i64 (0 : Int))]) [⟨[.ints .u8 xs], 5, false, false⟩]) (fun (u0 : Int) => K (.tup [(.I .i64 (2 : Int)), (.I .i64 u0), (.I .i64 (12 : Int)), (.I .i64 (0 : Int))]) [⟨[.ints .u8 xs], 5, false, false⟩]) (fun (u0 : Int) => K (.tup [(.I .i64 (1 : Int)), (.I .i64 u0), (.I .i64 (16 : Int)), (.I .i64 (0 : Int))]) [⟨[.ints .u8 xs], 5, false, false⟩]))))))))))))))))))
def T17 (f : Y17) (C : CC) : CC := fun g args m K =>
  match Nat.beq g 17 with
  | true => VT17 f (C g args m K) args m K
  | false => C g args m K
set_option maxRecDepth 100000 in
theorem T17_ok {C : CC} (hC : CallsOk Try.prog C) : CallsOk Try.prog (T17 G17 C) := by
  intro g args m K E w cargs hS ha h
  unfold T17 at h
  split at h
  · rename_i hg
    obtain rfl := Nat.eq_of_beq_eq_true hg
    unfold VT17 at h
    replace h := seeCons_use h
    rcases h with h | ⟨a1, q2, rfl, h⟩
    · exact hC _ _ _ _ _ _ _ hS ha h
    replace h := seeSl_use h
    rcases h with h | ⟨r3, l4, c5, rfl, h⟩
    · exact hC _ _ _ _ _ _ _ hS ha h
    replace h := seeN_use h
    rcases h with h | ⟨rfl, h⟩
    · exact hC _ _ _ _ _ _ _ hS ha h
    replace h := seeO_use h
    rcases h with h | ⟨n, rfl, h⟩
    · exact hC _ _ _ _ _ _ _ hS ha h
    replace h := seeNo_use h
    rcases h with h | ⟨rfl, h⟩
    · exact hC _ _ _ _ _ _ _ hS ha h
    replace h := seeCons_use h
    rcases h with h | ⟨a6, q7, rfl, h⟩
    · exact hC _ _ _ _ _ _ _ hS ha h
    replace h := seeI_use h
    rcases h with h | ⟨pa, rfl, h⟩
    · exact hC _ _ _ _ _ _ _ hS ha h
    replace h := seeCons_use h
    rcases h with h | ⟨a8, q9, rfl, h⟩
    · exact hC _ _ _ _ _ _ _ hS ha h
    replace h := seeI_use h
    rcases h with h | ⟨t, rfl, h⟩
    · exact hC _ _ _ _ _ _ _ hS ha h
    replace h := seeNil_use h
    rcases h with h | ⟨rfl, h⟩
    · exact hC _ _ _ _ _ _ _ hS ha h
    replace h := seeCons_use h
    rcases h with h | ⟨a10, q11, rfl, h⟩
    · exact hC _ _ _ _ _ _ _ hS ha h
    replace h := seeBlk_use h
    rcases h with h | ⟨cs12, rfl, h⟩
    · exact hC _ _ _ _ _ _ _ hS ha h
    replace h := seeCons_use h
    rcases h with h | ⟨a13, q14, rfl, h⟩
    · exact hC _ _ _ _ _ _ _ hS ha h
    replace h := seeInts_use h
    rcases h with h | ⟨xs, rfl, h⟩
    · exact hC _ _ _ _ _ _ _ hS ha h
    replace h := seeNil_use h
    rcases h with h | ⟨rfl, h⟩
    · exact hC _ _ _ _ _ _ _ hS ha h
    replace h := seeNil_use h
    rcases h with h | ⟨rfl, h⟩
    · exact hC _ _ _ _ _ _ _ hS ha h
    exact cbody_use named (T45_ok C0_ok) at17 (l := 1) rfl (LoopsOk.none _ _) (F17_ok G45 n pa t xs K) hS ha h
  · exact hC _ _ _ _ _ _ _ hS ha h
theorem at15 : Try.prog.funcs[15]? = some (fnOf Try.prog 15) := by kernel_rfl
abbrev Y15 : Type := Nat → Int → Int → Int → List Int → (Prop) → (Prop) → (Prop) → (List Int → Prop) → Prop
def F15 (f46 : Y46) (f47 : Y47) (f45 : Y45) (n : Nat) (pa : Int) (t : Int) (off : Int) (xs : List Int) (k1 : Prop) (k2 : Prop) (k3 : Prop) (k4 : List Int → Prop) : Prop :=
  (bif (decide (((n : Nat) : Int) > (1048576 : Int))) then (k1) else (f45 n pa t xs (fun (n1 : Int) (b2 : Bool) => (bif (!b2) then (k2) else (f46 off (fun (b3 : Bool) => (bif (!b3) then (k3) else (f47 off ((bif (t != (23 : Int)) then (bif ((n1 == n1) && true) then (bif (decide (n1 ≥ (8 : Int))) then (bif ((decide ((0 : Int) ≤ pa)) && ((decide ((Int.toNat pa) ≤ ((List.length xs) - (0 : Nat)))) && ((decide ((0 : Int) ≤ pa)) && (decide (pa ≤ pa))))) then (bif ((decide ((Int.toNat pa) < ((Int.toNat pa) + (3 : Nat)))) && ((decide ((((Int.toNat pa) + (3 : Nat)) * (1 : Nat)) ≤ (140737488355328 : Nat))) && (decide (((Int.toNat pa) + (3 : Nat)) ≤ (140737488355328 : Nat))))) then (bif ((decide ((0 : Int) ≤ (IntKind.wrap .i64 (pa + (4 : Int))))) && (decide ((Int.toNat (IntKind.wrap .i64 (pa + (4 : Int)))) ≤ n))) then (bif ((decide (((((List.length ((List.take (Int.toNat pa) xs) ++ ([(73 : Int), (199 : Int), (IntKind.wrap .u8 ((192 : Int) + (IntKind.wrap .u8 (ibits .and .i64 n1 (7 : Int)))))] : List Int))) - (0 : Nat)) + (n - (Int.toNat (IntKind.wrap .i64 (pa + (4 : Int)))))) * (1 : Nat)) ≤ (140737488355328 : Nat))) && (decide ((((List.length ((List.take (Int.toNat pa) xs) ++ ([(73 : Int), (199 : Int), (IntKind.wrap .u8 ((192 : Int) + (IntKind.wrap .u8 (ibits .and .i64 n1 (7 : Int)))))] : List Int))) - (0 : Nat)) + (n - (Int.toNat (IntKind.wrap .i64 (pa + (4 : Int)))))) ≤ (140737488355328 : Nat)))) then (k4 (((List.take (Int.toNat pa) xs) ++ ([(73 : Int), (199 : Int), (IntKind.wrap .u8 ((192 : Int) + (IntKind.wrap .u8 (ibits .and .i64 n1 (7 : Int)))))] : List Int)) ++ (List.take (n - (Int.toNat (IntKind.wrap .i64 (pa + (4 : Int))))) (List.drop (Int.toNat (IntKind.wrap .i64 (pa + (4 : Int)))) xs)))) else False) else False) else False) else False) else (bif ((decide ((0 : Int) ≤ pa)) && ((decide ((Int.toNat pa) ≤ ((List.length xs) - (0 : Nat)))) && ((decide ((0 : Int) ≤ pa)) && (decide (pa ≤ pa))))) then (bif ((decide ((Int.toNat pa) < ((Int.toNat pa) + (3 : Nat)))) && ((decide ((((Int.toNat pa) + (3 : Nat)) * (1 : Nat)) ≤ (140737488355328 : Nat))) && (decide (((Int.toNat pa) + (3 : Nat)) ≤ (140737488355328 : Nat))))) then (bif ((decide ((0 : Int) ≤ (IntKind.wrap .i64 (pa + (4 : Int))))) && (decide ((Int.toNat (IntKind.wrap .i64 (pa + (4 : Int)))) ≤ n))) then (bif ((decide (((((List.length ((List.take (Int.toNat pa) xs) ++ ([(72 : Int), (199 : Int), (IntKind.wrap .u8 ((192 : Int) + (IntKind.wrap .u8 (ibits .and .i64 n1 (7 : Int)))))] : List Int))) - (0 : Nat)) + (n - (Int.toNat (IntKind.wrap .i64 (pa + (4 : Int)))))) * (1 : Nat)) ≤ (140737488355328 : Nat))) && (decide ((((List.length ((List.take (Int.toNat pa) xs) ++ ([(72 : Int), (199 : Int), (IntKind.wrap .u8 ((192 : Int) + (IntKind.wrap .u8 (ibits .and .i64 n1 (7 : Int)))))] : List Int))) - (0 : Nat)) + (n - (Int.toNat (IntKind.wrap .i64 (pa + (4 : Int)))))) ≤ (140737488355328 : Nat)))) then (k4 (((List.take (Int.toNat pa) xs) ++ ([(72 : Int), (199 : Int), (IntKind.wrap .u8 ((192 : Int) + (IntKind.wrap .u8 (ibits .and .i64 n1 (7 : Int)))))] : List Int)) ++ (List.take (n - (Int.toNat (IntKind.wrap .i64 (pa + (4 : Int))))) (List.drop (Int.toNat (IntKind.wrap .i64 (pa + (4 : Int)))) xs)))) else False) else False) else False) else False)) else False) else (bif ((decide ((0 : Int) ≤ pa)) && ((decide ((Int.toNat pa) ≤ ((List.length xs) - (0 : Nat)))) && ((decide ((0 : Int) ≤ pa)) && (decide (pa ≤ pa))))) then (bif ((decide ((0 : Int) ≤ (IntKind.wrap .i64 (pa + (4 : Int))))) && (decide ((Int.toNat (IntKind.wrap .i64 (pa + (4 : Int)))) ≤ n))) then (bif ((decide ((Int.toNat pa) < ((Int.toNat pa) + (n - (Int.toNat (IntKind.wrap .i64 (pa + (4 : Int)))))))) && ((decide ((((Int.toNat pa) + (n - (Int.toNat (IntKind.wrap .i64 (pa + (4 : Int)))))) * (1 : Nat)) ≤ (140737488355328 : Nat))) && (decide (((Int.toNat pa) + (n - (Int.toNat (IntKind.wrap .i64 (pa + (4 : Int)))))) ≤ (140737488355328 : Nat))))) then (k4 ((List.take (Int.toNat pa) xs) ++ (List.take (n - (Int.toNat (IntKind.wrap .i64 (pa + (4 : Int))))) (List.drop (Int.toNat (IntKind.wrap .i64 (pa + (4 : Int)))) xs)))) else False) else False) else False))) (fun (xs4 : List Int) => (bif (t != (23 : Int)) then (bif ((n1 == n1) && true) then (bif (decide (n1 ≥ (8 : Int))) then (bif ((decide ((((3 : Nat) + ((List.length xs4) - (0 : Nat))) * (1 : Nat)) ≤ (140737488355328 : Nat))) && (decide (((3 : Nat) + ((List.length xs4) - (0 : Nat))) ≤ (140737488355328 : Nat)))) then (bif ((decide ((0 : Int) ≤ pa)) && ((decide ((Int.toNat pa) ≤ ((List.length xs) - (0 : Nat)))) && ((decide ((0 : Int) ≤ pa)) && (decide (pa ≤ pa))))) then (bif ((decide ((Int.toNat pa) < ((Int.toNat pa) + ((List.length (([(73 : Int), (199 : Int), (IntKind.wrap .u8 ((192 : Int) + (IntKind.wrap .u8 (ibits .and .i64 n1 (7 : Int)))))] : List Int) ++ xs4)) - (0 : Nat))))) && ((decide ((((Int.toNat pa) + ((List.length (([(73 : Int), (199 : Int), (IntKind.wrap .u8 ((192 : Int) + (IntKind.wrap .u8 (ibits .and .i64 n1 (7 : Int)))))] : List Int) ++ xs4)) - (0 : Nat))) * (1 : Nat)) ≤ (140737488355328 : Nat))) && (decide (((Int.toNat pa) + ((List.length (([(73 : Int), (199 : Int), (IntKind.wrap .u8 ((192 : Int) + (IntKind.wrap .u8 (ibits .and .i64 n1 (7 : Int)))))] : List Int) ++ xs4)) - (0 : Nat))) ≤ (140737488355328 : Nat))))) then (bif ((decide ((0 : Int) ≤ (IntKind.wrap .i64 (pa + (4 : Int))))) && (decide ((Int.toNat (IntKind.wrap .i64 (pa + (4 : Int)))) ≤ n))) then (bif ((decide (((((List.length ((List.take (Int.toNat pa) xs) ++ (([(73 : Int), (199 : Int), (IntKind.wrap .u8 ((192 : Int) + (IntKind.wrap .u8 (ibits .and .i64 n1 (7 : Int)))))] : List Int) ++ xs4))) - (0 : Nat)) + (n - (Int.toNat (IntKind.wrap .i64 (pa + (4 : Int)))))) * (1 : Nat)) ≤ (140737488355328 : Nat))) && (decide ((((List.length ((List.take (Int.toNat pa) xs) ++ (([(73 : Int), (199 : Int), (IntKind.wrap .u8 ((192 : Int) + (IntKind.wrap .u8 (ibits .and .i64 n1 (7 : Int)))))] : List Int) ++ xs4))) - (0 : Nat)) + (n - (Int.toNat (IntKind.wrap .i64 (pa + (4 : Int)))))) ≤ (140737488355328 : Nat)))) then (k4 (((List.take (Int.toNat pa) xs) ++ (([(73 : Int), (199 : Int), (IntKind.wrap .u8 ((192 : Int) + (IntKind.wrap .u8 (ibits .and .i64 n1 (7 : Int)))))] : List Int) ++ xs4)) ++ (List.take (n - (Int.toNat (IntKind.wrap .i64 (pa + (4 : Int))))) (List.drop (Int.toNat (IntKind.wrap .i64 (pa + (4 : Int)))) xs)))) else False) else False) else False) else False) else False) else (bif ((decide ((((3 : Nat) + ((List.length xs4) - (0 : Nat))) * (1 : Nat)) ≤ (140737488355328 : Nat))) && (decide (((3 : Nat) + ((List.length xs4) - (0 : Nat))) ≤ (140737488355328 : Nat)))) then (bif ((decide ((0 : Int) ≤ pa)) && ((decide ((Int.toNat pa) ≤ ((List.length xs) - (0 : Nat)))) && ((decide ((0 : Int) ≤ pa)) && (decide (pa ≤ pa))))) then (bif ((decide ((Int.toNat pa) < ((Int.toNat pa) + ((List.length (([(72 : Int), (199 : Int), (IntKind.wrap .u8 ((192 : Int) + (IntKind.wrap .u8 (ibits .and .i64 n1 (7 : Int)))))] : List Int) ++ xs4)) - (0 : Nat))))) && ((decide ((((Int.toNat pa) + ((List.length (([(72 : Int), (199 : Int), (IntKind.wrap .u8 ((192 : Int) + (IntKind.wrap .u8 (ibits .and .i64 n1 (7 : Int)))))] : List Int) ++ xs4)) - (0 : Nat))) * (1 : Nat)) ≤ (140737488355328 : Nat))) && (decide (((Int.toNat pa) + ((List.length (([(72 : Int), (199 : Int), (IntKind.wrap .u8 ((192 : Int) + (IntKind.wrap .u8 (ibits .and .i64 n1 (7 : Int)))))] : List Int) ++ xs4)) - (0 : Nat))) ≤ (140737488355328 : Nat))))) then (bif ((decide ((0 : Int) ≤ (IntKind.wrap .i64 (pa + (4 : Int))))) && (decide ((Int.toNat (IntKind.wrap .i64 (pa + (4 : Int)))) ≤ n))) then (bif ((decide (((((List.length ((List.take (Int.toNat pa) xs) ++ (([(72 : Int), (199 : Int), (IntKind.wrap .u8 ((192 : Int) + (IntKind.wrap .u8 (ibits .and .i64 n1 (7 : Int)))))] : List Int) ++ xs4))) - (0 : Nat)) + (n - (Int.toNat (IntKind.wrap .i64 (pa + (4 : Int)))))) * (1 : Nat)) ≤ (140737488355328 : Nat))) && (decide ((((List.length ((List.take (Int.toNat pa) xs) ++ (([(72 : Int), (199 : Int), (IntKind.wrap .u8 ((192 : Int) + (IntKind.wrap .u8 (ibits .and .i64 n1 (7 : Int)))))] : List Int) ++ xs4))) - (0 : Nat)) + (n - (Int.toNat (IntKind.wrap .i64 (pa + (4 : Int)))))) ≤ (140737488355328 : Nat)))) then (k4 (((List.take (Int.toNat pa) xs) ++ (([(72 : Int), (199 : Int), (IntKind.wrap .u8 ((192 : Int) + (IntKind.wrap .u8 (ibits .and .i64 n1 (7 : Int)))))] : List Int) ++ xs4)) ++ (List.take (n - (Int.toNat (IntKind.wrap .i64 (pa + (4 : Int))))) (List.drop (Int.toNat (IntKind.wrap .i64 (pa + (4 : Int)))) xs)))) else False) else False) else False) else False) else False)) else False) else (bif ((decide ((0 : Int) ≤ pa)) && ((decide ((Int.toNat pa) ≤ ((List.length xs) - (0 : Nat)))) && ((decide ((0 : Int) ≤ pa)) && (decide (pa ≤ pa))))) then (bif ((decide ((Int.toNat pa) < ((Int.toNat pa) + ((List.length xs4) - (0 : Nat))))) && ((decide ((((Int.toNat pa) + ((List.length xs4) - (0 : Nat))) * (1 : Nat)) ≤ (140737488355328 : Nat))) && (decide (((Int.toNat pa) + ((List.length xs4) - (0 : Nat))) ≤ (140737488355328 : Nat))))) then (bif ((decide ((0 : Int) ≤ (IntKind.wrap .i64 (pa + (4 : Int))))) && (decide ((Int.toNat (IntKind.wrap .i64 (pa + (4 : Int)))) ≤ n))) then (bif ((decide (((((List.length ((List.take (Int.toNat pa) xs) ++ xs4)) - (0 : Nat)) + (n - (Int.toNat (IntKind.wrap .i64 (pa + (4 : Int)))))) * (1 : Nat)) ≤ (140737488355328 : Nat))) && (decide ((((List.length ((List.take (Int.toNat pa) xs) ++ xs4)) - (0 : Nat)) + (n - (Int.toNat (IntKind.wrap .i64 (pa + (4 : Int)))))) ≤ (140737488355328 : Nat)))) then (k4 (((List.take (Int.toNat pa) xs) ++ xs4) ++ (List.take (n - (Int.toNat (IntKind.wrap .i64 (pa + (4 : Int))))) (List.drop (Int.toNat (IntKind.wrap .i64 (pa + (4 : Int)))) xs)))) else False) else False) else False) else False)))))) ((k3))))) (fun (n5 : Int) => (k2)) (fun (n6 : Int) => (k2)) (fun (n7 : Int) (n8 : Int) => (f46 off (fun (b9 : Bool) => (bif (!b9) then (k3) else (f47 off ((bif (t != (23 : Int)) then (bif ((n8 == n8) && true) then (bif (decide (n8 ≥ (8 : Int))) then (bif ((decide ((0 : Int) ≤ n7)) && ((decide ((Int.toNat n7) ≤ ((List.length xs) - (0 : Nat)))) && ((decide ((0 : Int) ≤ n7)) && (decide (n7 ≤ n7))))) then (bif ((decide ((Int.toNat n7) < ((Int.toNat n7) + (3 : Nat)))) && ((decide ((((Int.toNat n7) + (3 : Nat)) * (1 : Nat)) ≤ (140737488355328 : Nat))) && (decide (((Int.toNat n7) + (3 : Nat)) ≤ (140737488355328 : Nat))))) then (bif ((decide ((0 : Int) ≤ (IntKind.wrap .i64 (n7 + (7 : Int))))) && (decide ((Int.toNat (IntKind.wrap .i64 (n7 + (7 : Int)))) ≤ n))) then (bif ((decide (((((List.length ((List.take (Int.toNat n7) xs) ++ ([(73 : Int), (199 : Int), (IntKind.wrap .u8 ((192 : Int) + (IntKind.wrap .u8 (ibits .and .i64 n8 (7 : Int)))))] : List Int))) - (0 : Nat)) + (n - (Int.toNat (IntKind.wrap .i64 (n7 + (7 : Int)))))) * (1 : Nat)) ≤ (140737488355328 : Nat))) && (decide ((((List.length ((List.take (Int.toNat n7) xs) ++ ([(73 : Int), (199 : Int), (IntKind.wrap .u8 ((192 : Int) + (IntKind.wrap .u8 (ibits .and .i64 n8 (7 : Int)))))] : List Int))) - (0 : Nat)) + (n - (Int.toNat (IntKind.wrap .i64 (n7 + (7 : Int)))))) ≤ (140737488355328 : Nat)))) then (k4 (((List.take (Int.toNat n7) xs) ++ ([(73 : Int), (199 : Int), (IntKind.wrap .u8 ((192 : Int) + (IntKind.wrap .u8 (ibits .and .i64 n8 (7 : Int)))))] : List Int)) ++ (List.take (n - (Int.toNat (IntKind.wrap .i64 (n7 + (7 : Int))))) (List.drop (Int.toNat (IntKind.wrap .i64 (n7 + (7 : Int)))) xs)))) else False) else False) else False) else False) else (bif ((decide ((0 : Int) ≤ n7)) && ((decide ((Int.toNat n7) ≤ ((List.length xs) - (0 : Nat)))) && ((decide ((0 : Int) ≤ n7)) && (decide (n7 ≤ n7))))) then (bif ((decide ((Int.toNat n7) < ((Int.toNat n7) + (3 : Nat)))) && ((decide ((((Int.toNat n7) + (3 : Nat)) * (1 : Nat)) ≤ (140737488355328 : Nat))) && (decide (((Int.toNat n7) + (3 : Nat)) ≤ (140737488355328 : Nat))))) then (bif ((decide ((0 : Int) ≤ (IntKind.wrap .i64 (n7 + (7 : Int))))) && (decide ((Int.toNat (IntKind.wrap .i64 (n7 + (7 : Int)))) ≤ n))) then (bif ((decide (((((List.length ((List.take (Int.toNat n7) xs) ++ ([(72 : Int), (199 : Int), (IntKind.wrap .u8 ((192 : Int) + (IntKind.wrap .u8 (ibits .and .i64 n8 (7 : Int)))))] : List Int))) - (0 : Nat)) + (n - (Int.toNat (IntKind.wrap .i64 (n7 + (7 : Int)))))) * (1 : Nat)) ≤ (140737488355328 : Nat))) && (decide ((((List.length ((List.take (Int.toNat n7) xs) ++ ([(72 : Int), (199 : Int), (IntKind.wrap .u8 ((192 : Int) + (IntKind.wrap .u8 (ibits .and .i64 n8 (7 : Int)))))] : List Int))) - (0 : Nat)) + (n - (Int.toNat (IntKind.wrap .i64 (n7 + (7 : Int)))))) ≤ (140737488355328 : Nat)))) then (k4 (((List.take (Int.toNat n7) xs) ++ ([(72 : Int), (199 : Int), (IntKind.wrap .u8 ((192 : Int) + (IntKind.wrap .u8 (ibits .and .i64 n8 (7 : Int)))))] : List Int)) ++ (List.take (n - (Int.toNat (IntKind.wrap .i64 (n7 + (7 : Int))))) (List.drop (Int.toNat (IntKind.wrap .i64 (n7 + (7 : Int)))) xs)))) else False) else False) else False) else False)) else False) else (bif ((decide ((0 : Int) ≤ n7)) && ((decide ((Int.toNat n7) ≤ ((List.length xs) - (0 : Nat)))) && ((decide ((0 : Int) ≤ n7)) && (decide (n7 ≤ n7))))) then (bif ((decide ((0 : Int) ≤ (IntKind.wrap .i64 (n7 + (7 : Int))))) && (decide ((Int.toNat (IntKind.wrap .i64 (n7 + (7 : Int)))) ≤ n))) then (bif ((decide ((Int.toNat n7) < ((Int.toNat n7) + (n - (Int.toNat (IntKind.wrap .i64 (n7 + (7 : Int)))))))) && ((decide ((((Int.toNat n7) + (n - (Int.toNat (IntKind.wrap .i64 (n7 + (7 : Int)))))) * (1 : Nat)) ≤ (140737488355328 : Nat))) && (decide (((Int.toNat n7) + (n - (Int.toNat (IntKind.wrap .i64 (n7 + (7 : Int)))))) ≤ (140737488355328 : Nat))))) then (k4 ((List.take (Int.toNat n7) xs) ++ (List.take (n - (Int.toNat (IntKind.wrap .i64 (n7 + (7 : Int))))) (List.drop (Int.toNat (IntKind.wrap .i64 (n7 + (7 : Int)))) xs)))) else False) else False) else False))) (fun (xs10 : List Int) => (bif (t != (23 : Int)) then (bif ((n8 == n8) && true) then (bif (decide (n8 ≥ (8 : Int))) then (bif ((decide ((((3 : Nat) + ((List.length xs10) - (0 : Nat))) * (1 : Nat)) ≤ (140737488355328 : Nat))) && (decide (((3 : Nat) + ((List.length xs10) - (0 : Nat))) ≤ (140737488355328 : Nat)))) then (bif ((decide ((0 : Int) ≤ n7)) && ((decide ((Int.toNat n7) ≤ ((List.length xs) - (0 : Nat)))) && ((decide ((0 : Int) ≤ n7)) && (decide (n7 ≤ n7))))) then (bif ((decide ((Int.toNat n7) < ((Int.toNat n7) + ((List.length (([(73 : Int), (199 : Int), (IntKind.wrap .u8 ((192 : Int) + (IntKind.wrap .u8 (ibits .and .i64 n8 (7 : Int)))))] : List Int) ++ xs10)) - (0 : Nat))))) && ((decide ((((Int.toNat n7) + ((List.length (([(73 : Int), (199 : Int), (IntKind.wrap .u8 ((192 : Int) + (IntKind.wrap .u8 (ibits .and .i64 n8 (7 : Int)))))] : List Int) ++ xs10)) - (0 : Nat))) * (1 : Nat)) ≤ (140737488355328 : Nat))) && (decide (((Int.toNat n7) + ((List.length (([(73 : Int), (199 : Int), (IntKind.wrap .u8 ((192 : Int) + (IntKind.wrap .u8 (ibits .and .i64 n8 (7 : Int)))))] : List Int) ++ xs10)) - (0 : Nat))) ≤ (140737488355328 : Nat))))) then (bif ((decide ((0 : Int) ≤ (IntKind.wrap .i64 (n7 + (7 : Int))))) && (decide ((Int.toNat (IntKind.wrap .i64 (n7 + (7 : Int)))) ≤ n))) then (bif ((decide (((((List.length ((List.take (Int.toNat n7) xs) ++ (([(73 : Int), (199 : Int), (IntKind.wrap .u8 ((192 : Int) + (IntKind.wrap .u8 (ibits .and .i64 n8 (7 : Int)))))] : List Int) ++ xs10))) - (0 : Nat)) + (n - (Int.toNat (IntKind.wrap .i64 (n7 + (7 : Int)))))) * (1 : Nat)) ≤ (140737488355328 : Nat))) && (decide ((((List.length ((List.take (Int.toNat n7) xs) ++ (([(73 : Int), (199 : Int), (IntKind.wrap .u8 ((192 : Int) + (IntKind.wrap .u8 (ibits .and .i64 n8 (7 : Int)))))] : List Int) ++ xs10))) - (0 : Nat)) + (n - (Int.toNat (IntKind.wrap .i64 (n7 + (7 : Int)))))) ≤ (140737488355328 : Nat)))) then (k4 (((List.take (Int.toNat n7) xs) ++ (([(73 : Int), (199 : Int), (IntKind.wrap .u8 ((192 : Int) + (IntKind.wrap .u8 (ibits .and .i64 n8 (7 : Int)))))] : List Int) ++ xs10)) ++ (List.take (n - (Int.toNat (IntKind.wrap .i64 (n7 + (7 : Int))))) (List.drop (Int.toNat (IntKind.wrap .i64 (n7 + (7 : Int)))) xs)))) else False) else False) else False) else False) else False) else (bif ((decide ((((3 : Nat) + ((List.length xs10) - (0 : Nat))) * (1 : Nat)) ≤ (140737488355328 : Nat))) && (decide (((3 : Nat) + ((List.length xs10) - (0 : Nat))) ≤ (140737488355328 : Nat)))) then (bif ((decide ((0 : Int) ≤ n7)) && ((decide ((Int.toNat n7) ≤ ((List.length xs) - (0 : Nat)))) && ((decide ((0 : Int) ≤ n7)) && (decide (n7 ≤ n7))))) then (bif ((decide ((Int.toNat n7) < ((Int.toNat n7) + ((List.length (([(72 : Int), (199 : Int), (IntKind.wrap .u8 ((192 : Int) + (IntKind.wrap .u8 (ibits .and .i64 n8 (7 : Int)))))] : List Int) ++ xs10)) - (0 : Nat))))) && ((decide ((((Int.toNat n7) + ((List.length (([(72 : Int), (199 : Int), (IntKind.wrap .u8 ((192 : Int) + (IntKind.wrap .u8 (ibits .and .i64 n8 (7 : Int)))))] : List Int) ++ xs10)) - (0 : Nat))) * (1 : Nat)) ≤ (140737488355328 : Nat))) && (decide (((Int.toNat n7) + ((List.length (([(72 : Int), (199 : Int), (IntKind.wrap .u8 ((192 : Int) + (IntKind.wrap .u8 (ibits .and .i64 n8 (7 : Int)))))] : List Int) ++ xs10)) - (0 : Nat))) ≤ (140737488355328 : Nat))))) then (bif ((decide ((0 : Int) ≤ (IntKind.wrap .i64 (n7 + (7 : Int))))) && (decide ((Int.toNat (IntKind.wrap .i64 (n7 + (7 : Int)))) ≤ n))) then (bif ((decide (((((List.length ((List.take (Int.toNat n7) xs) ++ (([(72 : Int), (199 : Int), (IntKind.wrap .u8 ((192 : Int) + (IntKind.wrap .u8 (ibits .and .i64 n8 (7 : Int)))))] : List Int) ++ xs10))) - (0 : Nat)) + (n - (Int.toNat (IntKind.wrap .i64 (n7 + (7 : Int)))))) * (1 : Nat)) ≤ (140737488355328 : Nat))) && (decide ((((List.length ((List.take (Int.toNat n7) xs) ++ (([(72 : Int), (199 : Int), (IntKind.wrap .u8 ((192 : Int) + (IntKind.wrap .u8 (ibits .and .i64 n8 (7 : Int)))))] : List Int) ++ xs10))) - (0 : Nat)) + (n - (Int.toNat (IntKind.wrap .i64 (n7 + (7 : Int)))))) ≤ (140737488355328 : Nat)))) then (k4 (((List.take (Int.toNat n7) xs) ++ (([(72 : Int), (199 : Int), (IntKind.wrap .u8 ((192 : Int) + (IntKind.wrap .u8 (ibits .and .i64 n8 (7 : Int)))))] : List Int) ++ xs10)) ++ (List.take (n - (Int.toNat (IntKind.wrap .i64 (n7 + (7 : Int))))) (List.drop (Int.toNat (IntKind.wrap .i64 (n7 + (7 : Int)))) xs)))) else False) else False) else False) else False) else False)) else False) else (bif ((decide ((0 : Int) ≤ n7)) && ((decide ((Int.toNat n7) ≤ ((List.length xs) - (0 : Nat)))) && ((decide ((0 : Int) ≤ n7)) && (decide (n7 ≤ n7))))) then (bif ((decide ((Int.toNat n7) < ((Int.toNat n7) + ((List.length xs10) - (0 : Nat))))) && ((decide ((((Int.toNat n7) + ((List.length xs10) - (0 : Nat))) * (1 : Nat)) ≤ (140737488355328 : Nat))) && (decide (((Int.toNat n7) + ((List.length xs10) - (0 : Nat))) ≤ (140737488355328 : Nat))))) then (bif ((decide ((0 : Int) ≤ (IntKind.wrap .i64 (n7 + (7 : Int))))) && (decide ((Int.toNat (IntKind.wrap .i64 (n7 + (7 : Int)))) ≤ n))) then (bif ((decide (((((List.length ((List.take (Int.toNat n7) xs) ++ xs10)) - (0 : Nat)) + (n - (Int.toNat (IntKind.wrap .i64 (n7 + (7 : Int)))))) * (1 : Nat)) ≤ (140737488355328 : Nat))) && (decide ((((List.length ((List.take (Int.toNat n7) xs) ++ xs10)) - (0 : Nat)) + (n - (Int.toNat (IntKind.wrap .i64 (n7 + (7 : Int)))))) ≤ (140737488355328 : Nat)))) then (k4 (((List.take (Int.toNat n7) xs) ++ xs10) ++ (List.take (n - (Int.toNat (IntKind.wrap .i64 (n7 + (7 : Int))))) (List.drop (Int.toNat (IntKind.wrap .i64 (n7 + (7 : Int)))) xs)))) else False) else False) else False) else False)))))) ((k3)))) (fun (n11 : Int) (n12 : Int) => (f46 off (fun (b13 : Bool) => (bif (!b13) then (k3) else (f47 off ((bif (t != (23 : Int)) then (bif ((n12 == n12) && true) then (bif (decide (n12 ≥ (8 : Int))) then (bif ((decide ((0 : Int) ≤ n11)) && ((decide ((Int.toNat n11) ≤ ((List.length xs) - (0 : Nat)))) && ((decide ((0 : Int) ≤ n11)) && (decide (n11 ≤ n11))))) then (bif ((decide ((Int.toNat n11) < ((Int.toNat n11) + (3 : Nat)))) && ((decide ((((Int.toNat n11) + (3 : Nat)) * (1 : Nat)) ≤ (140737488355328 : Nat))) && (decide (((Int.toNat n11) + (3 : Nat)) ≤ (140737488355328 : Nat))))) then (bif ((decide ((0 : Int) ≤ (IntKind.wrap .i64 (n11 + (7 : Int))))) && (decide ((Int.toNat (IntKind.wrap .i64 (n11 + (7 : Int)))) ≤ n))) then (bif ((decide (((((List.length ((List.take (Int.toNat n11) xs) ++ ([(73 : Int), (199 : Int), (IntKind.wrap .u8 ((192 : Int) + (IntKind.wrap .u8 (ibits .and .i64 n12 (7 : Int)))))] : List Int))) - (0 : Nat)) + (n - (Int.toNat (IntKind.wrap .i64 (n11 + (7 : Int)))))) * (1 : Nat)) ≤ (140737488355328 : Nat))) && (decide ((((List.length ((List.take (Int.toNat n11) xs) ++ ([(73 : Int), (199 : Int), (IntKind.wrap .u8 ((192 : Int) + (IntKind.wrap .u8 (ibits .and .i64 n12 (7 : Int)))))] : List Int))) - (0 : Nat)) + (n - (Int.toNat (IntKind.wrap .i64 (n11 + (7 : Int)))))) ≤ (140737488355328 : Nat)))) then (k4 (((List.take (Int.toNat n11) xs) ++ ([(73 : Int), (199 : Int), (IntKind.wrap .u8 ((192 : Int) + (IntKind.wrap .u8 (ibits .and .i64 n12 (7 : Int)))))] : List Int)) ++ (List.take (n - (Int.toNat (IntKind.wrap .i64 (n11 + (7 : Int))))) (List.drop (Int.toNat (IntKind.wrap .i64 (n11 + (7 : Int)))) xs)))) else False) else False) else False) else False) else (bif ((decide ((0 : Int) ≤ n11)) && ((decide ((Int.toNat n11) ≤ ((List.length xs) - (0 : Nat)))) && ((decide ((0 : Int) ≤ n11)) && (decide (n11 ≤ n11))))) then (bif ((decide ((Int.toNat n11) < ((Int.toNat n11) + (3 : Nat)))) && ((decide ((((Int.toNat n11) + (3 : Nat)) * (1 : Nat)) ≤ (140737488355328 : Nat))) && (decide (((Int.toNat n11) + (3 : Nat)) ≤ (140737488355328 : Nat))))) then (bif ((decide ((0 : Int) ≤ (IntKind.wrap .i64 (n11 + (7 : Int))))) && (decide ((Int.toNat (IntKind.wrap .i64 (n11 + (7 : Int)))) ≤ n))) then (bif ((decide (((((List.length ((List.take (Int.toNat n11) xs) ++ ([(72 : Int), (199 : Int), (IntKind.wrap .u8 ((192 : Int) + (IntKind.wrap .u8 (ibits .and .i64 n12 (7 : Int)))))] : List Int))) - (0 : Nat)) + (n - (Int.toNat (IntKind.wrap .i64 (n11 + (7 : Int)))))) * (1 : Nat)) ≤ (140737488355328 : Nat))) && (decide ((((List.length ((List.take (Int.toNat n11) xs) ++ ([(72 : Int), (199 : Int), (IntKind.wrap .u8 ((192 : Int) + (IntKind.wrap .u8 (ibits .and .i64 n12 (7 : Int)))))] : List Int))) - (0 : Nat)) + (n - (Int.toNat (IntKind.wrap .i64 (n11 + (7 : Int)))))) ≤ (140737488355328 : Nat)))) then (k4 (((List.take (Int.toNat n11) xs) ++ ([(72 : Int), (199 : Int), (IntKind.wrap .u8 ((192 : Int) + (IntKind.wrap .u8 (ibits .and .i64 n12 (7 : Int)))))] : List Int)) ++ (List.take (n - (Int.toNat (IntKind.wrap .i64 (n11 + (7 : Int))))) (List.drop (Int.toNat (IntKind.wrap .i64 (n11 + (7 : Int)))) xs)))) else False) else False) else False) else False)) else False) else (bif ((decide ((0 : Int) ≤ n11)) && ((decide ((Int.toNat n11) ≤ ((List.length xs) - (0 : Nat)))) && ((decide ((0 : Int) ≤ n11)) && (decide (n11 ≤ n11))))) then (bif ((decide ((0 : Int) ≤ (IntKind.wrap .i64 (n11 + (7 : Int))))) && (decide ((Int.toNat (IntKind.wrap .i64 (n11 + (7 : Int)))) ≤ n))) then (bif ((decide ((Int.toNat n11) < ((Int.toNat n11) + (n - (Int.toNat (IntKind.wrap .i64 (n11 + (7 : Int)))))))) && ((decide ((((Int.toNat n11) + (n - (Int.toNat (IntKind.wrap .i64 (n11 + (7 : Int)))))) * (1 : Nat)) ≤ (140737488355328 : Nat))) && (decide (((Int.toNat n11) + (n - (Int.toNat (IntKind.wrap .i64 (n11 + (7 : Int)))))) ≤ (140737488355328 : Nat))))) then (k4 ((List.take (Int.toNat n11) xs) ++ (List.take (n - (Int.toNat (IntKind.wrap .i64 (n11 + (7 : Int))))) (List.drop (Int.toNat (IntKind.wrap .i64 (n11 + (7 : Int)))) xs)))) else False) else False) else False))) (fun (xs14 : List Int) => (bif (t != (23 : Int)) then (bif ((n12 == n12) && true) then (bif (decide (n12 ≥ (8 : Int))) then (bif ((decide ((((3 : Nat) + ((List.length xs14) - (0 : Nat))) * (1 : Nat)) ≤ (140737488355328 : Nat))) && (decide (((3 : Nat) + ((List.length xs14) - (0 : Nat))) ≤ (140737488355328 : Nat)))) then (bif ((decide ((0 : Int) ≤ n11)) && ((decide ((Int.toNat n11) ≤ ((List.length xs) - (0 : Nat)))) && ((decide ((0 : Int) ≤ n11)) && (decide (n11 ≤ n11))))) then (bif ((decide ((Int.toNat n11) < ((Int.toNat n11) + ((List.length (([(73 : Int), (199 : Int), (IntKind.wrap .u8 ((192 : Int) + (IntKind.wrap .u8 (ibits .and .i64 n12 (7 : Int)))))] : List Int) ++ xs14)) - (0 : Nat))))) && ((decide ((((Int.toNat n11) + ((List.length (([(73 : Int), (199 : Int), (IntKind.wrap .u8 ((192 : Int) + (IntKind.wrap .u8 (ibits .and .i64 n12 (7 : Int)))))] : List Int) ++ xs14)) - (0 : Nat))) * (1 : Nat)) ≤ (140737488355328 : Nat))) && (decide (((Int.toNat n11) + ((List.length (([(73 : Int), (199 : Int), (IntKind.wrap .u8 ((192 : Int) + (IntKind.wrap .u8 (ibits .and .i64 n12 (7 : Int)))))] : List Int) ++ xs14)) - (0 : Nat))) ≤ (140737488355328 : Nat))))) then (bif ((decide ((0 : Int) ≤ (IntKind.wrap .i64 (n11 + (7 : Int))))) && (decide ((Int.toNat (IntKind.wrap .i64 (n11 + (7 : Int)))) ≤ n))) then (bif ((decide (((((List.length ((List.take (Int.toNat n11) xs) ++ (([(73 : Int), (199 : Int), (IntKind.wrap .u8 ((192 : Int) + (IntKind.wrap .u8 (ibits .and .i64 n12 (7 : Int)))))] : List Int) ++ xs14))) - (0 : Nat)) + (n - (Int.toNat (IntKind.wrap .i64 (n11 + (7 : Int)))))) * (1 : Nat)) ≤ (140737488355328 : Nat))) && (decide ((((List.length ((List.take (Int.toNat n11) xs) ++ (([(73 : Int), (199 : Int), (IntKind.wrap .u8 ((192 : Int) + (IntKind.wrap .u8 (ibits .and .i64 n12 (7 : Int)))))] : List Int) ++ xs14))) - (0 : Nat)) + (n - (Int.toNat (IntKind.wrap .i64 (n11 + (7 : Int)))))) ≤ (140737488355328 : Nat)))) then (k4 (((List.take (Int.toNat n11) xs) ++ (([(73 : Int), (199 : Int), (IntKind.wrap .u8 ((192 : Int) + (IntKind.wrap .u8 (ibits .and .i64 n12 (7 : Int)))))] : List Int) ++ xs14)) ++ (List.take (n - (Int.toNat (IntKind.wrap .i64 (n11 + (7 : Int))))) (List.drop (Int.toNat (IntKind.wrap .i64 (n11 + (7 : Int)))) xs)))) else False) else False) else False) else False) else False) else (bif ((decide ((((3 : Nat) + ((List.length xs14) - (0 : Nat))) * (1 : Nat)) ≤ (140737488355328 : Nat))) && (decide (((3 : Nat) + ((List.length xs14) - (0 : Nat))) ≤ (140737488355328 : Nat)))) then (bif ((decide ((0 : Int) ≤ n11)) && ((decide ((Int.toNat n11) ≤ ((List.length xs) - (0 : Nat)))) && ((decide ((0 : Int) ≤ n11)) && (decide (n11 ≤ n11))))) then (bif ((decide ((Int.toNat n11) < ((Int.toNat n11) + ((List.length (([(72 : Int), (199 : Int), (IntKind.wrap .u8 ((192 : Int) + (IntKind.wrap .u8 (ibits .and .i64 n12 (7 : Int)))))] : List Int) ++ xs14)) - (0 : Nat))))) && ((decide ((((Int.toNat n11) + ((List.length (([(72 : Int), (199 : Int), (IntKind.wrap .u8 ((192 : Int) + (IntKind.wrap .u8 (ibits .and .i64 n12 (7 : Int)))))] : List Int) ++ xs14)) - (0 : Nat))) * (1 : Nat)) ≤ (140737488355328 : Nat))) && (decide (((Int.toNat n11) + ((List.length (([(72 : Int), (199 : Int), (IntKind.wrap .u8 ((192 : Int) + (IntKind.wrap .u8 (ibits .and .i64 n12 (7 : Int)))))] : List Int) ++ xs14)) - (0 : Nat))) ≤ (140737488355328 : Nat))))) then (bif ((decide ((0 : Int) ≤ (IntKind.wrap .i64 (n11 + (7 : Int))))) && (decide ((Int.toNat (IntKind.wrap .i64 (n11 + (7 : Int)))) ≤ n))) then (bif ((decide (((((List.length ((List.take (Int.toNat n11) xs) ++ (([(72 : Int), (199 : Int), (IntKind.wrap .u8 ((192 : Int) + (IntKind.wrap .u8 (ibits .and .i64 n12 (7 : Int)))))] : List Int) ++ xs14))) - (0 : Nat)) + (n - (Int.toNat (IntKind.wrap .i64 (n11 + (7 : Int)))))) * (1 : Nat)) ≤ (140737488355328 : Nat))) && (decide ((((List.length ((List.take (Int.toNat n11) xs) ++ (([(72 : Int), (199 : Int), (IntKind.wrap .u8 ((192 : Int) + (IntKind.wrap .u8 (ibits .and .i64 n12 (7 : Int)))))] : List Int) ++ xs14))) - (0 : Nat)) + (n - (Int.toNat (IntKind.wrap .i64 (n11 + (7 : Int)))))) ≤ (140737488355328 : Nat)))) then (k4 (((List.take (Int.toNat n11) xs) ++ (([(72 : Int), (199 : Int), (IntKind.wrap .u8 ((192 : Int) + (IntKind.wrap .u8 (ibits .and .i64 n12 (7 : Int)))))] : List Int) ++ xs14)) ++ (List.take (n - (Int.toNat (IntKind.wrap .i64 (n11 + (7 : Int))))) (List.drop (Int.toNat (IntKind.wrap .i64 (n11 + (7 : Int)))) xs)))) else False) else False) else False) else False) else False)) else False) else (bif ((decide ((0 : Int) ≤ n11)) && ((decide ((Int.toNat n11) ≤ ((List.length xs) - (0 : Nat)))) && ((decide ((0 : Int) ≤ n11)) && (decide (n11 ≤ n11))))) then (bif ((decide ((Int.toNat n11) < ((Int.toNat n11) + ((List.length xs14) - (0 : Nat))))) && ((decide ((((Int.toNat n11) + ((List.length xs14) - (0 : Nat))) * (1 : Nat)) ≤ (140737488355328 : Nat))) && (decide (((Int.toNat n11) + ((List.length xs14) - (0 : Nat))) ≤ (140737488355328 : Nat))))) then (bif ((decide ((0 : Int) ≤ (IntKind.wrap .i64 (n11 + (7 : Int))))) && (decide ((Int.toNat (IntKind.wrap .i64 (n11 + (7 : Int)))) ≤ n))) then (bif ((decide (((((List.length ((List.take (Int.toNat n11) xs) ++ xs14)) - (0 : Nat)) + (n - (Int.toNat (IntKind.wrap .i64 (n11 + (7 : Int)))))) * (1 : Nat)) ≤ (140737488355328 : Nat))) && (decide ((((List.length ((List.take (Int.toNat n11) xs) ++ xs14)) - (0 : Nat)) + (n - (Int.toNat (IntKind.wrap .i64 (n11 + (7 : Int)))))) ≤ (140737488355328 : Nat)))) then (k4 (((List.take (Int.toNat n11) xs) ++ xs14) ++ (List.take (n - (Int.toNat (IntKind.wrap .i64 (n11 + (7 : Int))))) (List.drop (Int.toNat (IntKind.wrap .i64 (n11 + (7 : Int)))) xs)))) else False) else False) else False) else False)))))) ((k3)))) (fun (n15 : Int) (n16 : Int) => (f46 off (fun (b17 : Bool) => (bif (!b17) then (k3) else (f47 off ((bif (t != (23 : Int)) then (bif ((n16 == n16) && true) then (bif ((decide ((0 : Int) ≤ n15)) && ((decide ((Int.toNat n15) ≤ ((List.length xs) - (0 : Nat)))) && ((decide ((0 : Int) ≤ n15)) && (decide (n15 ≤ n15))))) then (bif ((decide ((Int.toNat n15) < ((Int.toNat n15) + (12 : Nat)))) && ((decide ((((Int.toNat n15) + (12 : Nat)) * (1 : Nat)) ≤ (140737488355328 : Nat))) && (decide (((Int.toNat n15) + (12 : Nat)) ≤ (140737488355328 : Nat))))) then (bif ((decide ((0 : Int) ≤ (IntKind.wrap .i64 (n15 + (12 : Int))))) && (decide ((Int.toNat (IntKind.wrap .i64 (n15 + (12 : Int)))) ≤ n))) then (bif ((decide (((((List.length ((List.take (Int.toNat n15) xs) ++ ([(100 : Int), (72 : Int), (139 : Int), (4 : Int), (37 : Int), (0 : Int), (0 : Int), (0 : Int), (0 : Int), (144 : Int), (144 : Int), (144 : Int)] : List Int))) - (0 : Nat)) + (n - (Int.toNat (IntKind.wrap .i64 (n15 + (12 : Int)))))) * (1 : Nat)) ≤ (140737488355328 : Nat))) && (decide ((((List.length ((List.take (Int.toNat n15) xs) ++ ([(100 : Int), (72 : Int), (139 : Int), (4 : Int), (37 : Int), (0 : Int), (0 : Int), (0 : Int), (0 : Int), (144 : Int), (144 : Int), (144 : Int)] : List Int))) - (0 : Nat)) + (n - (Int.toNat (IntKind.wrap .i64 (n15 + (12 : Int)))))) ≤ (140737488355328 : Nat)))) then (k4 (((List.take (Int.toNat n15) xs) ++ ([(100 : Int), (72 : Int), (139 : Int), (4 : Int), (37 : Int), (0 : Int), (0 : Int), (0 : Int), (0 : Int), (144 : Int), (144 : Int), (144 : Int)] : List Int)) ++ (List.take (n - (Int.toNat (IntKind.wrap .i64 (n15 + (12 : Int))))) (List.drop (Int.toNat (IntKind.wrap .i64 (n15 + (12 : Int)))) xs)))) else False) else False) else False) else False) else False) else (bif ((decide ((0 : Int) ≤ n15)) && ((decide ((Int.toNat n15) ≤ ((List.length xs) - (0 : Nat)))) && ((decide ((0 : Int) ≤ n15)) && (decide (n15 ≤ n15))))) then (bif ((decide ((0 : Int) ≤ (IntKind.wrap .i64 (n15 + (12 : Int))))) && (decide ((Int.toNat (IntKind.wrap .i64 (n15 + (12 : Int)))) ≤ n))) then (bif ((decide ((Int.toNat n15) < ((Int.toNat n15) + (n - (Int.toNat (IntKind.wrap .i64 (n15 + (12 : Int)))))))) && ((decide ((((Int.toNat n15) + (n - (Int.toNat (IntKind.wrap .i64 (n15 + (12 : Int)))))) * (1 : Nat)) ≤ (140737488355328 : Nat))) && (decide (((Int.toNat n15) + (n - (Int.toNat (IntKind.wrap .i64 (n15 + (12 : Int)))))) ≤ (140737488355328 : Nat))))) then (k4 ((List.take (Int.toNat n15) xs) ++ (List.take (n - (Int.toNat (IntKind.wrap .i64 (n15 + (12 : Int))))) (List.drop (Int.toNat (IntKind.wrap .i64 (n15 + (12 : Int)))) xs)))) else False) else False) else False))) (fun (xs18 : List Int) => (bif (t != (23 : Int)) then (bif ((n16 == n16) && true) then (bif ((decide ((0 : Int) ≤ n15)) && ((decide ((Int.toNat n15) ≤ ((List.length xs) - (0 : Nat)))) && ((decide ((0 : Int) ≤ n15)) && (decide (n15 ≤ n15))))) then (bif ((decide ((Int.toNat n15) < ((Int.toNat n15) + (12 : Nat)))) && ((decide ((((Int.toNat n15) + (12 : Nat)) * (1 : Nat)) ≤ (140737488355328 : Nat))) && (decide (((Int.toNat n15) + (12 : Nat)) ≤ (140737488355328 : Nat))))) then (bif ((decide ((0 : Int) ≤ (IntKind.wrap .i64 (n15 + (12 : Int))))) && (decide ((Int.toNat (IntKind.wrap .i64 (n15 + (12 : Int)))) ≤ n))) then (bif ((decide (((((List.length ((List.take (Int.toNat n15) xs) ++ ([(100 : Int), (72 : Int), (139 : Int), (4 : Int), (37 : Int), (0 : Int), (0 : Int), (0 : Int), (0 : Int), (144 : Int), (144 : Int), (144 : Int)] : List Int))) - (0 : Nat)) + (n - (Int.toNat (IntKind.wrap .i64 (n15 + (12 : Int)))))) * (1 : Nat)) ≤ (140737488355328 : Nat))) && (decide ((((List.length ((List.take (Int.toNat n15) xs) ++ ([(100 : Int), (72 : Int), (139 : Int), (4 : Int), (37 : Int), (0 : Int), (0 : Int), (0 : Int), (0 : Int), (144 : Int), (144 : Int), (144 : Int)] : List Int))) - (0 : Nat)) + (n - (Int.toNat (IntKind.wrap .i64 (n15 + (12 : Int)))))) ≤ (140737488355328 : Nat)))) then (k4 (((List.take (Int.toNat n15) xs) ++ ([(100 : Int), (72 : Int), (139 : Int), (4 : Int), (37 : Int), (0 : Int), (0 : Int), (0 : Int), (0 : Int), (144 : Int), (144 : Int), (144 : Int)] : List Int)) ++ (List.take (n - (Int.toNat (IntKind.wrap .i64 (n15 + (12 : Int))))) (List.drop (Int.toNat (IntKind.wrap .i64 (n15 + (12 : Int)))) xs)))) else False) else False) else False) else False) else False) else (bif ((decide ((0 : Int) ≤ n15)) && ((decide ((Int.toNat n15) ≤ ((List.length xs) - (0 : Nat)))) && ((decide ((0 : Int) ≤ n15)) && (decide (n15 ≤ n15))))) then (bif ((decide ((Int.toNat n15) < ((Int.toNat n15) + ((List.length xs18) - (0 : Nat))))) && ((decide ((((Int.toNat n15) + ((List.length xs18) - (0 : Nat))) * (1 : Nat)) ≤ (140737488355328 : Nat))) && (decide (((Int.toNat n15) + ((List.length xs18) - (0 : Nat))) ≤ (140737488355328 : Nat))))) then (bif ((decide ((0 : Int) ≤ (IntKind.wrap .i64 (n15 + (12 : Int))))) && (decide ((Int.toNat (IntKind.wrap .i64 (n15 + (12 : Int)))) ≤ n))) then (bif ((decide (((((List.length ((List.take (Int.toNat n15) xs) ++ xs18)) - (0 : Nat)) + (n - (Int.toNat (IntKind.wrap .i64 (n15 + (12 : Int)))))) * (1 : Nat)) ≤ (140737488355328 : Nat))) && (decide ((((List.length ((List.take (Int.toNat n15) xs) ++ xs18)) - (0 : Nat)) + (n - (Int.toNat (IntKind.wrap .i64 (n15 + (12 : Int)))))) ≤ (140737488355328 : Nat)))) then (k4 (((List.take (Int.toNat n15) xs) ++ xs18) ++ (List.take (n - (Int.toNat (IntKind.wrap .i64 (n15 + (12 : Int))))) (List.drop (Int.toNat (IntKind.wrap .i64 (n15 + (12 : Int)))) xs)))) else False) else False) else False) else False)))))) ((k3)))) (fun (n19 : Int) (n20 : Int) => (f46 off (fun (b21 : Bool) => (bif (!b21) then (k3) else (f47 off ((bif (t != (23 : Int)) then (bif ((n20 == n20) && true) then (bif ((decide ((0 : Int) ≤ n19)) && ((decide ((Int.toNat n19) ≤ ((List.length xs) - (0 : Nat)))) && ((decide ((0 : Int) ≤ n19)) && (decide (n19 ≤ n19))))) then (bif ((decide ((Int.toNat n19) < ((Int.toNat n19) + (12 : Nat)))) && ((decide ((((Int.toNat n19) + (12 : Nat)) * (1 : Nat)) ≤ (140737488355328 : Nat))) && (decide (((Int.toNat n19) + (12 : Nat)) ≤ (140737488355328 : Nat))))) then (bif ((decide ((0 : Int) ≤ (IntKind.wrap .i64 (n19 + (16 : Int))))) && (decide ((Int.toNat (IntKind.wrap .i64 (n19 + (16 : Int)))) ≤ n))) then (bif ((decide (((((List.length ((List.take (Int.toNat n19) xs) ++ ([(100 : Int), (72 : Int), (139 : Int), (4 : Int), (37 : Int), (0 : Int), (0 : Int), (0 : Int), (0 : Int), (72 : Int), (141 : Int), (128 : Int)] : List Int))) - (0 : Nat)) + (n - (Int.toNat (IntKind.wrap .i64 (n19 + (16 : Int)))))) * (1 : Nat)) ≤ (140737488355328 : Nat))) && (decide ((((List.length ((List.take (Int.toNat n19) xs) ++ ([(100 : Int), (72 : Int), (139 : Int), (4 : Int), (37 : Int), (0 : Int), (0 : Int), (0 : Int), (0 : Int), (72 : Int), (141 : Int), (128 : Int)] : List Int))) - (0 : Nat)) + (n - (Int.toNat (IntKind.wrap .i64 (n19 + (16 : Int)))))) ≤ (140737488355328 : Nat)))) then (k4 (((List.take (Int.toNat n19) xs) ++ ([(100 : Int), (72 : Int), (139 : Int), (4 : Int), (37 : Int), (0 : Int), (0 : Int), (0 : Int), (0 : Int), (72 : Int), (141 : Int), (128 : Int)] : List Int)) ++ (List.take (n - (Int.toNat (IntKind.wrap .i64 (n19 + (16 : Int))))) (List.drop (Int.toNat (IntKind.wrap .i64 (n19 + (16 : Int)))) xs)))) else False) else False) else False) else False) else False) else (bif ((decide ((0 : Int) ≤ n19)) && ((decide ((Int.toNat n19) ≤ ((List.length xs) - (0 : Nat)))) && ((decide ((0 : Int) ≤ n19)) && (decide (n19 ≤ n19))))) then (bif ((decide ((0 : Int) ≤ (IntKind.wrap .i64 (n19 + (16 : Int))))) && (decide ((Int.toNat (IntKind.wrap .i64 (n19 + (16 : Int)))) ≤ n))) then (bif ((decide ((Int.toNat n19) < ((Int.toNat n19) + (n - (Int.toNat (IntKind.wrap .i64 (n19 + (16 : Int)))))))) && ((decide ((((Int.toNat n19) + (n - (Int.toNat (IntKind.wrap .i64 (n19 + (16 : Int)))))) * (1 : Nat)) ≤ (140737488355328 : Nat))) && (decide (((Int.toNat n19) + (n - (Int.toNat (IntKind.wrap .i64 (n19 + (16 : Int)))))) ≤ (140737488355328 : Nat))))) then (k4 ((List.take (Int.toNat n19) xs) ++ (List.take (n - (Int.toNat (IntKind.wrap .i64 (n19 + (16 : Int))))) (List.drop (Int.toNat (IntKind.wrap .i64 (n19 + (16 : Int)))) xs)))) else False) else False) else False))) (fun (xs22 : List Int) => (bif (t != (23 : Int)) then (bif ((n20 == n20) && true) then (bif ((decide ((((12 : Nat) + ((List.length xs22) - (0 : Nat))) * (1 : Nat)) ≤ (140737488355328 : Nat))) && (decide (((12 : Nat) + ((List.length xs22) - (0 : Nat))) ≤ (140737488355328 : Nat)))) then (bif ((decide ((0 : Int) ≤ n19)) && ((decide ((Int.toNat n19) ≤ ((List.length xs) - (0 : Nat)))) && ((decide ((0 : Int) ≤ n19)) && (decide (n19 ≤ n19))))) then (bif ((decide ((Int.toNat n19) < ((Int.toNat n19) + ((List.length (([(100 : Int), (72 : Int), (139 : Int), (4 : Int), (37 : Int), (0 : Int), (0 : Int), (0 : Int), (0 : Int), (72 : Int), (141 : Int), (128 : Int)] : List Int) ++ xs22)) - (0 : Nat))))) && ((decide ((((Int.toNat n19) + ((List.length (([(100 : Int), (72 : Int), (139 : Int), (4 : Int), (37 : Int), (0 : Int), (0 : Int), (0 : Int), (0 : Int), (72 : Int), (141 : Int), (128 : Int)] : List Int) ++ xs22)) - (0 : Nat))) * (1 : Nat)) ≤ (140737488355328 : Nat))) && (decide (((Int.toNat n19) + ((List.length (([(100 : Int), (72 : Int), (139 : Int), (4 : Int), (37 : Int), (0 : Int), (0 : Int), (0 : Int), (0 : Int), (72 : Int), (141 : Int), (128 : Int)] : List Int) ++ xs22)) - (0 : Nat))) ≤ (140737488355328 : Nat))))) then (bif ((decide ((0 : Int) ≤ (IntKind.wrap .i64 (n19 + (16 : Int))))) && (decide ((Int.toNat (IntKind.wrap .i64 (n19 + (16 : Int)))) ≤ n))) then (bif ((decide (((((List.length ((List.take (Int.toNat n19) xs) ++ (([(100 : Int), (72 : Int), (139 : Int), (4 : Int), (37 : Int), (0 : Int), (0 : Int), (0 : Int), (0 : Int), (72 : Int), (141 : Int), (128 : Int)] : List Int) ++ xs22))) - (0 : Nat)) + (n - (Int.toNat (IntKind.wrap .i64 (n19 + (16 : Int)))))) * (1 : Nat)) ≤ (140737488355328 : Nat))) && (decide ((((List.length ((List.take (Int.toNat n19) xs) ++ (([(100 : Int), (72 : Int), (139 : Int), (4 : Int), (37 : Int), (0 : Int), (0 : Int), (0 : Int), (0 : Int), (72 : Int), (141 : Int), (128 : Int)] : List Int) ++ xs22))) - (0 : Nat)) + (n - (Int.toNat (IntKind.wrap .i64 (n19 + (16 : Int)))))) ≤ (140737488355328 : Nat)))) then (k4 (((List.take (Int.toNat n19) xs) ++ (([(100 : Int), (72 : Int), (139 : Int), (4 : Int), (37 : Int), (0 : Int), (0 : Int), (0 : Int), (0 : Int), (72 : Int), (141 : Int), (128 : Int)] : List Int) ++ xs22)) ++ (List.take (n - (Int.toNat (IntKind.wrap .i64 (n19 + (16 : Int))))) (List.drop (Int.toNat (IntKind.wrap .i64 (n19 + (16 : Int)))) xs)))) else False) else False) else False) else False) else False) else False) else (bif ((decide ((0 : Int) ≤ n19)) && ((decide ((Int.toNat n19) ≤ ((List.length xs) - (0 : Nat)))) && ((decide ((0 : Int) ≤ n19)) && (decide (n19 ≤ n19))))) then (bif ((decide ((Int.toNat n19) < ((Int.toNat n19) + ((List.length xs22) - (0 : Nat))))) && ((decide ((((Int.toNat n19) + ((List.length xs22) - (0 : Nat))) * (1 : Nat)) ≤ (140737488355328 : Nat))) && (decide (((Int.toNat n19) + ((List.length xs22) - (0 : Nat))) ≤ (140737488355328 : Nat))))) then (bif ((decide ((0 : Int) ≤ (IntKind.wrap .i64 (n19 + (16 : Int))))) && (decide ((Int.toNat (IntKind.wrap .i64 (n19 + (16 : Int)))) ≤ n))) then (bif ((decide (((((List.length ((List.take (Int.toNat n19) xs) ++ xs22)) - (0 : Nat)) + (n - (Int.toNat (IntKind.wrap .i64 (n19 + (16 : Int)))))) * (1 : Nat)) ≤ (140737488355328 : Nat))) && (decide ((((List.length ((List.take (Int.toNat n19) xs) ++ xs22)) - (0 : Nat)) + (n - (Int.toNat (IntKind.wrap .i64 (n19 + (16 : Int)))))) ≤ (140737488355328 : Nat)))) then (k4 (((List.take (Int.toNat n19) xs) ++ xs22) ++ (List.take (n - (Int.toNat (IntKind.wrap .i64 (n19 + (16 : Int))))) (List.drop (Int.toNat (IntKind.wrap .i64 (n19 + (16 : Int)))) xs)))) else False) else False) else False) else False)))))) ((k3))))))
theorem F15_ok (f46 : Y46) (f47 : Y47) (f45 : Y45) (n : Nat) (pa : Int) (t : Int) (off : Int) (xs : List Int) (K : V → Mem → Prop) : cbody Try.prog (T46 f46 (T47 f47 (T45 f45 C0))) (fun _ => none) 1000 (fnOf Try.prog 15) [(.sl 0 (0 : Nat) (some n) (none : Option Nat)), (.I .i64 pa), (.I .i64 t), (.I .i64 off)] [⟨[.ints .u8 xs], 5, false, false⟩] K =
    F15 f46 f47 f45 n pa t off xs (K (.tup [.nils, (.I .i64 (6 : Int))]) [⟨[.ints .u8 xs], 5, false, false⟩]) (K (.tup [.nils, (.I .i64 (210 : Int))]) [⟨[.ints .u8 xs], 5, false, false⟩]) (K (.tup [.nils, (.I .i64 (201 : Int))]) [⟨[.ints .u8 xs], 5, false, false⟩]) (fun (u0 : List Int) => K (.tup [(.sl 1 (0 : Nat) (none : Option Nat) (none : Option Nat)), (.I .i64 (0 : Int))]) [⟨[.ints .u8 xs], 5, false, false⟩, ⟨[.ints .u8 u0], 5, false, true⟩]) := by kernel_rfl
def G15 : Y15 := F15 G46 G47 G45
def VT15 (f : Y15) (F : Prop) (args : List V) (m : Mem) (K : V → Mem → Prop) : Prop :=
  (seeCons args F fun a1 q2 => (seeSl 0 a1 F fun r3 l4 c5 => (seeN 0 r3 F (seeO l4 F fun n => (seeNo c5 F (seeCons q2 F fun a6 q7 => (seeI .i64 a6 F fun pa => (seeCons q7 F fun a8 q9 => (seeI .i64 a8 F fun t => (seeCons q9 F fun a10 q11 => (seeI .i64 a10 F fun off => (seeNil q11 F (seeCons m F fun a12 q13 => (seeBlk 5 false false a12 F fun cs14 => (seeCons cs14 F fun a15 q16 => (seeInts .u8 a15 F fun xs => (seeNil q16 F (seeNil q13 F (f n pa t off xs (K (.tup [.nils, (.I .i64 (6 : Int))]) [⟨[.ints .u8 xs], 5, false, false⟩]) (K (.tup [.nils, (.I .i64 (210 : Int))]) [⟨[.ints .u8 xs], 5, false, false⟩]) (K (.tup [.nils, (.I .i64 (201 : Int))]) [⟨[.ints .u8 xs], 5, false, false⟩]) (fun (u0 : List Int) => K (.tup [(.sl 1 (0 : Nat) (none : Option Nat) (none : Option Nat)), (.I .i64 (0 : Int))]) [⟨[.ints .u8 xs], 5, false, false⟩, ⟨[.ints .u8 u0], 5, false, true⟩]))))))))))))))))))))
def T15 (f : Y15) (C : CC) : CC := fun g args m K =>
  match Nat.beq g 15 with
  | true => VT15 f (C g args m K) args m K
  | false => C g args m K
set_option maxRecDepth 100000 in
theorem T15_ok {C : CC} (hC : CallsOk Try.prog C) : CallsOk Try.prog (T15 G15 C) := by
  intro g args m K E w cargs hS ha h
  unfold T15 at h
  split at h
  · rename_i hg
    obtain rfl := Nat.eq_of_beq_eq_true hg
    unfold VT15 at h
    replace h := seeCons_use h
    rcases h with h | ⟨a1, q2, rfl, h⟩
    · exact hC _ _ _ _ _ _ _ hS ha h
    replace h := seeSl_use h
    rcases h with h | ⟨r3, l4, c5, rfl, h⟩
    · exact hC _ _ _ _ _ _ _ hS ha h
    replace h := seeN_use h
    rcases h with h | ⟨rfl, h⟩
    · exact hC _ _ _ _ _ _ _ hS ha h
    replace h := seeO_use h
    rcases h with h | ⟨n, rfl, h⟩
    · exact hC _ _ _ _ _ _ _ hS ha h
    replace h := seeNo_use h
    rcases h with h | ⟨rfl, h⟩
    · exact hC _ _ _ _ _ _ _ hS ha h
    replace h := seeCons_use h
    rcases h with h | ⟨a6, q7, rfl, h⟩
    · exact hC _ _ _ _ _ _ _ hS ha h
    replace h := seeI_use h
    rcases h with h | ⟨pa, rfl, h⟩
    · exact hC _ _ _ _ _ _ _ hS ha h
    replace h := seeCons_use h
    rcases h with h | ⟨a8, q9, rfl, h⟩
    · exact hC _ _ _ _ _ _ _ hS ha h
    replace h := seeI_use h
    rcases h with h | ⟨t, rfl, h⟩
    · exact hC _ _ _ _ _ _ _ hS ha h
    replace h := seeCons_use h
    rcases h with h | ⟨a10, q11, rfl, h⟩
    · exact hC _ _ _ _ _ _ _ hS ha h
    replace h := seeI_use h
    rcases h with h | ⟨off, rfl, h⟩
    · exact hC _ _ _ _ _ _ _ hS ha h
    replace h := seeNil_use h
    rcases h with h | ⟨rfl, h⟩
    · exact hC _ _ _ _ _ _ _ hS ha h
    replace h := seeCons_use h
    rcases h with h | ⟨a12, q13, rfl, h⟩
    · exact hC _ _ _ _ _ _ _ hS ha h
    replace h := seeBlk_use h
    rcases h with h | ⟨cs14, rfl, h⟩
    · exact hC _ _ _ _ _ _ _ hS ha h
    replace h := seeCons_use h
    rcases h with h | ⟨a15, q16, rfl, h⟩
    · exact hC _ _ _ _ _ _ _ hS ha h
    replace h := seeInts_use h
    rcases h with h | ⟨xs, rfl, h⟩
    · exact hC _ _ _ _ _ _ _ hS ha h
    replace h := seeNil_use h
    rcases h with h | ⟨rfl, h⟩
    · exact hC _ _ _ _ _ _ _ hS ha h
    replace h := seeNil_use h
    rcases h with h | ⟨rfl, h⟩
    · exact hC _ _ _ _ _ _ _ hS ha h
    exact cbody_use named (T46_ok (T47_ok (T45_ok C0_ok))) at15 (l := 1) rfl (LoopsOk.none _ _) (F15_ok G46 G47 G45 n pa t off xs K) hS ha h
  · exact hC _ _ _ _ _ _ _ hS ha h
abbrev YL5_9 : Type := Code → Nat → List Int → List Int → (Prop) → Prop
def HL5_9  (rec : Prop) (n_9_l : Nat) (xs_m_0_0 : List Int) (xs_m_1_0 : List Int) (k1 : Prop) : Prop :=
  (k1)
def RL5_9  : Nat → Nat → List Int → List Int → (Prop) → Prop
  | 0, _, _, _, _ => False
  | n + 1, n_9_l, xs_m_0_0, xs_m_1_0, k1 => HL5_9  (RL5_9  n n_9_l xs_m_0_0 xs_m_1_0 k1) n_9_l xs_m_0_0 xs_m_1_0 k1
noncomputable def XL5_9 : Code := sub [true, true, true, true, true, true, true, false, true, false, false] (bodyOf Try.prog 5)
theorem HL5_9_ok  (n : Nat) (n_9_l : Nat) (xs_m_0_0 : List Int) (xs_m_1_0 : List Int) (K : Ex → Env → Mem → Prop) : cround 1 [0, 9, 19, 23] [0, 9] (fun ρ m K => cexec Try.prog C0 (fun _ => none) 1 1000 XL5_9 ρ m K) (n + 1) (selE 119 [(0, (.sl 0 (0 : Nat) (none : Option Nat) (none : Option Nat))), (9, (.sl 1 (0 : Nat) (some n_9_l) (none : Option Nat))), (19, .nils), (23, (.I .i64 (0 : Int)))]) [⟨[.ints .u8 xs_m_0_0], 5, true, false⟩, ⟨[.ints .u8 xs_m_1_0], 5, false, true⟩] K =
    HL5_9  (cround 1 [0, 9, 19, 23] [0, 9] (fun ρ m K => cexec Try.prog C0 (fun _ => none) 1 1000 XL5_9 ρ m K) n (selE 119 [(0, (.sl 0 (0 : Nat) (none : Option Nat) (none : Option Nat))), (9, (.sl 1 (0 : Nat) (some n_9_l) (none : Option Nat))), (19, .nils), (23, (.I .i64 (0 : Int)))]) [⟨[.ints .u8 xs_m_0_0], 5, true, false⟩, ⟨[.ints .u8 xs_m_1_0], 5, false, true⟩] K) n_9_l xs_m_0_0 xs_m_1_0 (K (.exit 0) (selE 119 [(0, (.sl 0 (0 : Nat) (none : Option Nat) (none : Option Nat))), (9, (.sl 1 (0 : Nat) (some n_9_l) (none : Option Nat)))]) [⟨[.ints .u8 xs_m_0_0], 5, true, false⟩, ⟨[.ints .u8 xs_m_1_0], 5, false, true⟩]) := by kernel_rfl
theorem RL5_9_ok  (K : Ex → Env → Mem → Prop) : ∀ (n : Nat) (n_9_l : Nat) (xs_m_0_0 : List Int) (xs_m_1_0 : List Int), cround 1 [0, 9, 19, 23] [0, 9] (fun ρ m K => cexec Try.prog C0 (fun _ => none) 1 1000 XL5_9 ρ m K) n (selE 119 [(0, (.sl 0 (0 : Nat) (none : Option Nat) (none : Option Nat))), (9, (.sl 1 (0 : Nat) (some n_9_l) (none : Option Nat))), (19, .nils), (23, (.I .i64 (0 : Int)))]) [⟨[.ints .u8 xs_m_0_0], 5, true, false⟩, ⟨[.ints .u8 xs_m_1_0], 5, false, true⟩] K = RL5_9  n n_9_l xs_m_0_0 xs_m_1_0 (K (.exit 0) (selE 119 [(0, (.sl 0 (0 : Nat) (none : Option Nat) (none : Option Nat))), (9, (.sl 1 (0 : Nat) (some n_9_l) (none : Option Nat)))]) [⟨[.ints .u8 xs_m_0_0], 5, true, false⟩, ⟨[.ints .u8 xs_m_1_0], 5, false, true⟩])
  | 0, n_9_l, xs_m_0_0, xs_m_1_0 => rfl
  | n + 1, n_9_l, xs_m_0_0, xs_m_1_0 => by
    have ih := RL5_9_ok  K n
    rw [HL5_9_ok  n n_9_l xs_m_0_0 xs_m_1_0 K]
    show HL5_9  _ n_9_l xs_m_0_0 xs_m_1_0 (K (.exit 0) (selE 119 [(0, (.sl 0 (0 : Nat) (none : Option Nat) (none : Option Nat))), (9, (.sl 1 (0 : Nat) (some n_9_l) (none : Option Nat)))]) [⟨[.ints .u8 xs_m_0_0], 5, true, false⟩, ⟨[.ints .u8 xs_m_1_0], 5, false, true⟩]) = HL5_9  _ n_9_l xs_m_0_0 xs_m_1_0 (K (.exit 0) (selE 119 [(0, (.sl 0 (0 : Nat) (none : Option Nat) (none : Option Nat))), (9, (.sl 1 (0 : Nat) (some n_9_l) (none : Option Nat)))]) [⟨[.ints .u8 xs_m_0_0], 5, true, false⟩, ⟨[.ints .u8 xs_m_1_0], 5, false, true⟩])
    refine congrArg (fun r => HL5_9  r n_9_l xs_m_0_0 xs_m_1_0 (K (.exit 0) (selE 119 [(0, (.sl 0 (0 : Nat) (none : Option Nat) (none : Option Nat))), (9, (.sl 1 (0 : Nat) (some n_9_l) (none : Option Nat)))]) [⟨[.ints .u8 xs_m_0_0], 5, true, false⟩, ⟨[.ints .u8 xs_m_1_0], 5, false, true⟩])) ?_
    exact ih n_9_l xs_m_0_0 xs_m_1_0
def GL5_9 : YL5_9 := fun x n_9_l xs_m_0_0 xs_m_1_0 k1 => x = XL5_9 ∧ ∃ n, RL5_9  n n_9_l xs_m_0_0 xs_m_1_0 k1
def VL5_9 (l : YL5_9) (F : Prop) (x : Code) (ρ : Env) (m : Mem) (K : Ex → Env → Mem → Prop) : Prop :=
  match ρ.has (119 - 1) with
  | true => (seeV (.sl 0 (0 : Nat) (none : Option Nat) (none : Option Nat)) (ρ.get 0) F (seeSl 1 (ρ.get 9) F fun r3 l4 c5 => (seeN 0 r3 F (seeO l4 F fun n_9_l => (seeNo c5 F (seeV .nils (ρ.get 19) F (seeV (.I .i64 (0 : Int)) (ρ.get 23) F (seeCons m F fun a8 q9 => (seeBlk 5 true false a8 F fun cs10 => (seeCons cs10 F fun a11 q12 => (seeInts .u8 a11 F fun xs_m_0_0 => (seeNil q12 F (seeCons q9 F fun a13 q14 => (seeBlk 5 false true a13 F fun cs15 => (seeCons cs15 F fun a16 q17 => (seeInts .u8 a16 F fun xs_m_1_0 => (seeNil q17 F (seeNil q14 F (l x n_9_l xs_m_0_0 xs_m_1_0 (K (.exit 0) (selE 119 [(0, (.sl 0 (0 : Nat) (none : Option Nat) (none : Option Nat))), (9, (.sl 1 (0 : Nat) (some n_9_l) (none : Option Nat)))]) [⟨[.ints .u8 xs_m_0_0], 5, true, false⟩, ⟨[.ints .u8 xs_m_1_0], 5, false, true⟩]))))))))))))))))))))
  | false => False
def WL5_9 (l : YL5_9) (W : Masks) : Masks := fun r =>
  match Nat.beq r 9 with
  | true => some fun x ρ m K => VL5_9 l (match W r with | some lf => lf x ρ m K | none => False) x (tidyE 1 [0, 9, 19, 23] ρ m) (tidyM 1 [0, 9, 19, 23] ρ m) K
  | false => W r
set_option maxRecDepth 100000 in
theorem WL5_9_ok {W : Masks} (hW : LoopsOk Try.prog 1 W) : LoopsOk Try.prog 1 (WL5_9 GL5_9 W) := by
  intro r lf h
  unfold WL5_9 at h
  split at h
  · cases h
    intro x E0 m0 w0 ds hS0 ha ρ m K E a w Q hS hρ hd h hQ
    have fb : (match W r with | some lf => lf x ρ m K | none => False) → (Code.loop x).wp Try.prog Q a w := fun h => by
      split at h
      · rename_i lf hlf
        exact hW r lf hlf x hS0 ha ρ m K E a w Q hS hρ hd h hQ
      · cases h
    obtain ⟨E2, hS2, hρ2⟩ := tidy_rel hS0 hS hρ [0, 9, 19, 23]
    rw [ha] at hS2 hρ2
    unfold VL5_9 at h
    split at h
    · rename_i hlen
      replace h := seeV_use h
      rcases h with h | ⟨e1, h⟩
      · exact fb h
      replace h := seeSl_use h
      rcases h with h | ⟨r3, l4, c5, e2, h⟩
      · exact fb h
      replace h := seeN_use h
      rcases h with h | ⟨rfl, h⟩
      · exact fb h
      replace h := seeO_use h
      rcases h with h | ⟨n_9_l, rfl, h⟩
      · exact fb h
      replace h := seeNo_use h
      rcases h with h | ⟨rfl, h⟩
      · exact fb h
      replace h := seeV_use h
      rcases h with h | ⟨e6, h⟩
      · exact fb h
      replace h := seeV_use h
      rcases h with h | ⟨e7, h⟩
      · exact fb h
      replace h := seeCons_use h
      rcases h with h | ⟨a8, q9, eqm, h⟩
      · exact fb h
      replace h := seeBlk_use h
      rcases h with h | ⟨cs10, rfl, h⟩
      · exact fb h
      replace h := seeCons_use h
      rcases h with h | ⟨a11, q12, rfl, h⟩
      · exact fb h
      replace h := seeInts_use h
      rcases h with h | ⟨xs_m_0_0, rfl, h⟩
      · exact fb h
      replace h := seeNil_use h
      rcases h with h | ⟨rfl, h⟩
      · exact fb h
      replace h := seeCons_use h
      rcases h with h | ⟨a13, q14, rfl, h⟩
      · exact fb h
      replace h := seeBlk_use h
      rcases h with h | ⟨cs15, rfl, h⟩
      · exact fb h
      replace h := seeCons_use h
      rcases h with h | ⟨a16, q17, rfl, h⟩
      · exact fb h
      replace h := seeInts_use h
      rcases h with h | ⟨xs_m_1_0, rfl, h⟩
      · exact fb h
      replace h := seeNil_use h
      rcases h with h | ⟨rfl, h⟩
      · exact fb h
      replace h := seeNil_use h
      rcases h with h | ⟨rfl, h⟩
      · exact fb h
      obtain ⟨rfl, n, h⟩ := h
      exact loop_use named C0_ok (LoopsOk.none _ _) (RL5_9_ok  K n _ _ _) h hS0 ha hlen ⟨e1, e2, e6, e7, trivial⟩ (eqm ▸ hS2) hρ2 hd hQ
    · cases h
  · exact hW r lf h
abbrev YL5_9b : Type := Code → Nat → Int → List Int → List Int → List Int → (Prop) → Prop
def HL5_9b  (rec : Int → List Int → Prop) (n_9_l : Nat) (i_23 : Int) (xs_m_0_0 : List Int) (xs_m_1_0 : List Int) (xs_m_2_0 : List Int) (k1 : Prop) : Prop :=
  (bif (decide (i_23 < ((((List.length xs_m_2_0) - (0 : Nat)) : Nat) : Int))) then (bif ((decide ((0 : Int) ≤ i_23)) && (decide (i_23 < ((((List.length xs_m_2_0) - (0 : Nat)) : Nat) : Int)))) then (bif ((decide ((0 : Int) ≤ i_23)) && (decide (i_23 < ((((List.length xs_m_2_0) - (0 : Nat)) : Nat) : Int)))) then (rec (IntKind.wrap .i64 (i_23 + (1 : Int))) (List.set xs_m_2_0 (Int.toNat i_23) (IntKind.wrap .u8 ((List.getD xs_m_2_0 (Int.toNat i_23) (0 : Int)) + (1 : Int))))) else False) else False) else (k1))
def RL5_9b  : Nat → Nat → Int → List Int → List Int → List Int → (Prop) → Prop
  | 0, _, _, _, _, _, _ => False
  | n + 1, n_9_l, i_23, xs_m_0_0, xs_m_1_0, xs_m_2_0, k1 => HL5_9b  (fun (i_23 : Int) (xs_m_2_0 : List Int) => RL5_9b  n n_9_l i_23 xs_m_0_0 xs_m_1_0 xs_m_2_0 k1) n_9_l i_23 xs_m_0_0 xs_m_1_0 xs_m_2_0 k1
noncomputable def XL5_9b : Code := sub [true, true, true, true, true, true, true, false, true, false, false] (bodyOf Try.prog 5)
theorem HL5_9b_ok  (n : Nat) (n_9_l : Nat) (i_23 : Int) (xs_m_0_0 : List Int) (xs_m_1_0 : List Int) (xs_m_2_0 : List Int) (K : Ex → Env → Mem → Prop) : cround 1 [0, 9, 19, 23] [0, 9] (fun ρ m K => cexec Try.prog C0 (fun _ => none) 1 1000 XL5_9b ρ m K) (n + 1) (selE 119 [(0, (.sl 0 (0 : Nat) (none : Option Nat) (none : Option Nat))), (9, (.sl 1 (0 : Nat) (some n_9_l) (none : Option Nat))), (19, (.sl 2 (0 : Nat) (none : Option Nat) (none : Option Nat))), (23, (.I .i64 i_23))]) [⟨[.ints .u8 xs_m_0_0], 5, true, false⟩, ⟨[.ints .u8 xs_m_1_0], 5, false, true⟩, ⟨[.ints .u8 xs_m_2_0], 5, false, true⟩] K =
    HL5_9b  (fun (i_23 : Int) (xs_m_2_0 : List Int) => cround 1 [0, 9, 19, 23] [0, 9] (fun ρ m K => cexec Try.prog C0 (fun _ => none) 1 1000 XL5_9b ρ m K) n (selE 119 [(0, (.sl 0 (0 : Nat) (none : Option Nat) (none : Option Nat))), (9, (.sl 1 (0 : Nat) (some n_9_l) (none : Option Nat))), (19, (.sl 2 (0 : Nat) (none : Option Nat) (none : Option Nat))), (23, (.I .i64 i_23))]) [⟨[.ints .u8 xs_m_0_0], 5, true, false⟩, ⟨[.ints .u8 xs_m_1_0], 5, false, true⟩, ⟨[.ints .u8 xs_m_2_0], 5, false, true⟩] K) n_9_l i_23 xs_m_0_0 xs_m_1_0 xs_m_2_0 (K (.exit 0) (selE 119 [(0, (.sl 0 (0 : Nat) (none : Option Nat) (none : Option Nat))), (9, (.sl 1 (0 : Nat) (some n_9_l) (none : Option Nat)))]) [⟨[.ints .u8 xs_m_0_0], 5, true, false⟩, ⟨[.ints .u8 xs_m_1_0], 5, false, true⟩]) := by kernel_rfl
theorem RL5_9b_ok  (K : Ex → Env → Mem → Prop) : ∀ (n : Nat) (n_9_l : Nat) (i_23 : Int) (xs_m_0_0 : List Int) (xs_m_1_0 : List Int) (xs_m_2_0 : List Int), cround 1 [0, 9, 19, 23] [0, 9] (fun ρ m K => cexec Try.prog C0 (fun _ => none) 1 1000 XL5_9b ρ m K) n (selE 119 [(0, (.sl 0 (0 : Nat) (none : Option Nat) (none : Option Nat))), (9, (.sl 1 (0 : Nat) (some n_9_l) (none : Option Nat))), (19, (.sl 2 (0 : Nat) (none : Option Nat) (none : Option Nat))), (23, (.I .i64 i_23))]) [⟨[.ints .u8 xs_m_0_0], 5, true, false⟩, ⟨[.ints .u8 xs_m_1_0], 5, false, true⟩, ⟨[.ints .u8 xs_m_2_0], 5, false, true⟩] K = RL5_9b  n n_9_l i_23 xs_m_0_0 xs_m_1_0 xs_m_2_0 (K (.exit 0) (selE 119 [(0, (.sl 0 (0 : Nat) (none : Option Nat) (none : Option Nat))), (9, (.sl 1 (0 : Nat) (some n_9_l) (none : Option Nat)))]) [⟨[.ints .u8 xs_m_0_0], 5, true, false⟩, ⟨[.ints .u8 xs_m_1_0], 5, false, true⟩])
  | 0, n_9_l, i_23, xs_m_0_0, xs_m_1_0, xs_m_2_0 => rfl
  | n + 1, n_9_l, i_23, xs_m_0_0, xs_m_1_0, xs_m_2_0 => by
    have ih := RL5_9b_ok  K n
    rw [HL5_9b_ok  n n_9_l i_23 xs_m_0_0 xs_m_1_0 xs_m_2_0 K]
    show HL5_9b  _ n_9_l i_23 xs_m_0_0 xs_m_1_0 xs_m_2_0 (K (.exit 0) (selE 119 [(0, (.sl 0 (0 : Nat) (none : Option Nat) (none : Option Nat))), (9, (.sl 1 (0 : Nat) (some n_9_l) (none : Option Nat)))]) [⟨[.ints .u8 xs_m_0_0], 5, true, false⟩, ⟨[.ints .u8 xs_m_1_0], 5, false, true⟩]) = HL5_9b  _ n_9_l i_23 xs_m_0_0 xs_m_1_0 xs_m_2_0 (K (.exit 0) (selE 119 [(0, (.sl 0 (0 : Nat) (none : Option Nat) (none : Option Nat))), (9, (.sl 1 (0 : Nat) (some n_9_l) (none : Option Nat)))]) [⟨[.ints .u8 xs_m_0_0], 5, true, false⟩, ⟨[.ints .u8 xs_m_1_0], 5, false, true⟩])
    refine congrArg (fun r => HL5_9b  r n_9_l i_23 xs_m_0_0 xs_m_1_0 xs_m_2_0 (K (.exit 0) (selE 119 [(0, (.sl 0 (0 : Nat) (none : Option Nat) (none : Option Nat))), (9, (.sl 1 (0 : Nat) (some n_9_l) (none : Option Nat)))]) [⟨[.ints .u8 xs_m_0_0], 5, true, false⟩, ⟨[.ints .u8 xs_m_1_0], 5, false, true⟩])) ?_
    funext i_23 xs_m_2_0
    exact ih n_9_l i_23 xs_m_0_0 xs_m_1_0 xs_m_2_0
def GL5_9b : YL5_9b := fun x n_9_l i_23 xs_m_0_0 xs_m_1_0 xs_m_2_0 k1 => x = XL5_9b ∧ ∃ n, RL5_9b  n n_9_l i_23 xs_m_0_0 xs_m_1_0 xs_m_2_0 k1
def VL5_9b (l : YL5_9b) (F : Prop) (x : Code) (ρ : Env) (m : Mem) (K : Ex → Env → Mem → Prop) : Prop :=
  match ρ.has (119 - 1) with
  | true => (seeV (.sl 0 (0 : Nat) (none : Option Nat) (none : Option Nat)) (ρ.get 0) F (seeSl 1 (ρ.get 9) F fun r3 l4 c5 => (seeN 0 r3 F (seeO l4 F fun n_9_l => (seeNo c5 F (seeV (.sl 2 (0 : Nat) (none : Option Nat) (none : Option Nat)) (ρ.get 19) F (seeI .i64 (ρ.get 23) F fun i_23 => (seeCons m F fun a8 q9 => (seeBlk 5 true false a8 F fun cs10 => (seeCons cs10 F fun a11 q12 => (seeInts .u8 a11 F fun xs_m_0_0 => (seeNil q12 F (seeCons q9 F fun a13 q14 => (seeBlk 5 false true a13 F fun cs15 => (seeCons cs15 F fun a16 q17 => (seeInts .u8 a16 F fun xs_m_1_0 => (seeNil q17 F (seeCons q14 F fun a18 q19 => (seeBlk 5 false true a18 F fun cs20 => (seeCons cs20 F fun a21 q22 => (seeInts .u8 a21 F fun xs_m_2_0 => (seeNil q22 F (seeNil q19 F (l x n_9_l i_23 xs_m_0_0 xs_m_1_0 xs_m_2_0 (K (.exit 0) (selE 119 [(0, (.sl 0 (0 : Nat) (none : Option Nat) (none : Option Nat))), (9, (.sl 1 (0 : Nat) (some n_9_l) (none : Option Nat)))]) [⟨[.ints .u8 xs_m_0_0], 5, true, false⟩, ⟨[.ints .u8 xs_m_1_0], 5, false, true⟩])))))))))))))))))))))))))
  | false => False
def WL5_9b (l : YL5_9b) (W : Masks) : Masks := fun r =>
  match Nat.beq r 9 with
  | true => some fun x ρ m K => VL5_9b l (match W r with | some lf => lf x ρ m K | none => False) x (tidyE 1 [0, 9, 19, 23] ρ m) (tidyM 1 [0, 9, 19, 23] ρ m) K
  | false => W r
set_option maxRecDepth 100000 in
theorem WL5_9b_ok {W : Masks} (hW : LoopsOk Try.prog 1 W) : LoopsOk Try.prog 1 (WL5_9b GL5_9b W) := by
  intro r lf h
  unfold WL5_9b at h
  split at h
  · cases h
    intro x E0 m0 w0 ds hS0 ha ρ m K E a w Q hS hρ hd h hQ
    have fb : (match W r with | some lf => lf x ρ m K | none => False) → (Code.loop x).wp Try.prog Q a w := fun h => by
      split at h
      · rename_i lf hlf
        exact hW r lf hlf x hS0 ha ρ m K E a w Q hS hρ hd h hQ
      · cases h
    obtain ⟨E2, hS2, hρ2⟩ := tidy_rel hS0 hS hρ [0, 9, 19, 23]
    rw [ha] at hS2 hρ2
    unfold VL5_9b at h
    split at h
    · rename_i hlen
      replace h := seeV_use h
      rcases h with h | ⟨e1, h⟩
      · exact fb h
      replace h := seeSl_use h
      rcases h with h | ⟨r3, l4, c5, e2, h⟩
      · exact fb h
      replace h := seeN_use h
      rcases h with h | ⟨rfl, h⟩
      · exact fb h
      replace h := seeO_use h
      rcases h with h | ⟨n_9_l, rfl, h⟩
      · exact fb h
      replace h := seeNo_use h
      rcases h with h | ⟨rfl, h⟩
      · exact fb h
      replace h := seeV_use h
      rcases h with h | ⟨e6, h⟩
      · exact fb h
      replace h := seeI_use h
      rcases h with h | ⟨i_23, e7, h⟩
      · exact fb h
      replace h := seeCons_use h
      rcases h with h | ⟨a8, q9, eqm, h⟩
      · exact fb h
      replace h := seeBlk_use h
      rcases h with h | ⟨cs10, rfl, h⟩
      · exact fb h
      replace h := seeCons_use h
      rcases h with h | ⟨a11, q12, rfl, h⟩
      · exact fb h
      replace h := seeInts_use h
      rcases h with h | ⟨xs_m_0_0, rfl, h⟩
      · exact fb h
      replace h := seeNil_use h
      rcases h with h | ⟨rfl, h⟩
      · exact fb h
      replace h := seeCons_use h
      rcases h with h | ⟨a13, q14, rfl, h⟩
      · exact fb h
      replace h := seeBlk_use h
      rcases h with h | ⟨cs15, rfl, h⟩
      · exact fb h
      replace h := seeCons_use h
      rcases h with h | ⟨a16, q17, rfl, h⟩
      · exact fb h
      replace h := seeInts_use h
      rcases h with h | ⟨xs_m_1_0, rfl, h⟩
      · exact fb h
      replace h := seeNil_use h
      rcases h with h | ⟨rfl, h⟩
      · exact fb h
      replace h := seeCons_use h
      rcases h with h | ⟨a18, q19, rfl, h⟩
      · exact fb h
      replace h := seeBlk_use h
      rcases h with h | ⟨cs20, rfl, h⟩
      · exact fb h
      replace h := seeCons_use h
      rcases h with h | ⟨a21, q22, rfl, h⟩
      · exact fb h
      replace h := seeInts_use h
      rcases h with h | ⟨xs_m_2_0, rfl, h⟩
      · exact fb h
      replace h := seeNil_use h
      rcases h with h | ⟨rfl, h⟩
      · exact fb h
      replace h := seeNil_use h
      rcases h with h | ⟨rfl, h⟩
      · exact fb h
      obtain ⟨rfl, n, h⟩ := h
      exact loop_use named C0_ok (LoopsOk.none _ _) (RL5_9b_ok  K n _ _ _ _ _) h hS0 ha hlen ⟨e1, e2, e6, e7, trivial⟩ (eqm ▸ hS2) hρ2 hd hQ
    · cases h
  · exact hW r lf h
theorem at5 : Try.prog.funcs[5]? = some (fnOf Try.prog 5) := by kernel_rfl
abbrev Y5 : Type := Int → Int → Int → List Int → (Prop) → (Prop) → Prop
def F5 (f14 : Y14) (f13 : Y13) (f16 : Y16) (f20 : Y20) (f17 : Y17) (f15 : Y15) (f18 : Y18) (f19 : Y19) (l5_9 : YL5_9) (l5_9b : YL5_9b) (pa : Int) (t : Int) (off : Int) (xs : List Int) (k1 : Prop) (k2 : Prop) : Prop :=
  (f16 xs (fun (y1 : Nat) (xs2 : List Int) => (f17 y1 pa t xs2 ((f18 pa t xs (fun (n3 : Int) => (f15 y1 pa t off xs2 ((f19 pa t off xs ((f13 (210 : Int) ((f13 (6 : Int) ((f20 y1 xs2 xs (fun (b4 : Bool) => (bif (!b4) then (k1) else (l5_9 XL5_9 y1 xs xs2 ((f20 y1 xs2 xs (fun (b5 : Bool) => (bif b5 then (f14 ((k2))) else (k1))) ((k1))))))) ((k1)))))))) ((f13 (210 : Int) ((f13 (6 : Int) ((k1)))))) ((f13 (210 : Int) ((f13 (6 : Int) ((k1)))))) (fun (xs6 : List Int) => (f13 (210 : Int) ((bif (!(([] : List Int) == xs6)) then (k1) else (f13 (6 : Int) ((k1))))))))) ((f19 pa t off xs ((f13 (210 : Int) ((f13 (210 : Int) ((k1)))))) ((f13 (210 : Int) ((f13 (210 : Int) ((f20 y1 xs2 xs (fun (b7 : Bool) => (bif (!b7) then (k1) else (l5_9 XL5_9 y1 xs xs2 ((f20 y1 xs2 xs (fun (b8 : Bool) => (bif b8 then (f14 ((k2))) else (k1))) ((k1))))))) ((k1)))))))) ((f13 (210 : Int) ((f13 (210 : Int) ((k1)))))) (fun (xs9 : List Int) => (f13 (210 : Int) ((bif (!(([] : List Int) == xs9)) then (k1) else (f13 (210 : Int) ((k1))))))))) ((f19 pa t off xs ((f13 (210 : Int) ((f13 (201 : Int) ((k1)))))) ((f13 (210 : Int) ((f13 (201 : Int) ((k1)))))) ((f13 (210 : Int) ((f13 (201 : Int) ((f20 y1 xs2 xs (fun (b10 : Bool) => (bif (!b10) then (k1) else (l5_9 XL5_9 y1 xs xs2 ((f20 y1 xs2 xs (fun (b11 : Bool) => (bif b11 then (f14 ((k2))) else (k1))) ((k1))))))) ((k1)))))))) (fun (xs12 : List Int) => (f13 (210 : Int) ((bif (!(([] : List Int) == xs12)) then (k1) else (f13 (201 : Int) ((k1))))))))) (fun (xs13 : List Int) => (f19 pa t off xs ((f13 (210 : Int) ((bif (!(xs13 == ([] : List Int))) then (k1) else (f13 (0 : Int) ((k1))))))) ((f13 (210 : Int) ((bif (!(xs13 == ([] : List Int))) then (k1) else (f13 (0 : Int) ((k1))))))) ((f13 (210 : Int) ((bif (!(xs13 == ([] : List Int))) then (k1) else (f13 (0 : Int) ((k1))))))) (fun (xs14 : List Int) => (f13 (210 : Int) ((bif (!(xs13 == xs14)) then (k1) else (f13 (0 : Int) ((f20 y1 xs2 xs (fun (b15 : Bool) => (bif (!b15) then (k1) else (l5_9b XL5_9b y1 (0 : Int) xs xs2 xs13 ((f20 y1 xs2 xs (fun (b16 : Bool) => (bif b16 then (f14 ((k2))) else (k1))) ((k1))))))) ((k1))))))))))))) (fun (n17 : Int) (n18 : Int) => (f15 y1 pa t off xs2 ((f19 pa t off xs ((k1)) ((k1)) ((k1)) (fun (xs19 : List Int) => (k1)))) ((f19 pa t off xs ((k1)) ((k1)) ((k1)) (fun (xs20 : List Int) => (k1)))) ((f19 pa t off xs ((k1)) ((k1)) ((k1)) (fun (xs21 : List Int) => (k1)))) (fun (xs22 : List Int) => (f19 pa t off xs ((k1)) ((k1)) ((k1)) (fun (xs23 : List Int) => (k1)))))) (fun (n24 : Int) (n25 : Int) => (f15 y1 pa t off xs2 ((f19 pa t off xs ((k1)) ((k1)) ((k1)) (fun (xs26 : List Int) => (k1)))) ((f19 pa t off xs ((k1)) ((k1)) ((k1)) (fun (xs27 : List Int) => (k1)))) ((f19 pa t off xs ((k1)) ((k1)) ((k1)) (fun (xs28 : List Int) => (k1)))) (fun (xs29 : List Int) => (f19 pa t off xs ((k1)) ((k1)) ((k1)) (fun (xs30 : List Int) => (k1)))))) (fun (n31 : Int) (n32 : Int) => (f15 y1 pa t off xs2 ((f19 pa t off xs ((k1)) ((k1)) ((k1)) (fun (xs33 : List Int) => (k1)))) ((f19 pa t off xs ((k1)) ((k1)) ((k1)) (fun (xs34 : List Int) => (k1)))) ((f19 pa t off xs ((k1)) ((k1)) ((k1)) (fun (xs35 : List Int) => (k1)))) (fun (xs36 : List Int) => (f19 pa t off xs ((k1)) ((k1)) ((k1)) (fun (xs37 : List Int) => (k1)))))) (fun (n38 : Int) => (f15 y1 pa t off xs2 ((f19 pa t off xs ((k1)) ((k1)) ((k1)) (fun (xs39 : List Int) => (k1)))) ((f19 pa t off xs ((k1)) ((k1)) ((k1)) (fun (xs40 : List Int) => (k1)))) ((f19 pa t off xs ((k1)) ((k1)) ((k1)) (fun (xs41 : List Int) => (k1)))) (fun (xs42 : List Int) => (f19 pa t off xs ((k1)) ((k1)) ((k1)) (fun (xs43 : List Int) => (k1)))))))) ((f18 pa t xs (fun (n44 : Int) => (f15 y1 pa t off xs2 ((f19 pa t off xs ((k1)) ((k1)) ((k1)) (fun (xs45 : List Int) => (k1)))) ((f19 pa t off xs ((k1)) ((k1)) ((k1)) (fun (xs46 : List Int) => (k1)))) ((f19 pa t off xs ((k1)) ((k1)) ((k1)) (fun (xs47 : List Int) => (k1)))) (fun (xs48 : List Int) => (f19 pa t off xs ((k1)) ((k1)) ((k1)) (fun (xs49 : List Int) => (k1)))))) (fun (n50 : Int) (n51 : Int) => (f15 y1 pa t off xs2 ((f19 pa t off xs ((k1)) ((k1)) ((k1)) (fun (xs52 : List Int) => (k1)))) ((f19 pa t off xs ((k1)) ((k1)) ((k1)) (fun (xs53 : List Int) => (k1)))) ((f19 pa t off xs ((k1)) ((k1)) ((k1)) (fun (xs54 : List Int) => (k1)))) (fun (xs55 : List Int) => (f19 pa t off xs ((k1)) ((k1)) ((k1)) (fun (xs56 : List Int) => (k1)))))) (fun (n57 : Int) (n58 : Int) => (f15 y1 pa t off xs2 ((f19 pa t off xs ((k1)) ((k1)) ((k1)) (fun (xs59 : List Int) => (k1)))) ((f19 pa t off xs ((k1)) ((k1)) ((k1)) (fun (xs60 : List Int) => (k1)))) ((f19 pa t off xs ((k1)) ((k1)) ((k1)) (fun (xs61 : List Int) => (k1)))) (fun (xs62 : List Int) => (f19 pa t off xs ((k1)) ((k1)) ((k1)) (fun (xs63 : List Int) => (k1)))))) (fun (n64 : Int) (n65 : Int) => (f15 y1 pa t off xs2 ((f19 pa t off xs ((k1)) ((k1)) ((k1)) (fun (xs66 : List Int) => (k1)))) ((f19 pa t off xs ((k1)) ((k1)) ((k1)) (fun (xs67 : List Int) => (k1)))) ((f19 pa t off xs ((k1)) ((k1)) ((k1)) (fun (xs68 : List Int) => (k1)))) (fun (xs69 : List Int) => (f19 pa t off xs ((k1)) ((k1)) ((k1)) (fun (xs70 : List Int) => (k1)))))) (fun (n71 : Int) => (f15 y1 pa t off xs2 ((f19 pa t off xs ((bif (pa != pa) then (k1) else (f13 (0 : Int) ((f13 (6 : Int) ((f20 y1 xs2 xs (fun (b72 : Bool) => (bif (!b72) then (k1) else (l5_9 XL5_9 y1 xs xs2 ((f20 y1 xs2 xs (fun (b73 : Bool) => (bif b73 then (f14 ((k2))) else (k1))) ((k1))))))) ((k1))))))))) ((bif (pa != pa) then (k1) else (f13 (0 : Int) ((f13 (6 : Int) ((k1))))))) ((bif (pa != pa) then (k1) else (f13 (0 : Int) ((f13 (6 : Int) ((k1))))))) (fun (xs74 : List Int) => (bif (pa != pa) then (k1) else (f13 (0 : Int) ((bif (!(([] : List Int) == xs74)) then (k1) else (f13 (6 : Int) ((k1)))))))))) ((f19 pa t off xs ((bif (pa != pa) then (k1) else (f13 (0 : Int) ((f13 (210 : Int) ((k1))))))) ((bif (pa != pa) then (k1) else (f13 (0 : Int) ((f13 (210 : Int) ((f20 y1 xs2 xs (fun (b75 : Bool) => (bif (!b75) then (k1) else (l5_9 XL5_9 y1 xs xs2 ((f20 y1 xs2 xs (fun (b76 : Bool) => (bif b76 then (f14 ((k2))) else (k1))) ((k1))))))) ((k1))))))))) ((bif (pa != pa) then (k1) else (f13 (0 : Int) ((f13 (210 : Int) ((k1))))))) (fun (xs77 : List Int) => (bif (pa != pa) then (k1) else (f13 (0 : Int) ((bif (!(([] : List Int) == xs77)) then (k1) else (f13 (210 : Int) ((k1)))))))))) ((f19 pa t off xs ((bif (pa != pa) then (k1) else (f13 (0 : Int) ((f13 (201 : Int) ((k1))))))) ((bif (pa != pa) then (k1) else (f13 (0 : Int) ((f13 (201 : Int) ((k1))))))) ((bif (pa != pa) then (k1) else (f13 (0 : Int) ((f13 (201 : Int) ((f20 y1 xs2 xs (fun (b78 : Bool) => (bif (!b78) then (k1) else (l5_9 XL5_9 y1 xs xs2 ((f20 y1 xs2 xs (fun (b79 : Bool) => (bif b79 then (f14 ((k2))) else (k1))) ((k1))))))) ((k1))))))))) (fun (xs80 : List Int) => (bif (pa != pa) then (k1) else (f13 (0 : Int) ((bif (!(([] : List Int) == xs80)) then (k1) else (f13 (201 : Int) ((k1)))))))))) (fun (xs81 : List Int) => (f19 pa t off xs ((bif (pa != pa) then (k1) else (f13 (0 : Int) ((bif (!(xs81 == ([] : List Int))) then (k1) else (f13 (0 : Int) ((k1)))))))) ((bif (pa != pa) then (k1) else (f13 (0 : Int) ((bif (!(xs81 == ([] : List Int))) then (k1) else (f13 (0 : Int) ((k1)))))))) ((bif (pa != pa) then (k1) else (f13 (0 : Int) ((bif (!(xs81 == ([] : List Int))) then (k1) else (f13 (0 : Int) ((k1)))))))) (fun (xs82 : List Int) => (bif (pa != pa) then (k1) else (f13 (0 : Int) ((bif (!(xs81 == xs82)) then (k1) else (f13 (0 : Int) ((f20 y1 xs2 xs (fun (b83 : Bool) => (bif (!b83) then (k1) else (l5_9b XL5_9b y1 (0 : Int) xs xs2 xs81 ((f20 y1 xs2 xs (fun (b84 : Bool) => (bif b84 then (f14 ((k2))) else (k1))) ((k1))))))) ((k1)))))))))))))))) (fun (n85 : Int) => (f18 pa t xs (fun (n86 : Int) => (f15 y1 pa t off xs2 ((f19 pa t off xs ((k1)) ((k1)) ((k1)) (fun (xs87 : List Int) => (k1)))) ((f19 pa t off xs ((k1)) ((k1)) ((k1)) (fun (xs88 : List Int) => (k1)))) ((f19 pa t off xs ((k1)) ((k1)) ((k1)) (fun (xs89 : List Int) => (k1)))) (fun (xs90 : List Int) => (f19 pa t off xs ((k1)) ((k1)) ((k1)) (fun (xs91 : List Int) => (k1)))))) (fun (n92 : Int) (n93 : Int) => (f15 y1 pa t off xs2 ((f19 pa t off xs ((k1)) ((k1)) ((k1)) (fun (xs94 : List Int) => (k1)))) ((f19 pa t off xs ((k1)) ((k1)) ((k1)) (fun (xs95 : List Int) => (k1)))) ((f19 pa t off xs ((k1)) ((k1)) ((k1)) (fun (xs96 : List Int) => (k1)))) (fun (xs97 : List Int) => (f19 pa t off xs ((k1)) ((k1)) ((k1)) (fun (xs98 : List Int) => (k1)))))) (fun (n99 : Int) (n100 : Int) => (f15 y1 pa t off xs2 ((f19 pa t off xs ((k1)) ((k1)) ((k1)) (fun (xs101 : List Int) => (k1)))) ((f19 pa t off xs ((k1)) ((k1)) ((k1)) (fun (xs102 : List Int) => (k1)))) ((f19 pa t off xs ((k1)) ((k1)) ((k1)) (fun (xs103 : List Int) => (k1)))) (fun (xs104 : List Int) => (f19 pa t off xs ((k1)) ((k1)) ((k1)) (fun (xs105 : List Int) => (k1)))))) (fun (n106 : Int) (n107 : Int) => (f15 y1 pa t off xs2 ((f19 pa t off xs ((k1)) ((k1)) ((k1)) (fun (xs108 : List Int) => (k1)))) ((f19 pa t off xs ((k1)) ((k1)) ((k1)) (fun (xs109 : List Int) => (k1)))) ((f19 pa t off xs ((k1)) ((k1)) ((k1)) (fun (xs110 : List Int) => (k1)))) (fun (xs111 : List Int) => (f19 pa t off xs ((k1)) ((k1)) ((k1)) (fun (xs112 : List Int) => (k1)))))) (fun (n113 : Int) => (f15 y1 pa t off xs2 ((f19 pa t off xs ((bif (n85 != pa) then (k1) else (k1))) ((bif (n85 != pa) then (k1) else (k1))) ((bif (n85 != pa) then (k1) else (k1))) (fun (xs114 : List Int) => (bif (n85 != pa) then (k1) else (k1))))) ((f19 pa t off xs ((bif (n85 != pa) then (k1) else (k1))) ((bif (n85 != pa) then (k1) else (k1))) ((bif (n85 != pa) then (k1) else (k1))) (fun (xs115 : List Int) => (bif (n85 != pa) then (k1) else (k1))))) ((f19 pa t off xs ((bif (n85 != pa) then (k1) else (k1))) ((bif (n85 != pa) then (k1) else (k1))) ((bif (n85 != pa) then (k1) else (k1))) (fun (xs116 : List Int) => (bif (n85 != pa) then (k1) else (k1))))) (fun (xs117 : List Int) => (f19 pa t off xs ((bif (n85 != pa) then (k1) else (k1))) ((bif (n85 != pa) then (k1) else (k1))) ((bif (n85 != pa) then (k1) else (k1))) (fun (xs118 : List Int) => (bif (n85 != pa) then (k1) else (k1))))))))) (fun (n119 : Int) => (f18 pa t xs (fun (n120 : Int) => (f15 y1 pa t off xs2 ((f19 pa t off xs ((k1)) ((k1)) ((k1)) (fun (xs121 : List Int) => (k1)))) ((f19 pa t off xs ((k1)) ((k1)) ((k1)) (fun (xs122 : List Int) => (k1)))) ((f19 pa t off xs ((k1)) ((k1)) ((k1)) (fun (xs123 : List Int) => (k1)))) (fun (xs124 : List Int) => (f19 pa t off xs ((k1)) ((k1)) ((k1)) (fun (xs125 : List Int) => (k1)))))) (fun (n126 : Int) (n127 : Int) => (f15 y1 pa t off xs2 ((f19 pa t off xs ((k1)) ((k1)) ((k1)) (fun (xs128 : List Int) => (k1)))) ((f19 pa t off xs ((k1)) ((k1)) ((k1)) (fun (xs129 : List Int) => (k1)))) ((f19 pa t off xs ((k1)) ((k1)) ((k1)) (fun (xs130 : List Int) => (k1)))) (fun (xs131 : List Int) => (f19 pa t off xs ((k1)) ((k1)) ((k1)) (fun (xs132 : List Int) => (k1)))))) (fun (n133 : Int) (n134 : Int) => (f15 y1 pa t off xs2 ((f19 pa t off xs ((k1)) ((k1)) ((k1)) (fun (xs135 : List Int) => (k1)))) ((f19 pa t off xs ((k1)) ((k1)) ((k1)) (fun (xs136 : List Int) => (k1)))) ((f19 pa t off xs ((k1)) ((k1)) ((k1)) (fun (xs137 : List Int) => (k1)))) (fun (xs138 : List Int) => (f19 pa t off xs ((k1)) ((k1)) ((k1)) (fun (xs139 : List Int) => (k1)))))) (fun (n140 : Int) (n141 : Int) => (f15 y1 pa t off xs2 ((f19 pa t off xs ((bif (n119 != n140) then (k1) else (f13 (0 : Int) ((f13 (6 : Int) ((f20 y1 xs2 xs (fun (b142 : Bool) => (bif (!b142) then (k1) else (l5_9 XL5_9 y1 xs xs2 ((f20 y1 xs2 xs (fun (b143 : Bool) => (bif b143 then (f14 ((k2))) else (k1))) ((k1))))))) ((k1))))))))) ((bif (n119 != n140) then (k1) else (f13 (0 : Int) ((f13 (6 : Int) ((k1))))))) ((bif (n119 != n140) then (k1) else (f13 (0 : Int) ((f13 (6 : Int) ((k1))))))) (fun (xs144 : List Int) => (bif (n119 != n140) then (k1) else (f13 (0 : Int) ((bif (!(([] : List Int) == xs144)) then (k1) else (f13 (6 : Int) ((k1)))))))))) ((f19 pa t off xs ((bif (n119 != n140) then (k1) else (f13 (0 : Int) ((f13 (210 : Int) ((k1))))))) ((bif (n119 != n140) then (k1) else (f13 (0 : Int) ((f13 (210 : Int) ((f20 y1 xs2 xs (fun (b145 : Bool) => (bif (!b145) then (k1) else (l5_9 XL5_9 y1 xs xs2 ((f20 y1 xs2 xs (fun (b146 : Bool) => (bif b146 then (f14 ((k2))) else (k1))) ((k1))))))) ((k1))))))))) ((bif (n119 != n140) then (k1) else (f13 (0 : Int) ((f13 (210 : Int) ((k1))))))) (fun (xs147 : List Int) => (bif (n119 != n140) then (k1) else (f13 (0 : Int) ((bif (!(([] : List Int) == xs147)) then (k1) else (f13 (210 : Int) ((k1)))))))))) ((f19 pa t off xs ((bif (n119 != n140) then (k1) else (f13 (0 : Int) ((f13 (201 : Int) ((k1))))))) ((bif (n119 != n140) then (k1) else (f13 (0 : Int) ((f13 (201 : Int) ((k1))))))) ((bif (n119 != n140) then (k1) else (f13 (0 : Int) ((f13 (201 : Int) ((f20 y1 xs2 xs (fun (b148 : Bool) => (bif (!b148) then (k1) else (l5_9 XL5_9 y1 xs xs2 ((f20 y1 xs2 xs (fun (b149 : Bool) => (bif b149 then (f14 ((k2))) else (k1))) ((k1))))))) ((k1))))))))) (fun (xs150 : List Int) => (bif (n119 != n140) then (k1) else (f13 (0 : Int) ((bif (!(([] : List Int) == xs150)) then (k1) else (f13 (201 : Int) ((k1)))))))))) (fun (xs151 : List Int) => (f19 pa t off xs ((bif (n119 != n140) then (k1) else (f13 (0 : Int) ((bif (!(xs151 == ([] : List Int))) then (k1) else (f13 (0 : Int) ((k1)))))))) ((bif (n119 != n140) then (k1) else (f13 (0 : Int) ((bif (!(xs151 == ([] : List Int))) then (k1) else (f13 (0 : Int) ((k1)))))))) ((bif (n119 != n140) then (k1) else (f13 (0 : Int) ((bif (!(xs151 == ([] : List Int))) then (k1) else (f13 (0 : Int) ((k1)))))))) (fun (xs152 : List Int) => (bif (n119 != n140) then (k1) else (f13 (0 : Int) ((bif (!(xs151 == xs152)) then (k1) else (f13 (0 : Int) ((f20 y1 xs2 xs (fun (b153 : Bool) => (bif (!b153) then (k1) else (l5_9b XL5_9b y1 (0 : Int) xs xs2 xs151 ((f20 y1 xs2 xs (fun (b154 : Bool) => (bif b154 then (f14 ((k2))) else (k1))) ((k1))))))) ((k1)))))))))))))) (fun (n155 : Int) => (f15 y1 pa t off xs2 ((f19 pa t off xs ((k1)) ((k1)) ((k1)) (fun (xs156 : List Int) => (k1)))) ((f19 pa t off xs ((k1)) ((k1)) ((k1)) (fun (xs157 : List Int) => (k1)))) ((f19 pa t off xs ((k1)) ((k1)) ((k1)) (fun (xs158 : List Int) => (k1)))) (fun (xs159 : List Int) => (f19 pa t off xs ((k1)) ((k1)) ((k1)) (fun (xs160 : List Int) => (k1)))))))) (fun (n161 : Int) => (f18 pa t xs (fun (n162 : Int) => (f15 y1 pa t off xs2 ((f19 pa t off xs ((k1)) ((k1)) ((k1)) (fun (xs163 : List Int) => (k1)))) ((f19 pa t off xs ((k1)) ((k1)) ((k1)) (fun (xs164 : List Int) => (k1)))) ((f19 pa t off xs ((k1)) ((k1)) ((k1)) (fun (xs165 : List Int) => (k1)))) (fun (xs166 : List Int) => (f19 pa t off xs ((k1)) ((k1)) ((k1)) (fun (xs167 : List Int) => (k1)))))) (fun (n168 : Int) (n169 : Int) => (f15 y1 pa t off xs2 ((f19 pa t off xs ((k1)) ((k1)) ((k1)) (fun (xs170 : List Int) => (k1)))) ((f19 pa t off xs ((k1)) ((k1)) ((k1)) (fun (xs171 : List Int) => (k1)))) ((f19 pa t off xs ((k1)) ((k1)) ((k1)) (fun (xs172 : List Int) => (k1)))) (fun (xs173 : List Int) => (f19 pa t off xs ((k1)) ((k1)) ((k1)) (fun (xs174 : List Int) => (k1)))))) (fun (n175 : Int) (n176 : Int) => (f15 y1 pa t off xs2 ((f19 pa t off xs ((bif (n161 != n175) then (k1) else (f13 (0 : Int) ((f13 (6 : Int) ((f20 y1 xs2 xs (fun (b177 : Bool) => (bif (!b177) then (k1) else (l5_9 XL5_9 y1 xs xs2 ((f20 y1 xs2 xs (fun (b178 : Bool) => (bif b178 then (f14 ((k2))) else (k1))) ((k1))))))) ((k1))))))))) ((bif (n161 != n175) then (k1) else (f13 (0 : Int) ((f13 (6 : Int) ((k1))))))) ((bif (n161 != n175) then (k1) else (f13 (0 : Int) ((f13 (6 : Int) ((k1))))))) (fun (xs179 : List Int) => (bif (n161 != n175) then (k1) else (f13 (0 : Int) ((bif (!(([] : List Int) == xs179)) then (k1) else (f13 (6 : Int) ((k1)))))))))) ((f19 pa t off xs ((bif (n161 != n175) then (k1) else (f13 (0 : Int) ((f13 (210 : Int) ((k1))))))) ((bif (n161 != n175) then (k1) else (f13 (0 : Int) ((f13 (210 : Int) ((f20 y1 xs2 xs (fun (b180 : Bool) => (bif (!b180) then (k1) else (l5_9 XL5_9 y1 xs xs2 ((f20 y1 xs2 xs (fun (b181 : Bool) => (bif b181 then (f14 ((k2))) else (k1))) ((k1))))))) ((k1))))))))) ((bif (n161 != n175) then (k1) else (f13 (0 : Int) ((f13 (210 : Int) ((k1))))))) (fun (xs182 : List Int) => (bif (n161 != n175) then (k1) else (f13 (0 : Int) ((bif (!(([] : List Int) == xs182)) then (k1) else (f13 (210 : Int) ((k1)))))))))) ((f19 pa t off xs ((bif (n161 != n175) then (k1) else (f13 (0 : Int) ((f13 (201 : Int) ((k1))))))) ((bif (n161 != n175) then (k1) else (f13 (0 : Int) ((f13 (201 : Int) ((k1))))))) ((bif (n161 != n175) then (k1) else (f13 (0 : Int) ((f13 (201 : Int) ((f20 y1 xs2 xs (fun (b183 : Bool) => (bif (!b183) then (k1) else (l5_9 XL5_9 y1 xs xs2 ((f20 y1 xs2 xs (fun (b184 : Bool) => (bif b184 then (f14 ((k2))) else (k1))) ((k1))))))) ((k1))))))))) (fun (xs185 : List Int) => (bif (n161 != n175) then (k1) else (f13 (0 : Int) ((bif (!(([] : List Int) == xs185)) then (k1) else (f13 (201 : Int) ((k1)))))))))) (fun (xs186 : List Int) => (f19 pa t off xs ((bif (n161 != n175) then (k1) else (f13 (0 : Int) ((bif (!(xs186 == ([] : List Int))) then (k1) else (f13 (0 : Int) ((k1)))))))) ((bif (n161 != n175) then (k1) else (f13 (0 : Int) ((bif (!(xs186 == ([] : List Int))) then (k1) else (f13 (0 : Int) ((k1)))))))) ((bif (n161 != n175) then (k1) else (f13 (0 : Int) ((bif (!(xs186 == ([] : List Int))) then (k1) else (f13 (0 : Int) ((k1)))))))) (fun (xs187 : List Int) => (bif (n161 != n175) then (k1) else (f13 (0 : Int) ((bif (!(xs186 == xs187)) then (k1) else (f13 (0 : Int) ((f20 y1 xs2 xs (fun (b188 : Bool) => (bif (!b188) then (k1) else (l5_9b XL5_9b y1 (0 : Int) xs xs2 xs186 ((f20 y1 xs2 xs (fun (b189 : Bool) => (bif b189 then (f14 ((k2))) else (k1))) ((k1))))))) ((k1)))))))))))))) (fun (n190 : Int) (n191 : Int) => (f15 y1 pa t off xs2 ((f19 pa t off xs ((k1)) ((k1)) ((k1)) (fun (xs192 : List Int) => (k1)))) ((f19 pa t off xs ((k1)) ((k1)) ((k1)) (fun (xs193 : List Int) => (k1)))) ((f19 pa t off xs ((k1)) ((k1)) ((k1)) (fun (xs194 : List Int) => (k1)))) (fun (xs195 : List Int) => (f19 pa t off xs ((k1)) ((k1)) ((k1)) (fun (xs196 : List Int) => (k1)))))) (fun (n197 : Int) => (f15 y1 pa t off xs2 ((f19 pa t off xs ((k1)) ((k1)) ((k1)) (fun (xs198 : List Int) => (k1)))) ((f19 pa t off xs ((k1)) ((k1)) ((k1)) (fun (xs199 : List Int) => (k1)))) ((f19 pa t off xs ((k1)) ((k1)) ((k1)) (fun (xs200 : List Int) => (k1)))) (fun (xs201 : List Int) => (f19 pa t off xs ((k1)) ((k1)) ((k1)) (fun (xs202 : List Int) => (k1)))))))) (fun (n203 : Int) => (f18 pa t xs (fun (n204 : Int) => (f15 y1 pa t off xs2 ((f19 pa t off xs ((k1)) ((k1)) ((k1)) (fun (xs205 : List Int) => (k1)))) ((f19 pa t off xs ((k1)) ((k1)) ((k1)) (fun (xs206 : List Int) => (k1)))) ((f19 pa t off xs ((k1)) ((k1)) ((k1)) (fun (xs207 : List Int) => (k1)))) (fun (xs208 : List Int) => (f19 pa t off xs ((k1)) ((k1)) ((k1)) (fun (xs209 : List Int) => (k1)))))) (fun (n210 : Int) (n211 : Int) => (f15 y1 pa t off xs2 ((f19 pa t off xs ((bif (n203 != n210) then (k1) else (f13 (0 : Int) ((f13 (6 : Int) ((f20 y1 xs2 xs (fun (b212 : Bool) => (bif (!b212) then (k1) else (l5_9 XL5_9 y1 xs xs2 ((f20 y1 xs2 xs (fun (b213 : Bool) => (bif b213 then (f14 ((k2))) else (k1))) ((k1))))))) ((k1))))))))) ((bif (n203 != n210) then (k1) else (f13 (0 : Int) ((f13 (6 : Int) ((k1))))))) ((bif (n203 != n210) then (k1) else (f13 (0 : Int) ((f13 (6 : Int) ((k1))))))) (fun (xs214 : List Int) => (bif (n203 != n210) then (k1) else (f13 (0 : Int) ((bif (!(([] : List Int) == xs214)) then (k1) else (f13 (6 : Int) ((k1)))))))))) ((f19 pa t off xs ((bif (n203 != n210) then (k1) else (f13 (0 : Int) ((f13 (210 : Int) ((k1))))))) ((bif (n203 != n210) then (k1) else (f13 (0 : Int) ((f13 (210 : Int) ((f20 y1 xs2 xs (fun (b215 : Bool) => (bif (!b215) then (k1) else (l5_9 XL5_9 y1 xs xs2 ((f20 y1 xs2 xs (fun (b216 : Bool) => (bif b216 then (f14 ((k2))) else (k1))) ((k1))))))) ((k1))))))))) ((bif (n203 != n210) then (k1) else (f13 (0 : Int) ((f13 (210 : Int) ((k1))))))) (fun (xs217 : List Int) => (bif (n203 != n210) then (k1) else (f13 (0 : Int) ((bif (!(([] : List Int) == xs217)) then (k1) else (f13 (210 : Int) ((k1)))))))))) ((f19 pa t off xs ((bif (n203 != n210) then (k1) else (f13 (0 : Int) ((f13 (201 : Int) ((k1))))))) ((bif (n203 != n210) then (k1) else (f13 (0 : Int) ((f13 (201 : Int) ((k1))))))) ((bif (n203 != n210) then (k1) else (f13 (0 : Int) ((f13 (201 : Int) ((f20 y1 xs2 xs (fun (b218 : Bool) => (bif (!b218) then (k1) else (l5_9 XL5_9 y1 xs xs2 ((f20 y1 xs2 xs (fun (b219 : Bool) => (bif b219 then (f14 ((k2))) else (k1))) ((k1))))))) ((k1))))))))) (fun (xs220 : List Int) => (bif (n203 != n210) then (k1) else (f13 (0 : Int) ((bif (!(([] : List Int) == xs220)) then (k1) else (f13 (201 : Int) ((k1)))))))))) (fun (xs221 : List Int) => (f19 pa t off xs ((bif (n203 != n210) then (k1) else (f13 (0 : Int) ((bif (!(xs221 == ([] : List Int))) then (k1) else (f13 (0 : Int) ((k1)))))))) ((bif (n203 != n210) then (k1) else (f13 (0 : Int) ((bif (!(xs221 == ([] : List Int))) then (k1) else (f13 (0 : Int) ((k1)))))))) ((bif (n203 != n210) then (k1) else (f13 (0 : Int) ((bif (!(xs221 == ([] : List Int))) then (k1) else (f13 (0 : Int) ((k1)))))))) (fun (xs222 : List Int) => (bif (n203 != n210) then (k1) else (f13 (0 : Int) ((bif (!(xs221 == xs222)) then (k1) else (f13 (0 : Int) ((f20 y1 xs2 xs (fun (b223 : Bool) => (bif (!b223) then (k1) else (l5_9b XL5_9b y1 (0 : Int) xs xs2 xs221 ((f20 y1 xs2 xs (fun (b224 : Bool) => (bif b224 then (f14 ((k2))) else (k1))) ((k1))))))) ((k1)))))))))))))) (fun (n225 : Int) (n226 : Int) => (f15 y1 pa t off xs2 ((f19 pa t off xs ((k1)) ((k1)) ((k1)) (fun (xs227 : List Int) => (k1)))) ((f19 pa t off xs ((k1)) ((k1)) ((k1)) (fun (xs228 : List Int) => (k1)))) ((f19 pa t off xs ((k1)) ((k1)) ((k1)) (fun (xs229 : List Int) => (k1)))) (fun (xs230 : List Int) => (f19 pa t off xs ((k1)) ((k1)) ((k1)) (fun (xs231 : List Int) => (k1)))))) (fun (n232 : Int) (n233 : Int) => (f15 y1 pa t off xs2 ((f19 pa t off xs ((k1)) ((k1)) ((k1)) (fun (xs234 : List Int) => (k1)))) ((f19 pa t off xs ((k1)) ((k1)) ((k1)) (fun (xs235 : List Int) => (k1)))) ((f19 pa t off xs ((k1)) ((k1)) ((k1)) (fun (xs236 : List Int) => (k1)))) (fun (xs237 : List Int) => (f19 pa t off xs ((k1)) ((k1)) ((k1)) (fun (xs238 : List Int) => (k1)))))) (fun (n239 : Int) => (f15 y1 pa t off xs2 ((f19 pa t off xs ((k1)) ((k1)) ((k1)) (fun (xs240 : List Int) => (k1)))) ((f19 pa t off xs ((k1)) ((k1)) ((k1)) (fun (xs241 : List Int) => (k1)))) ((f19 pa t off xs ((k1)) ((k1)) ((k1)) (fun (xs242 : List Int) => (k1)))) (fun (xs243 : List Int) => (f19 pa t off xs ((k1)) ((k1)) ((k1)) (fun (xs244 : List Int) => (k1)))))))))))
theorem F5_ok (f14 : Y14) (f13 : Y13) (f16 : Y16) (f20 : Y20) (f17 : Y17) (f15 : Y15) (f18 : Y18) (f19 : Y19) (l5_9 : YL5_9) (l5_9b : YL5_9b) (pa : Int) (t : Int) (off : Int) (xs : List Int) (K : V → Mem → Prop) : cbody Try.prog (T14 f14 (T13 f13 (T16 f16 (T20 f20 (T17 f17 (T15 f15 (T18 f18 (T19 f19 C0)))))))) (WL5_9 l5_9 (WL5_9b l5_9b (fun _ => none))) 1000 (fnOf Try.prog 5) [(.sl 0 (0 : Nat) (none : Option Nat) (none : Option Nat)), (.I .i64 pa), (.I .i64 t), (.I .i64 off)] [⟨[.ints .u8 xs], 5, true, false⟩] K =
    F5 f14 f13 f16 f20 f17 f15 f18 f19 l5_9 l5_9b pa t off xs (K (.B false) [⟨[.ints .u8 xs], 5, true, false⟩]) (K (.B true) [⟨[.ints .u8 xs], 5, true, false⟩]) := by kernel_rfl
def G5 : Y5 := F5 G14 G13 G16 G20 G17 G15 G18 G19 GL5_9 GL5_9b
def VT5 (f : Y5) (F : Prop) (args : List V) (m : Mem) (K : V → Mem → Prop) : Prop :=
  (seeCons args F fun a1 q2 => (seeV (.sl 0 (0 : Nat) (none : Option Nat) (none : Option Nat)) a1 F (seeCons q2 F fun a3 q4 => (seeI .i64 a3 F fun pa => (seeCons q4 F fun a5 q6 => (seeI .i64 a5 F fun t => (seeCons q6 F fun a7 q8 => (seeI .i64 a7 F fun off => (seeNil q8 F (seeCons m F fun a9 q10 => (seeBlk 5 true false a9 F fun cs11 => (seeCons cs11 F fun a12 q13 => (seeInts .u8 a12 F fun xs => (seeNil q13 F (seeNil q10 F (f pa t off xs (K (.B false) [⟨[.ints .u8 xs], 5, true, false⟩]) (K (.B true) [⟨[.ints .u8 xs], 5, true, false⟩])))))))))))))))))
def T5 (f : Y5) (C : CC) : CC := fun g args m K =>
  match Nat.beq g 5 with
  | true => VT5 f (C g args m K) args m K
  | false => C g args m K
set_option maxRecDepth 100000 in
theorem T5_ok {C : CC} (hC : CallsOk Try.prog C) : CallsOk Try.prog (T5 G5 C) := by
  intro g args m K E w cargs hS ha h
  unfold T5 at h
  split at h
  · rename_i hg
    obtain rfl := Nat.eq_of_beq_eq_true hg
    unfold VT5 at h
    replace h := seeCons_use h
    rcases h with h | ⟨a1, q2, rfl, h⟩
    · exact hC _ _ _ _ _ _ _ hS ha h
    replace h := seeV_use h
    rcases h with h | ⟨rfl, h⟩
    · exact hC _ _ _ _ _ _ _ hS ha h
    replace h := seeCons_use h
    rcases h with h | ⟨a3, q4, rfl, h⟩
    · exact hC _ _ _ _ _ _ _ hS ha h
    replace h := seeI_use h
    rcases h with h | ⟨pa, rfl, h⟩
    · exact hC _ _ _ _ _ _ _ hS ha h
    replace h := seeCons_use h
    rcases h with h | ⟨a5, q6, rfl, h⟩
    · exact hC _ _ _ _ _ _ _ hS ha h
    replace h := seeI_use h
    rcases h with h | ⟨t, rfl, h⟩
    · exact hC _ _ _ _ _ _ _ hS ha h
    replace h := seeCons_use h
    rcases h with h | ⟨a7, q8, rfl, h⟩
    · exact hC _ _ _ _ _ _ _ hS ha h
    replace h := seeI_use h
    rcases h with h | ⟨off, rfl, h⟩
    · exact hC _ _ _ _ _ _ _ hS ha h
    replace h := seeNil_use h
    rcases h with h | ⟨rfl, h⟩
    · exact hC _ _ _ _ _ _ _ hS ha h
    replace h := seeCons_use h
    rcases h with h | ⟨a9, q10, rfl, h⟩
    · exact hC _ _ _ _ _ _ _ hS ha h
    replace h := seeBlk_use h
    rcases h with h | ⟨cs11, rfl, h⟩
    · exact hC _ _ _ _ _ _ _ hS ha h
    replace h := seeCons_use h
    rcases h with h | ⟨a12, q13, rfl, h⟩
    · exact hC _ _ _ _ _ _ _ hS ha h
    replace h := seeInts_use h
    rcases h with h | ⟨xs, rfl, h⟩
    · exact hC _ _ _ _ _ _ _ hS ha h
    replace h := seeNil_use h
    rcases h with h | ⟨rfl, h⟩
    · exact hC _ _ _ _ _ _ _ hS ha h
    replace h := seeNil_use h
    rcases h with h | ⟨rfl, h⟩
    · exact hC _ _ _ _ _ _ _ hS ha h
    exact cbody_use named (T14_ok (T13_ok (T16_ok (T20_ok (T17_ok (T15_ok (T18_ok (T19_ok C0_ok)))))))) at5 (l := 1) rfl (WL5_9_ok (WL5_9b_ok (LoopsOk.none _ _))) (F5_ok G14 G13 G16 G20 G17 G15 G18 G19 GL5_9 GL5_9b pa t off xs K) hS ha h
  · exact hC _ _ _ _ _ _ _ hS ha h
end Go.Proofs.Ytnndiicpiolddaa.tls
