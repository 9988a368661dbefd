import Derived.Test.YtgflbmcmkjkmmaaGreatSo7
set_option linter.unusedVariables false
set_option linter.unusedSimpArgs false
set_option maxHeartbeats 4000000
set_option maxRecDepth 100000
namespace Go.Proofs.YtgflbmcmkjkmmaaGreat.so
open Go Go.Ab Go.So
def prims7 : Prims := fun f =>
  match Nat.beq f 16 with
  | true => some P16
  | false => prims1 f
theorem prims7_ok : PrimsOk Tryz.prog prims7 := by
  intro f g hg
  unfold prims7 at hg
  split at hg
  · rename_i hf
    obtain rfl := Nat.eq_of_beq_eq_true hf
    cases hg
    exact P16_ok
  · skip
    exact prims1_ok f g hg
def C7 : CC := call Tryz.prog prims7 1000
theorem C7_ok : CallsOk Tryz.prog C7 := call_sound named prims7_ok 1000
abbrev YL10_8 : Type := Code → Int → List Int → List Int → List Int → List Int → List Int → (List Int → List Int → List Int → Prop) → (List Int → List Int → List Int → Prop) → Prop
set_option maxHeartbeats 4000000 in
set_option maxRecDepth 100000 in
def HL10_8  (rec : Int → List Int → List Int → List Int → Prop) (i_7 : Int) (xs_m_0_0 : List Int) (xs_m_1_0 : List Int) (xs_m_2_0 : List Int) (xs_m_2_1 : List Int) (xs_m_2_2 : List Int) (k1 : List Int → List Int → List Int → Prop) (k2 : List Int → List Int → List Int → Prop) : Prop :=
  (bif (decide (i_7 < ((((List.length xs_m_1_0) - (0 : Nat)) : Nat) : Int))) then (bif ((decide ((0 : Int) ≤ i_7)) && (decide (i_7 < ((((List.length xs_m_1_0) - (0 : Nat)) : Nat) : Int)))) then (bif ((decide ((0 : Int) ≤ (IntKind.wrap .i64 (i_7 + (1 : Int))))) && (decide ((IntKind.wrap .i64 (i_7 + (1 : Int))) < ((((List.length xs_m_1_0) - (0 : Nat)) : Nat) : Int)))) then (bif ((decide ((0 : Int) ≤ (IntKind.wrap .i64 (i_7 + (2 : Int))))) && (decide ((IntKind.wrap .i64 (i_7 + (2 : Int))) < ((((List.length xs_m_1_0) - (0 : Nat)) : Nat) : Int)))) then (bif ((((List.getD xs_m_1_0 (Int.toNat i_7) (0 : Int)) == (List.getD xs_m_1_0 (Int.toNat i_7) (0 : Int))) && (((List.getD xs_m_1_0 (Int.toNat (IntKind.wrap .i64 (i_7 + (1 : Int)))) (0 : Int)) == (List.getD xs_m_1_0 (Int.toNat (IntKind.wrap .i64 (i_7 + (1 : Int)))) (0 : Int))) && (((List.getD xs_m_1_0 (Int.toNat (IntKind.wrap .i64 (i_7 + (2 : Int)))) (0 : Int)) == (List.getD xs_m_1_0 (Int.toNat (IntKind.wrap .i64 (i_7 + (2 : Int)))) (0 : Int))) && true))) && (((List.getD xs_m_1_0 (Int.toNat (IntKind.wrap .i64 (i_7 + (2 : Int)))) (0 : Int)) == (List.getD xs_m_1_0 (Int.toNat (IntKind.wrap .i64 (i_7 + (2 : Int)))) (0 : Int))) && ((((decide ((0 : Int) ≤ (IntKind.wrap .i64 (i_7 + (2 : Int))))) && (decide ((IntKind.wrap .i64 (i_7 + (2 : Int))) < ((((List.length xs_m_1_0) - (0 : Nat)) : Nat) : Int)))) && (((Int.toNat (IntKind.wrap .i64 (i_7 + (2 : Int)))) == (Int.toNat (IntKind.wrap .i64 (i_7 + (2 : Int))))) && true)) && (((IntKind.wrap .i64 (i_7 + (2 : Int))) == (IntKind.wrap .i64 (i_7 + (2 : Int)))) && ((i_7 == i_7) && (((List.getD xs_m_1_0 (Int.toNat (IntKind.wrap .i64 (i_7 + (1 : Int)))) (0 : Int)) == (List.getD xs_m_1_0 (Int.toNat (IntKind.wrap .i64 (i_7 + (1 : Int)))) (0 : Int))) && ((((decide ((0 : Int) ≤ (IntKind.wrap .i64 (i_7 + (1 : Int))))) && (decide ((IntKind.wrap .i64 (i_7 + (1 : Int))) < ((((List.length xs_m_1_0) - (0 : Nat)) : Nat) : Int)))) && (((Int.toNat (IntKind.wrap .i64 (i_7 + (1 : Int)))) == (Int.toNat (IntKind.wrap .i64 (i_7 + (1 : Int))))) && true)) && (((IntKind.wrap .i64 (i_7 + (1 : Int))) == (IntKind.wrap .i64 (i_7 + (1 : Int)))) && ((i_7 == i_7) && (((List.getD xs_m_1_0 (Int.toNat i_7) (0 : Int)) == (List.getD xs_m_1_0 (Int.toNat i_7) (0 : Int))) && ((((decide ((0 : Int) ≤ i_7)) && (decide (i_7 < ((((List.length xs_m_1_0) - (0 : Nat)) : Nat) : Int)))) && (((Int.toNat i_7) == (Int.toNat i_7)) && true)) && ((i_7 == i_7) && true)))))))))))) then (bif (decide ((List.getD xs_m_1_0 (Int.toNat i_7) (0 : Int)) ≥ (0 : Int))) then (bif (decide ((List.getD xs_m_1_0 (Int.toNat i_7) (0 : Int)) ≤ (140737488355328 : Int))) then (bif ((List.getD xs_m_1_0 (Int.toNat (IntKind.wrap .i64 (i_7 + (1 : Int)))) (0 : Int)) == (8 : Int)) then (bif (decide ((List.getD xs_m_1_0 (Int.toNat (IntKind.wrap .i64 (i_7 + (2 : Int)))) (0 : Int)) ≥ (-140737488355328 : Int))) then (bif (!(decide ((List.getD xs_m_1_0 (Int.toNat (IntKind.wrap .i64 (i_7 + (2 : Int)))) (0 : Int)) ≤ (140737488355328 : Int)))) then (k1 xs_m_2_0 xs_m_2_1 xs_m_2_2) else (bif ((decide (((((List.length xs_m_2_0) - (0 : Nat)) + (1 : Nat)) * (24 : Nat)) ≤ (140737488355328 : Nat))) && (decide ((((List.length xs_m_2_0) - (0 : Nat)) + (1 : Nat)) ≤ (140737488355328 : Nat)))) then (rec (IntKind.wrap .i64 (i_7 + (3 : Int))) (xs_m_2_0 ++ ([(List.getD xs_m_1_0 (Int.toNat i_7) (0 : Int))] : List Int)) (xs_m_2_1 ++ ([(List.getD xs_m_1_0 (Int.toNat (IntKind.wrap .i64 (i_7 + (1 : Int)))) (0 : Int))] : List Int)) (xs_m_2_2 ++ ([(List.getD xs_m_1_0 (Int.toNat (IntKind.wrap .i64 (i_7 + (2 : Int)))) (0 : Int))] : List Int))) else False)) else (k1 xs_m_2_0 xs_m_2_1 xs_m_2_2)) else (bif ((List.getD xs_m_1_0 (Int.toNat (IntKind.wrap .i64 (i_7 + (1 : Int)))) (0 : Int)) == (37 : Int)) then (bif (decide ((List.getD xs_m_1_0 (Int.toNat (IntKind.wrap .i64 (i_7 + (2 : Int)))) (0 : Int)) ≥ (-140737488355328 : Int))) then (bif (!(decide ((List.getD xs_m_1_0 (Int.toNat (IntKind.wrap .i64 (i_7 + (2 : Int)))) (0 : Int)) ≤ (140737488355328 : Int)))) then (k1 xs_m_2_0 xs_m_2_1 xs_m_2_2) else (bif ((decide (((((List.length xs_m_2_0) - (0 : Nat)) + (1 : Nat)) * (24 : Nat)) ≤ (140737488355328 : Nat))) && (decide ((((List.length xs_m_2_0) - (0 : Nat)) + (1 : Nat)) ≤ (140737488355328 : Nat)))) then (rec (IntKind.wrap .i64 (i_7 + (3 : Int))) (xs_m_2_0 ++ ([(List.getD xs_m_1_0 (Int.toNat i_7) (0 : Int))] : List Int)) (xs_m_2_1 ++ ([(List.getD xs_m_1_0 (Int.toNat (IntKind.wrap .i64 (i_7 + (1 : Int)))) (0 : Int))] : List Int)) (xs_m_2_2 ++ ([(List.getD xs_m_1_0 (Int.toNat (IntKind.wrap .i64 (i_7 + (2 : Int)))) (0 : Int))] : List Int))) else False)) else (k1 xs_m_2_0 xs_m_2_1 xs_m_2_2)) else (k1 xs_m_2_0 xs_m_2_1 xs_m_2_2))) else (k1 xs_m_2_0 xs_m_2_1 xs_m_2_2)) else (k1 xs_m_2_0 xs_m_2_1 xs_m_2_2)) else False) else False) else False) else False) else (k2 xs_m_2_0 xs_m_2_1 xs_m_2_2))
def RL10_8  : Nat → Int → List Int → List Int → List Int → List Int → List Int → (List Int → List Int → List Int → Prop) → (List Int → List Int → List Int → Prop) → Prop
  | 0, _, _, _, _, _, _, _, _ => False
  | n + 1, i_7, xs_m_0_0, xs_m_1_0, xs_m_2_0, xs_m_2_1, xs_m_2_2, k1, k2 => HL10_8  (fun (i_7 : Int) (xs_m_2_0 : List Int) (xs_m_2_1 : List Int) (xs_m_2_2 : List Int) => RL10_8  n i_7 xs_m_0_0 xs_m_1_0 xs_m_2_0 xs_m_2_1 xs_m_2_2 k1 k2) i_7 xs_m_0_0 xs_m_1_0 xs_m_2_0 xs_m_2_1 xs_m_2_2 k1 k2
noncomputable def XL10_8 : Code := sub [true, true, true, true, true, false, true, false, false] (bodyOf Tryz.prog 10)
theorem HL10_8_ok  (n : Nat) (i_7 : Int) (xs_m_0_0 : List Int) (xs_m_1_0 : List Int) (xs_m_2_0 : List Int) (xs_m_2_1 : List Int) (xs_m_2_2 : List Int) (K : Ex → Env → Mem → Prop) : cround 1 [4, 6, 7] [2, 3, 6] (fun ρ m K => cexec Tryz.prog C7 (fun _ => none) 1 1000 XL10_8 ρ m K) (n + 1) (selE 54 [(4, (.sl 1 (0 : Nat) (none : Option Nat) (none : Option Nat))), (6, (.sl 2 (0 : Nat) (none : Option Nat) (none : Option Nat))), (7, (.I .i64 i_7))]) [⟨[.ints .u8 xs_m_0_0], 5, false, false⟩, ⟨[.ints .i64 xs_m_1_0], 3, false, true⟩, ⟨[.ints .i64 xs_m_2_0, .ints .i64 xs_m_2_1, .ints .i64 xs_m_2_2], 47, false, true⟩] K =
    HL10_8  (fun (i_7 : Int) (xs_m_2_0 : List Int) (xs_m_2_1 : List Int) (xs_m_2_2 : List Int) => cround 1 [4, 6, 7] [2, 3, 6] (fun ρ m K => cexec Tryz.prog C7 (fun _ => none) 1 1000 XL10_8 ρ m K) n (selE 54 [(4, (.sl 1 (0 : Nat) (none : Option Nat) (none : Option Nat))), (6, (.sl 2 (0 : Nat) (none : Option Nat) (none : Option Nat))), (7, (.I .i64 i_7))]) [⟨[.ints .u8 xs_m_0_0], 5, false, false⟩, ⟨[.ints .i64 xs_m_1_0], 3, false, true⟩, ⟨[.ints .i64 xs_m_2_0, .ints .i64 xs_m_2_1, .ints .i64 xs_m_2_2], 47, false, true⟩] K) i_7 xs_m_0_0 xs_m_1_0 xs_m_2_0 xs_m_2_1 xs_m_2_2 (fun (u0 : List Int) (u1 : List Int) (u2 : List Int) => K .ret (selE 54 [(2, .nils), (3, (.I .i64 (200 : Int))), (6, (.sl 1 (0 : Nat) (none : Option Nat) (none : Option Nat)))]) [⟨[.ints .u8 xs_m_0_0], 5, false, false⟩, ⟨[.ints .i64 u0, .ints .i64 u1, .ints .i64 u2], 47, false, true⟩]) (fun (u0 : List Int) (u1 : List Int) (u2 : List Int) => K (.exit 0) (selE 54 [(2, .undef), (3, .undef), (6, (.sl 1 (0 : Nat) (none : Option Nat) (none : Option Nat)))]) [⟨[.ints .u8 xs_m_0_0], 5, false, false⟩, ⟨[.ints .i64 u0, .ints .i64 u1, .ints .i64 u2], 47, false, true⟩]) := by kernel_rfl
theorem RL10_8_ok  (K : Ex → Env → Mem → Prop) : ∀ (n : Nat) (i_7 : Int) (xs_m_0_0 : List Int) (xs_m_1_0 : List Int) (xs_m_2_0 : List Int) (xs_m_2_1 : List Int) (xs_m_2_2 : List Int), cround 1 [4, 6, 7] [2, 3, 6] (fun ρ m K => cexec Tryz.prog C7 (fun _ => none) 1 1000 XL10_8 ρ m K) n (selE 54 [(4, (.sl 1 (0 : Nat) (none : Option Nat) (none : Option Nat))), (6, (.sl 2 (0 : Nat) (none : Option Nat) (none : Option Nat))), (7, (.I .i64 i_7))]) [⟨[.ints .u8 xs_m_0_0], 5, false, false⟩, ⟨[.ints .i64 xs_m_1_0], 3, false, true⟩, ⟨[.ints .i64 xs_m_2_0, .ints .i64 xs_m_2_1, .ints .i64 xs_m_2_2], 47, false, true⟩] K = RL10_8  n i_7 xs_m_0_0 xs_m_1_0 xs_m_2_0 xs_m_2_1 xs_m_2_2 (fun (u0 : List Int) (u1 : List Int) (u2 : List Int) => K .ret (selE 54 [(2, .nils), (3, (.I .i64 (200 : Int))), (6, (.sl 1 (0 : Nat) (none : Option Nat) (none : Option Nat)))]) [⟨[.ints .u8 xs_m_0_0], 5, false, false⟩, ⟨[.ints .i64 u0, .ints .i64 u1, .ints .i64 u2], 47, false, true⟩]) (fun (u0 : List Int) (u1 : List Int) (u2 : List Int) => K (.exit 0) (selE 54 [(2, .undef), (3, .undef), (6, (.sl 1 (0 : Nat) (none : Option Nat) (none : Option Nat)))]) [⟨[.ints .u8 xs_m_0_0], 5, false, false⟩, ⟨[.ints .i64 u0, .ints .i64 u1, .ints .i64 u2], 47, false, true⟩])
  | 0, i_7, xs_m_0_0, xs_m_1_0, xs_m_2_0, xs_m_2_1, xs_m_2_2 => rfl
  | n + 1, i_7, xs_m_0_0, xs_m_1_0, xs_m_2_0, xs_m_2_1, xs_m_2_2 => by
    have ih := RL10_8_ok  K n
    rw [HL10_8_ok  n i_7 xs_m_0_0 xs_m_1_0 xs_m_2_0 xs_m_2_1 xs_m_2_2 K]
    show HL10_8  _ i_7 xs_m_0_0 xs_m_1_0 xs_m_2_0 xs_m_2_1 xs_m_2_2 (fun (u0 : List Int) (u1 : List Int) (u2 : List Int) => K .ret (selE 54 [(2, .nils), (3, (.I .i64 (200 : Int))), (6, (.sl 1 (0 : Nat) (none : Option Nat) (none : Option Nat)))]) [⟨[.ints .u8 xs_m_0_0], 5, false, false⟩, ⟨[.ints .i64 u0, .ints .i64 u1, .ints .i64 u2], 47, false, true⟩]) (fun (u0 : List Int) (u1 : List Int) (u2 : List Int) => K (.exit 0) (selE 54 [(2, .undef), (3, .undef), (6, (.sl 1 (0 : Nat) (none : Option Nat) (none : Option Nat)))]) [⟨[.ints .u8 xs_m_0_0], 5, false, false⟩, ⟨[.ints .i64 u0, .ints .i64 u1, .ints .i64 u2], 47, false, true⟩]) = HL10_8  _ i_7 xs_m_0_0 xs_m_1_0 xs_m_2_0 xs_m_2_1 xs_m_2_2 (fun (u0 : List Int) (u1 : List Int) (u2 : List Int) => K .ret (selE 54 [(2, .nils), (3, (.I .i64 (200 : Int))), (6, (.sl 1 (0 : Nat) (none : Option Nat) (none : Option Nat)))]) [⟨[.ints .u8 xs_m_0_0], 5, false, false⟩, ⟨[.ints .i64 u0, .ints .i64 u1, .ints .i64 u2], 47, false, true⟩]) (fun (u0 : List Int) (u1 : List Int) (u2 : List Int) => K (.exit 0) (selE 54 [(2, .undef), (3, .undef), (6, (.sl 1 (0 : Nat) (none : Option Nat) (none : Option Nat)))]) [⟨[.ints .u8 xs_m_0_0], 5, false, false⟩, ⟨[.ints .i64 u0, .ints .i64 u1, .ints .i64 u2], 47, false, true⟩])
    refine congrArg (fun r => HL10_8  r i_7 xs_m_0_0 xs_m_1_0 xs_m_2_0 xs_m_2_1 xs_m_2_2 (fun (u0 : List Int) (u1 : List Int) (u2 : List Int) => K .ret (selE 54 [(2, .nils), (3, (.I .i64 (200 : Int))), (6, (.sl 1 (0 : Nat) (none : Option Nat) (none : Option Nat)))]) [⟨[.ints .u8 xs_m_0_0], 5, false, false⟩, ⟨[.ints .i64 u0, .ints .i64 u1, .ints .i64 u2], 47, false, true⟩]) (fun (u0 : List Int) (u1 : List Int) (u2 : List Int) => K (.exit 0) (selE 54 [(2, .undef), (3, .undef), (6, (.sl 1 (0 : Nat) (none : Option Nat) (none : Option Nat)))]) [⟨[.ints .u8 xs_m_0_0], 5, false, false⟩, ⟨[.ints .i64 u0, .ints .i64 u1, .ints .i64 u2], 47, false, true⟩])) ?_
    funext i_7 xs_m_2_0 xs_m_2_1 xs_m_2_2
    exact ih i_7 xs_m_0_0 xs_m_1_0 xs_m_2_0 xs_m_2_1 xs_m_2_2
def GL10_8 : YL10_8 := fun x i_7 xs_m_0_0 xs_m_1_0 xs_m_2_0 xs_m_2_1 xs_m_2_2 k1 k2 => x = XL10_8 ∧ ∃ n, RL10_8  n i_7 xs_m_0_0 xs_m_1_0 xs_m_2_0 xs_m_2_1 xs_m_2_2 k1 k2
def FL10_8 : List Fil := [.slot 6 ⟨[.ints .i64 ([] : List Int), .ints .i64 ([] : List Int), .ints .i64 ([] : List Int)], 47, false, true⟩]
def VL10_8 (l : YL10_8) (F : Prop) (x : Code) (ρ : Env) (m : Mem) (K : Ex → Env → Mem → Prop) : Prop :=
  match ρ.has (54 - 1) with
  | true => (seeV (.sl 1 (0 : Nat) (none : Option Nat) (none : Option Nat)) (ρ.get 4) F (seeV (.sl 2 (0 : Nat) (none : Option Nat) (none : Option Nat)) (ρ.get 6) F (seeI .i64 (ρ.get 7) F fun i_7 => (seeCons m F fun a4 q5 => (seeBlk 5 false false a4 F fun cs6 => (seeCons cs6 F fun a7 q8 => (seeInts .u8 a7 F fun xs_m_0_0 => (seeNil q8 F (seeCons q5 F fun a9 q10 => (seeBlk 3 false true a9 F fun cs11 => (seeCons cs11 F fun a12 q13 => (seeInts .i64 a12 F fun xs_m_1_0 => (seeNil q13 F (seeCons q10 F fun a14 q15 => (seeBlk 47 false true a14 F fun cs16 => (seeCons cs16 F fun a17 q18 => (seeInts .i64 a17 F fun xs_m_2_0 => (seeCons q18 F fun a19 q20 => (seeInts .i64 a19 F fun xs_m_2_1 => (seeCons q20 F fun a21 q22 => (seeInts .i64 a21 F fun xs_m_2_2 => (seeNil q22 F (seeNil q15 F (l x i_7 xs_m_0_0 xs_m_1_0 xs_m_2_0 xs_m_2_1 xs_m_2_2 (fun (u0 : List Int) (u1 : List Int) (u2 : List Int) => K .ret (selE 54 [(2, .nils), (3, (.I .i64 (200 : Int))), (6, (.sl 1 (0 : Nat) (none : Option Nat) (none : Option Nat)))]) [⟨[.ints .u8 xs_m_0_0], 5, false, false⟩, ⟨[.ints .i64 u0, .ints .i64 u1, .ints .i64 u2], 47, false, true⟩]) (fun (u0 : List Int) (u1 : List Int) (u2 : List Int) => K (.exit 0) (selE 54 [(2, .undef), (3, .undef), (6, (.sl 1 (0 : Nat) (none : Option Nat) (none : Option Nat)))]) [⟨[.ints .u8 xs_m_0_0], 5, false, false⟩, ⟨[.ints .i64 u0, .ints .i64 u1, .ints .i64 u2], 47, false, true⟩])))))))))))))))))))))))))
  | false => False
def WL10_8 (l : YL10_8) (W : Masks) : Masks := fun r =>
  match Nat.beq r 8 with
  | true => some fun x ρ m K => VL10_8 l (match W r with | some lf => lf x ρ m K | none => False) x (tidyE 1 [4, 6, 7] (fil FL10_8 ρ m).1 (fil FL10_8 ρ m).2) (tidyM 1 [4, 6, 7] (fil FL10_8 ρ m).1 (fil FL10_8 ρ m).2) K
  | false => W r
set_option maxRecDepth 100000 in
theorem WL10_8_ok {W : Masks} (hW : LoopsOk Tryz.prog 1 W) : LoopsOk Tryz.prog 1 (WL10_8 GL10_8 W) := by
  intro r lf h
  unfold WL10_8 at h
  split at h
  · cases h
    intro x E0 m0 w0 J hS0 ha hJ ρ m K E a w Q hS hρ hd h hQ
    have fb : (match W r with | some lf => lf x ρ m K | none => False) → (Code.loop x).wp Tryz.prog Q a w := fun h => by
      split at h
      · rename_i lf hlf
        exact hW r lf hlf x hS0 ha hJ ρ m K E a w Q hS hρ hd h hQ
      · cases h
    obtain ⟨E1, hS1, hρ1⟩ := fil_step hS hρ FL10_8
    obtain ⟨E2, hS2, hρ2⟩ := tidy_rel hS0 hS1 hρ1 [4, 6, 7]
    rw [ha] at hS2 hρ2
    unfold VL10_8 at h
    split at h
    · rename_i hlen
      replace h := seeV_use h
      rcases h with h | ⟨e1, h⟩
      · exact fb h
      replace h := seeV_use h
      rcases h with h | ⟨e2, h⟩
      · exact fb h
      replace h := seeI_use h
      rcases h with h | ⟨i_7, e3, h⟩
      · exact fb h
      replace h := seeCons_use h
      rcases h with h | ⟨a4, q5, eqm, h⟩
      · exact fb h
      replace h := seeBlk_use h
      rcases h with h | ⟨cs6, rfl, h⟩
      · exact fb h
      replace h := seeCons_use h
      rcases h with h | ⟨a7, q8, rfl, h⟩
      · exact fb h
      replace h := seeInts_use h
      rcases h with h | ⟨xs_m_0_0, rfl, h⟩
      · exact fb h
      replace h := seeNil_use h
      rcases h with h | ⟨rfl, h⟩
      · exact fb h
      replace h := seeCons_use h
      rcases h with h | ⟨a9, q10, rfl, h⟩
      · exact fb h
      replace h := seeBlk_use h
      rcases h with h | ⟨cs11, rfl, h⟩
      · exact fb h
      replace h := seeCons_use h
      rcases h with h | ⟨a12, q13, rfl, h⟩
      · exact fb h
      replace h := seeInts_use h
      rcases h with h | ⟨xs_m_1_0, rfl, h⟩
      · exact fb h
      replace h := seeNil_use h
      rcases h with h | ⟨rfl, h⟩
      · exact fb h
      replace h := seeCons_use h
      rcases h with h | ⟨a14, q15, rfl, h⟩
      · exact fb h
      replace h := seeBlk_use h
      rcases h with h | ⟨cs16, rfl, h⟩
      · exact fb h
      replace h := seeCons_use h
      rcases h with h | ⟨a17, q18, rfl, h⟩
      · exact fb h
      replace h := seeInts_use h
      rcases h with h | ⟨xs_m_2_0, rfl, h⟩
      · exact fb h
      replace h := seeCons_use h
      rcases h with h | ⟨a19, q20, rfl, h⟩
      · exact fb h
      replace h := seeInts_use h
      rcases h with h | ⟨xs_m_2_1, rfl, h⟩
      · exact fb h
      replace h := seeCons_use h
      rcases h with h | ⟨a21, q22, rfl, h⟩
      · exact fb h
      replace h := seeInts_use h
      rcases h with h | ⟨xs_m_2_2, rfl, h⟩
      · exact fb h
      replace h := seeNil_use h
      rcases h with h | ⟨rfl, h⟩
      · exact fb h
      replace h := seeNil_use h
      rcases h with h | ⟨rfl, h⟩
      · exact fb h
      obtain ⟨rfl, n, h⟩ := h
      exact loop_use named C7_ok (LoopsOk.none _ _) (RL10_8_ok  K n _ _ _ _ _ _) h hS0 ha hJ hlen ⟨e1, e2, e3, trivial⟩ (eqm ▸ hS2) hρ2 hd hQ
    · cases h
  · exact hW r lf h
theorem at10 : Tryz.prog.funcs[10]? = some (fnOf Tryz.prog 10) := by kernel_rfl
abbrev Y10 : Type := List Int → (Prop) → (Prop) → (List Int → List Int → List Int → Prop) → Prop
set_option maxHeartbeats 4000000 in
set_option maxRecDepth 100000 in
def F10  (l10_8 : YL10_8) (bs : List Int) (k1 : Prop) (k2 : Prop) (k3 : List Int → List Int → List Int → Prop) : Prop :=
  (bif (decide (((((List.length bs) - (0 : Nat)) : Nat) : Int) > (96000 : Int))) then (k1) else (arrS bs (fun (ar1 : List Int) => (bif ((Int.tmod ((((List.length ar1) - (0 : Nat)) : Nat) : Int) (3 : Int)) != (0 : Int)) then (k2) else (l10_8 XL10_8 (0 : Int) bs ar1 ([] : List Int) ([] : List Int) ([] : List Int) (fun (xs2 : List Int) (xs3 : List Int) (xs4 : List Int) => (k2)) (fun (xs5 : List Int) (xs6 : List Int) (xs7 : List Int) => (k3 xs5 xs6 xs7)))))))
theorem F10_ok  (l10_8 : YL10_8) (bs : List Int) (K : V → Mem → Prop) : cbody Tryz.prog C7 (WL10_8 l10_8 (fun _ => none)) 1000 (fnOf Tryz.prog 10) [(.sl 0 (0 : Nat) (none : Option Nat) (none : Option Nat))] [⟨[.ints .u8 bs], 5, false, false⟩] K =
    F10  l10_8 bs (K (.tup [.nils, (.I .i64 (6 : Int))]) [⟨[.ints .u8 bs], 5, false, false⟩]) (K (.tup [.nils, (.I .i64 (200 : Int))]) [⟨[.ints .u8 bs], 5, false, false⟩]) (fun (u0 : List Int) (u1 : List Int) (u2 : List Int) => K (.tup [(.sl 1 (0 : Nat) (none : Option Nat) (none : Option Nat)), (.I .i64 (0 : Int))]) [⟨[.ints .u8 bs], 5, false, false⟩, ⟨[.ints .i64 u0, .ints .i64 u1, .ints .i64 u2], 47, false, true⟩]) := by kernel_rfl
/-! ### Reading -/
def three (r : R) : List Int := [f1 r, f2 r, f3 r]
theorem three_len : ∀ A : List R, (A.flatMap three).length = 3 * A.length
  | [] => rfl
  | x :: A => by rw [List.flatMap_cons, List.length_append, three_len A, List.length_cons]; show 3 + _ = _; omega
theorem three_enc : ∀ A : List R, (A.flatMap three).flatMap enc8 = A.flatMap encR
  | [] => rfl
  | x :: A => by rw [List.flatMap_cons, List.flatMap_append, three_enc A, List.flatMap_cons]; rfl
def rdS (bs : List Int) (k : KK) : Prop := ∃ rs : List R, bs = rs.flatMap encR ∧ allOk rs ∧ put3 k rs
theorem rd_in (bs : List Int) (k1 k2 : KK) : ∀ (T A : List R), (A ++ T).length ≤ 4000 → (∀ r ∈ T, okR r) → put3 k2 (A ++ T) →
    RL10_8 (T.length + 1) ((3 * A.length : Nat) : Int) bs ((A ++ T).flatMap three) (A.map f1) (A.map f2) (A.map f3) k1 k2
  | [], A, hs, hr, hk => by
    have hl := three_len (A ++ [])
    show HL10_8 _ _ _ _ _ _ _ _ _
    unfold HL10_8
    rw [decide_eq_false (by rw [hl]; simp : ¬ ((3 * A.length : Nat) : Int) < (((List.length ((A ++ ([] : List R)).flatMap three) - (0 : Nat) : Nat)) : Int))]
    rw [List.append_nil] at hk
    exact hk
  | x :: T, A, hs, hr, hk => by
    have hs' : A.length + (T.length + 1) ≤ 4000 := by simpa using hs
    have hl := three_len (A ++ x :: T)
    have hA := three_len A
    obtain ⟨q1, q2, q3, q4, q5⟩ := hr x (by simp)
    have e1 : IntKind.wrap .i64 (((3 * A.length : Nat) : Int) + 1) = ((3 * A.length + 1 : Nat) : Int) := by rw [w64 (by omega) (by omega)]; omega
    have e2 : IntKind.wrap .i64 (((3 * A.length : Nat) : Int) + 2) = ((3 * A.length + 2 : Nat) : Int) := by rw [w64 (by omega) (by omega)]; omega
    have e3 : IntKind.wrap .i64 (((3 * A.length : Nat) : Int) + 3) = ((3 * (A ++ [x]).length : Nat) : Int) := by rw [w64 (by omega) (by omega)]; simp; omega
    have hL : (A ++ x :: T).flatMap three = A.flatMap three ++ (f1 x :: f2 x :: f3 x :: T.flatMap three) := by simp [three]
    have ll : (A.flatMap three ++ (f1 x :: f2 x :: f3 x :: T.flatMap three)).length = 3 * (A.length + (T.length + 1)) := by rw [← hL, hl]; simp
    have g0 : List.getD (A.flatMap three ++ (f1 x :: f2 x :: f3 x :: T.flatMap three)) (3 * A.length) 0 = f1 x := by rw [← hA]; simp [List.getD_eq_getElem?_getD]
    have g1 : List.getD (A.flatMap three ++ (f1 x :: f2 x :: f3 x :: T.flatMap three)) (3 * A.length + 1) 0 = f2 x := by rw [← hA]; simp [List.getD_eq_getElem?_getD]
    have g2 : List.getD (A.flatMap three ++ (f1 x :: f2 x :: f3 x :: T.flatMap three)) (3 * A.length + 2) 0 = f3 x := by rw [← hA]; simp [List.getD_eq_getElem?_getD]
    have ih := rd_in bs k1 k2 T (A ++ [x]) (by simp; omega) (fun r h => hr r (by simp [h])) (by simpa using hk)
    have i2 : A ++ [x] ++ T = A ++ x :: T := by simp
    rw [i2] at ih
    have e : ∀ f : R → Int, A.map f ++ [f x] = (A ++ [x]).map f := fun f => by simp
    show HL10_8 _ _ _ _ _ _ _ _ _
    unfold HL10_8
    rw [e1, e2, e3, hL]
    rw [hL] at ih
    rw [decide_eq_true (by omega : ((3 * A.length : Nat) : Int) < (((List.length (A.flatMap three ++ (f1 x :: f2 x :: f3 x :: T.flatMap three)) - (0 : Nat) : Nat)) : Int)), inbI (i := 3 * A.length + 1) (by omega), inbI (i := 3 * A.length + 2) (by omega), decide_eq_true (Int.natCast_nonneg _ : (0 : Int) ≤ ((3 * A.length : Nat) : Int))]
    generalize hg1 : List.getD (A.flatMap three ++ (f1 x :: f2 x :: f3 x :: T.flatMap three)) (Int.toNat ((3 * A.length : Nat) : Int)) 0 = v1
    generalize hg2 : List.getD (A.flatMap three ++ (f1 x :: f2 x :: f3 x :: T.flatMap three)) (Int.toNat ((3 * A.length + 1 : Nat) : Int)) 0 = v2
    generalize hg3 : List.getD (A.flatMap three ++ (f1 x :: f2 x :: f3 x :: T.flatMap three)) (Int.toNat ((3 * A.length + 2 : Nat) : Int)) 0 = v3
    obtain rfl : v1 = f1 x := by rw [← hg1, Int.toNat_natCast]; exact g0
    obtain rfl : v2 = f2 x := by rw [← hg2, Int.toNat_natCast]; exact g1
    obtain rfl : v3 = f3 x := by rw [← hg3, Int.toNat_natCast]; exact g2
    rw [decide_eq_true (by simp; omega : (List.length (A.map f1) - 0 + 1) * 24 ≤ 140737488355328), decide_eq_true (by simp; omega : List.length (A.map f1) - 0 + 1 ≤ 140737488355328), decide_eq_true (show f1 x ≥ 0 from q1), decide_eq_true q2, decide_eq_true (show f3 x ≥ -140737488355328 from q4), decide_eq_true q5, e f1, e f2, e f3]
    simp only [beq_self_eq_true, Bool.and_true, Bool.and_self, Bool.not_true, cond_true, cond_false]
    rcases q3 with q3 | q3
    · rw [(by simpa using q3 : (f2 x == 8) = true)]
      exact ih
    · rw [(by rw [q3]; rfl : (f2 x == 8) = false), (by simpa using q3 : (f2 x == 37) = true)]
      exact ih
theorem h10 {bs : List Int} {k : KK} {e1 e2 : Prop} (h : rdS bs k) : F10 GL10_8 bs e1 e2 k := by
  obtain ⟨rs, rfl, ⟨hs, hr⟩, hk⟩ := h
  have hl := enc_len rs
  have h3 := three_len rs
  unfold F10
  rw [decide_eq_false (by rw [hl]; omega : ¬ (((List.length (rs.flatMap encR) - (0 : Nat) : Nat)) : Int) > 96000)]
  refine ⟨rs.flatMap three, (three_enc rs).symm, ?_, by omega, ?_⟩
  · intro n hn
    obtain ⟨r, hr1, hr2⟩ := List.mem_flatMap.1 hn
    obtain ⟨q1, q2, q3, q4, q5⟩ := hr r hr1
    unfold inI
    simp only [three, List.mem_cons, List.not_mem_nil, or_false] at hr2
    omega
  · have e : (Int.tmod (((List.length (rs.flatMap three) - (0 : Nat) : Nat)) : Int) 3 != 0) = false := by
      rw [h3, Int.tmod_eq_emod_of_nonneg (by omega)]; simp <;> omega
    dsimp only
    rw [e]
    exact ⟨rfl, rs.length + 1, rd_in _ _ k rs [] (by simpa using hs) hr hk⟩
def P10 : Prim := fun args m K =>
  match args, m with
  | [.sl 0 0 none none], [⟨[.ints .u8 bs], e, false, false⟩] =>
    (match Nat.beq e 5 with | true => rdS bs (fun xs ts ns => K (.tup [.sl 1 0 none none, .I .i64 0]) [⟨[.ints .u8 bs], 5, false, false⟩, ⟨[.ints .i64 xs, .ints .i64 ts, .ints .i64 ns], 47, false, true⟩]) | false => False)
  | _, _ => False
theorem P10_ok : PrimOk Tryz.prog 10 P10 := by
  intro args m K E w cargs hS ha h
  unfold P10 at h
  split at h
  · rename_i bs e
    split at h
    · rename_i he
      obtain rfl := Nat.eq_of_beq_eq_true he
      exact cbody_use named C7_ok at10 (l := 1) rfl (WL10_8_ok (LoopsOk.none _ _)) (F10_ok GL10_8 bs K) hS ha (h10 h)
    · cases h
  · cases h
end Go.Proofs.YtgflbmcmkjkmmaaGreat.so
