import Derived.Test.YtgflbmcmkjkmmaaGreatSrB
set_option linter.unusedVariables false
set_option linter.unusedSimpArgs false
set_option maxHeartbeats 4000000
set_option maxRecDepth 100000
namespace Go.Proofs.YtgflbmcmkjkmmaaGreat.so
open Go Go.Ab Go.So
def primsD : Prims := fun f =>
  match Nat.beq f 16 with
  | true => some P16b
  | false => primsB f
theorem primsD_ok : PrimsOk Tryz.prog primsD := by
  intro f g hg
  unfold primsD at hg
  split at hg
  · rename_i hf
    obtain rfl := Nat.eq_of_beq_eq_true hf
    cases hg
    exact P16b_ok
  · skip
    exact primsB_ok f g hg
def CD : CC := call Tryz.prog primsD 1000
theorem CD_ok : CallsOk Tryz.prog CD := call_sound named primsD_ok 1000
namespace r
abbrev YL10_8 : Type := Code → Int → List Int → List Int → List Int → List Int → List Int → (List Int → List Int → List Int → Prop) → (List Int → List Int → List Int → Prop) → Prop
set_option maxHeartbeats 4000000 in
set_option maxRecDepth 100000 in
def HL10_8  (rec : Int → List Int → List Int → List Int → Prop) (i_7 : Int) (xs_m_0_0 : List Int) (xs_m_1_0 : List Int) (xs_m_2_0 : List Int) (xs_m_2_1 : List Int) (xs_m_2_2 : List Int) (k1 : List Int → List Int → List Int → Prop) (k2 : List Int → List Int → List Int → Prop) : Prop :=
  (bif (decide (i_7 < ((((List.length xs_m_1_0) - (0 : Nat)) : Nat) : Int))) then (bif ((decide ((0 : Int) ≤ i_7)) && (decide (i_7 < ((((List.length xs_m_1_0) - (0 : Nat)) : Nat) : Int)))) then (bif ((decide ((0 : Int) ≤ (IntKind.wrap .i64 (i_7 + (1 : Int))))) && (decide ((IntKind.wrap .i64 (i_7 + (1 : Int))) < ((((List.length xs_m_1_0) - (0 : Nat)) : Nat) : Int)))) then (bif ((decide ((0 : Int) ≤ (IntKind.wrap .i64 (i_7 + (2 : Int))))) && (decide ((IntKind.wrap .i64 (i_7 + (2 : Int))) < ((((List.length xs_m_1_0) - (0 : Nat)) : Nat) : Int)))) then (bif ((((List.getD xs_m_1_0 (Int.toNat i_7) (0 : Int)) == (List.getD xs_m_1_0 (Int.toNat i_7) (0 : Int))) && (((List.getD xs_m_1_0 (Int.toNat (IntKind.wrap .i64 (i_7 + (1 : Int)))) (0 : Int)) == (List.getD xs_m_1_0 (Int.toNat (IntKind.wrap .i64 (i_7 + (1 : Int)))) (0 : Int))) && (((List.getD xs_m_1_0 (Int.toNat (IntKind.wrap .i64 (i_7 + (2 : Int)))) (0 : Int)) == (List.getD xs_m_1_0 (Int.toNat (IntKind.wrap .i64 (i_7 + (2 : Int)))) (0 : Int))) && true))) && (((List.getD xs_m_1_0 (Int.toNat (IntKind.wrap .i64 (i_7 + (2 : Int)))) (0 : Int)) == (List.getD xs_m_1_0 (Int.toNat (IntKind.wrap .i64 (i_7 + (2 : Int)))) (0 : Int))) && ((((decide ((0 : Int) ≤ (IntKind.wrap .i64 (i_7 + (2 : Int))))) && (decide ((IntKind.wrap .i64 (i_7 + (2 : Int))) < ((((List.length xs_m_1_0) - (0 : Nat)) : Nat) : Int)))) && (((Int.toNat (IntKind.wrap .i64 (i_7 + (2 : Int)))) == (Int.toNat (IntKind.wrap .i64 (i_7 + (2 : Int))))) && true)) && (((IntKind.wrap .i64 (i_7 + (2 : Int))) == (IntKind.wrap .i64 (i_7 + (2 : Int)))) && ((i_7 == i_7) && (((List.getD xs_m_1_0 (Int.toNat (IntKind.wrap .i64 (i_7 + (1 : Int)))) (0 : Int)) == (List.getD xs_m_1_0 (Int.toNat (IntKind.wrap .i64 (i_7 + (1 : Int)))) (0 : Int))) && ((((decide ((0 : Int) ≤ (IntKind.wrap .i64 (i_7 + (1 : Int))))) && (decide ((IntKind.wrap .i64 (i_7 + (1 : Int))) < ((((List.length xs_m_1_0) - (0 : Nat)) : Nat) : Int)))) && (((Int.toNat (IntKind.wrap .i64 (i_7 + (1 : Int)))) == (Int.toNat (IntKind.wrap .i64 (i_7 + (1 : Int))))) && true)) && (((IntKind.wrap .i64 (i_7 + (1 : Int))) == (IntKind.wrap .i64 (i_7 + (1 : Int)))) && ((i_7 == i_7) && (((List.getD xs_m_1_0 (Int.toNat i_7) (0 : Int)) == (List.getD xs_m_1_0 (Int.toNat i_7) (0 : Int))) && ((((decide ((0 : Int) ≤ i_7)) && (decide (i_7 < ((((List.length xs_m_1_0) - (0 : Nat)) : Nat) : Int)))) && (((Int.toNat i_7) == (Int.toNat i_7)) && true)) && ((i_7 == i_7) && true)))))))))))) then (bif (decide ((List.getD xs_m_1_0 (Int.toNat i_7) (0 : Int)) ≥ (0 : Int))) then (bif (decide ((List.getD xs_m_1_0 (Int.toNat i_7) (0 : Int)) ≤ (140737488355328 : Int))) then (bif ((List.getD xs_m_1_0 (Int.toNat (IntKind.wrap .i64 (i_7 + (1 : Int)))) (0 : Int)) == (8 : Int)) then (bif (decide ((List.getD xs_m_1_0 (Int.toNat (IntKind.wrap .i64 (i_7 + (2 : Int)))) (0 : Int)) ≥ (-140737488355328 : Int))) then (bif (!(decide ((List.getD xs_m_1_0 (Int.toNat (IntKind.wrap .i64 (i_7 + (2 : Int)))) (0 : Int)) ≤ (140737488355328 : Int)))) then (k1 xs_m_2_0 xs_m_2_1 xs_m_2_2) else (bif ((decide (((((List.length xs_m_2_0) - (0 : Nat)) + (1 : Nat)) * (24 : Nat)) ≤ (140737488355328 : Nat))) && (decide ((((List.length xs_m_2_0) - (0 : Nat)) + (1 : Nat)) ≤ (140737488355328 : Nat)))) then (rec (IntKind.wrap .i64 (i_7 + (3 : Int))) (xs_m_2_0 ++ ([(List.getD xs_m_1_0 (Int.toNat i_7) (0 : Int))] : List Int)) (xs_m_2_1 ++ ([(List.getD xs_m_1_0 (Int.toNat (IntKind.wrap .i64 (i_7 + (1 : Int)))) (0 : Int))] : List Int)) (xs_m_2_2 ++ ([(List.getD xs_m_1_0 (Int.toNat (IntKind.wrap .i64 (i_7 + (2 : Int)))) (0 : Int))] : List Int))) else False)) else (k1 xs_m_2_0 xs_m_2_1 xs_m_2_2)) else (bif ((List.getD xs_m_1_0 (Int.toNat (IntKind.wrap .i64 (i_7 + (1 : Int)))) (0 : Int)) == (37 : Int)) then (bif (decide ((List.getD xs_m_1_0 (Int.toNat (IntKind.wrap .i64 (i_7 + (2 : Int)))) (0 : Int)) ≥ (-140737488355328 : Int))) then (bif (!(decide ((List.getD xs_m_1_0 (Int.toNat (IntKind.wrap .i64 (i_7 + (2 : Int)))) (0 : Int)) ≤ (140737488355328 : Int)))) then (k1 xs_m_2_0 xs_m_2_1 xs_m_2_2) else (bif ((decide (((((List.length xs_m_2_0) - (0 : Nat)) + (1 : Nat)) * (24 : Nat)) ≤ (140737488355328 : Nat))) && (decide ((((List.length xs_m_2_0) - (0 : Nat)) + (1 : Nat)) ≤ (140737488355328 : Nat)))) then (rec (IntKind.wrap .i64 (i_7 + (3 : Int))) (xs_m_2_0 ++ ([(List.getD xs_m_1_0 (Int.toNat i_7) (0 : Int))] : List Int)) (xs_m_2_1 ++ ([(List.getD xs_m_1_0 (Int.toNat (IntKind.wrap .i64 (i_7 + (1 : Int)))) (0 : Int))] : List Int)) (xs_m_2_2 ++ ([(List.getD xs_m_1_0 (Int.toNat (IntKind.wrap .i64 (i_7 + (2 : Int)))) (0 : Int))] : List Int))) else False)) else (k1 xs_m_2_0 xs_m_2_1 xs_m_2_2)) else (k1 xs_m_2_0 xs_m_2_1 xs_m_2_2))) else (k1 xs_m_2_0 xs_m_2_1 xs_m_2_2)) else (k1 xs_m_2_0 xs_m_2_1 xs_m_2_2)) else False) else False) else False) else False) else (k2 xs_m_2_0 xs_m_2_1 xs_m_2_2))
def RL10_8  : Nat → Int → List Int → List Int → List Int → List Int → List Int → (List Int → List Int → List Int → Prop) → (List Int → List Int → List Int → Prop) → Prop
  | 0, _, _, _, _, _, _, _, _ => False
  | n + 1, i_7, xs_m_0_0, xs_m_1_0, xs_m_2_0, xs_m_2_1, xs_m_2_2, k1, k2 => HL10_8  (fun (i_7 : Int) (xs_m_2_0 : List Int) (xs_m_2_1 : List Int) (xs_m_2_2 : List Int) => RL10_8  n i_7 xs_m_0_0 xs_m_1_0 xs_m_2_0 xs_m_2_1 xs_m_2_2 k1 k2) i_7 xs_m_0_0 xs_m_1_0 xs_m_2_0 xs_m_2_1 xs_m_2_2 k1 k2
noncomputable def XL10_8 : Code := sub [true, true, true, true, true, false, true, false, false] (bodyOf Tryz.prog 10)
theorem HL10_8_ok  (n : Nat) (i_7 : Int) (xs_m_0_0 : List Int) (xs_m_1_0 : List Int) (xs_m_2_0 : List Int) (xs_m_2_1 : List Int) (xs_m_2_2 : List Int) (K : Ex → Env → Mem → Prop) : cround 1 [4, 6, 7] [2, 3, 6] (fun ρ m K => cexec Tryz.prog CD (fun _ => none) 1 1000 XL10_8 ρ m K) (n + 1) (selE 54 [(4, (.sl 1 (0 : Nat) (none : Option Nat) (none : Option Nat))), (6, (.sl 2 (0 : Nat) (none : Option Nat) (none : Option Nat))), (7, (.I .i64 i_7))]) [⟨[.ints .u8 xs_m_0_0], 5, false, false⟩, ⟨[.ints .i64 xs_m_1_0], 3, false, true⟩, ⟨[.ints .i64 xs_m_2_0, .ints .i64 xs_m_2_1, .ints .i64 xs_m_2_2], 47, false, true⟩] K =
    HL10_8  (fun (i_7 : Int) (xs_m_2_0 : List Int) (xs_m_2_1 : List Int) (xs_m_2_2 : List Int) => cround 1 [4, 6, 7] [2, 3, 6] (fun ρ m K => cexec Tryz.prog CD (fun _ => none) 1 1000 XL10_8 ρ m K) n (selE 54 [(4, (.sl 1 (0 : Nat) (none : Option Nat) (none : Option Nat))), (6, (.sl 2 (0 : Nat) (none : Option Nat) (none : Option Nat))), (7, (.I .i64 i_7))]) [⟨[.ints .u8 xs_m_0_0], 5, false, false⟩, ⟨[.ints .i64 xs_m_1_0], 3, false, true⟩, ⟨[.ints .i64 xs_m_2_0, .ints .i64 xs_m_2_1, .ints .i64 xs_m_2_2], 47, false, true⟩] K) i_7 xs_m_0_0 xs_m_1_0 xs_m_2_0 xs_m_2_1 xs_m_2_2 (fun (u0 : List Int) (u1 : List Int) (u2 : List Int) => K .ret (selE 54 [(2, .nils), (3, (.I .i64 (200 : Int))), (6, (.sl 1 (0 : Nat) (none : Option Nat) (none : Option Nat)))]) [⟨[.ints .u8 xs_m_0_0], 5, false, false⟩, ⟨[.ints .i64 u0, .ints .i64 u1, .ints .i64 u2], 47, false, true⟩]) (fun (u0 : List Int) (u1 : List Int) (u2 : List Int) => K (.exit 0) (selE 54 [(2, .undef), (3, .undef), (6, (.sl 1 (0 : Nat) (none : Option Nat) (none : Option Nat)))]) [⟨[.ints .u8 xs_m_0_0], 5, false, false⟩, ⟨[.ints .i64 u0, .ints .i64 u1, .ints .i64 u2], 47, false, true⟩]) := by kernel_rfl
theorem RL10_8_ok  (K : Ex → Env → Mem → Prop) : ∀ (n : Nat) (i_7 : Int) (xs_m_0_0 : List Int) (xs_m_1_0 : List Int) (xs_m_2_0 : List Int) (xs_m_2_1 : List Int) (xs_m_2_2 : List Int), cround 1 [4, 6, 7] [2, 3, 6] (fun ρ m K => cexec Tryz.prog CD (fun _ => none) 1 1000 XL10_8 ρ m K) n (selE 54 [(4, (.sl 1 (0 : Nat) (none : Option Nat) (none : Option Nat))), (6, (.sl 2 (0 : Nat) (none : Option Nat) (none : Option Nat))), (7, (.I .i64 i_7))]) [⟨[.ints .u8 xs_m_0_0], 5, false, false⟩, ⟨[.ints .i64 xs_m_1_0], 3, false, true⟩, ⟨[.ints .i64 xs_m_2_0, .ints .i64 xs_m_2_1, .ints .i64 xs_m_2_2], 47, false, true⟩] K = RL10_8  n i_7 xs_m_0_0 xs_m_1_0 xs_m_2_0 xs_m_2_1 xs_m_2_2 (fun (u0 : List Int) (u1 : List Int) (u2 : List Int) => K .ret (selE 54 [(2, .nils), (3, (.I .i64 (200 : Int))), (6, (.sl 1 (0 : Nat) (none : Option Nat) (none : Option Nat)))]) [⟨[.ints .u8 xs_m_0_0], 5, false, false⟩, ⟨[.ints .i64 u0, .ints .i64 u1, .ints .i64 u2], 47, false, true⟩]) (fun (u0 : List Int) (u1 : List Int) (u2 : List Int) => K (.exit 0) (selE 54 [(2, .undef), (3, .undef), (6, (.sl 1 (0 : Nat) (none : Option Nat) (none : Option Nat)))]) [⟨[.ints .u8 xs_m_0_0], 5, false, false⟩, ⟨[.ints .i64 u0, .ints .i64 u1, .ints .i64 u2], 47, false, true⟩])
  | 0, i_7, xs_m_0_0, xs_m_1_0, xs_m_2_0, xs_m_2_1, xs_m_2_2 => rfl
  | n + 1, i_7, xs_m_0_0, xs_m_1_0, xs_m_2_0, xs_m_2_1, xs_m_2_2 => by
    have ih := RL10_8_ok  K n
    rw [HL10_8_ok  n i_7 xs_m_0_0 xs_m_1_0 xs_m_2_0 xs_m_2_1 xs_m_2_2 K]
    show HL10_8  _ i_7 xs_m_0_0 xs_m_1_0 xs_m_2_0 xs_m_2_1 xs_m_2_2 (fun (u0 : List Int) (u1 : List Int) (u2 : List Int) => K .ret (selE 54 [(2, .nils), (3, (.I .i64 (200 : Int))), (6, (.sl 1 (0 : Nat) (none : Option Nat) (none : Option Nat)))]) [⟨[.ints .u8 xs_m_0_0], 5, false, false⟩, ⟨[.ints .i64 u0, .ints .i64 u1, .ints .i64 u2], 47, false, true⟩]) (fun (u0 : List Int) (u1 : List Int) (u2 : List Int) => K (.exit 0) (selE 54 [(2, .undef), (3, .undef), (6, (.sl 1 (0 : Nat) (none : Option Nat) (none : Option Nat)))]) [⟨[.ints .u8 xs_m_0_0], 5, false, false⟩, ⟨[.ints .i64 u0, .ints .i64 u1, .ints .i64 u2], 47, false, true⟩]) = HL10_8  _ i_7 xs_m_0_0 xs_m_1_0 xs_m_2_0 xs_m_2_1 xs_m_2_2 (fun (u0 : List Int) (u1 : List Int) (u2 : List Int) => K .ret (selE 54 [(2, .nils), (3, (.I .i64 (200 : Int))), (6, (.sl 1 (0 : Nat) (none : Option Nat) (none : Option Nat)))]) [⟨[.ints .u8 xs_m_0_0], 5, false, false⟩, ⟨[.ints .i64 u0, .ints .i64 u1, .ints .i64 u2], 47, false, true⟩]) (fun (u0 : List Int) (u1 : List Int) (u2 : List Int) => K (.exit 0) (selE 54 [(2, .undef), (3, .undef), (6, (.sl 1 (0 : Nat) (none : Option Nat) (none : Option Nat)))]) [⟨[.ints .u8 xs_m_0_0], 5, false, false⟩, ⟨[.ints .i64 u0, .ints .i64 u1, .ints .i64 u2], 47, false, true⟩])
    refine congrArg (fun r => HL10_8  r i_7 xs_m_0_0 xs_m_1_0 xs_m_2_0 xs_m_2_1 xs_m_2_2 (fun (u0 : List Int) (u1 : List Int) (u2 : List Int) => K .ret (selE 54 [(2, .nils), (3, (.I .i64 (200 : Int))), (6, (.sl 1 (0 : Nat) (none : Option Nat) (none : Option Nat)))]) [⟨[.ints .u8 xs_m_0_0], 5, false, false⟩, ⟨[.ints .i64 u0, .ints .i64 u1, .ints .i64 u2], 47, false, true⟩]) (fun (u0 : List Int) (u1 : List Int) (u2 : List Int) => K (.exit 0) (selE 54 [(2, .undef), (3, .undef), (6, (.sl 1 (0 : Nat) (none : Option Nat) (none : Option Nat)))]) [⟨[.ints .u8 xs_m_0_0], 5, false, false⟩, ⟨[.ints .i64 u0, .ints .i64 u1, .ints .i64 u2], 47, false, true⟩])) ?_
    funext i_7 xs_m_2_0 xs_m_2_1 xs_m_2_2
    exact ih i_7 xs_m_0_0 xs_m_1_0 xs_m_2_0 xs_m_2_1 xs_m_2_2
def GL10_8 : YL10_8 := fun x i_7 xs_m_0_0 xs_m_1_0 xs_m_2_0 xs_m_2_1 xs_m_2_2 k1 k2 => x = XL10_8 ∧ ∃ n, RL10_8  n i_7 xs_m_0_0 xs_m_1_0 xs_m_2_0 xs_m_2_1 xs_m_2_2 k1 k2
def FL10_8 : List Fil := [.slot 6 ⟨[.ints .i64 ([] : List Int), .ints .i64 ([] : List Int), .ints .i64 ([] : List Int)], 47, false, true⟩]
def VL10_8 (l : YL10_8) (F : Prop) (x : Code) (ρ : Env) (m : Mem) (K : Ex → Env → Mem → Prop) : Prop :=
  match ρ.has (54 - 1) with
  | true => (seeV (.sl 1 (0 : Nat) (none : Option Nat) (none : Option Nat)) (ρ.get 4) F (seeV (.sl 2 (0 : Nat) (none : Option Nat) (none : Option Nat)) (ρ.get 6) F (seeI .i64 (ρ.get 7) F fun i_7 => (seeCons m F fun a4 q5 => (seeBlk 5 false false a4 F fun cs6 => (seeCons cs6 F fun a7 q8 => (seeInts .u8 a7 F fun xs_m_0_0 => (seeNil q8 F (seeCons q5 F fun a9 q10 => (seeBlk 3 false true a9 F fun cs11 => (seeCons cs11 F fun a12 q13 => (seeInts .i64 a12 F fun xs_m_1_0 => (seeNil q13 F (seeCons q10 F fun a14 q15 => (seeBlk 47 false true a14 F fun cs16 => (seeCons cs16 F fun a17 q18 => (seeInts .i64 a17 F fun xs_m_2_0 => (seeCons q18 F fun a19 q20 => (seeInts .i64 a19 F fun xs_m_2_1 => (seeCons q20 F fun a21 q22 => (seeInts .i64 a21 F fun xs_m_2_2 => (seeNil q22 F (seeNil q15 F (l x i_7 xs_m_0_0 xs_m_1_0 xs_m_2_0 xs_m_2_1 xs_m_2_2 (fun (u0 : List Int) (u1 : List Int) (u2 : List Int) => K .ret (selE 54 [(2, .nils), (3, (.I .i64 (200 : Int))), (6, (.sl 1 (0 : Nat) (none : Option Nat) (none : Option Nat)))]) [⟨[.ints .u8 xs_m_0_0], 5, false, false⟩, ⟨[.ints .i64 u0, .ints .i64 u1, .ints .i64 u2], 47, false, true⟩]) (fun (u0 : List Int) (u1 : List Int) (u2 : List Int) => K (.exit 0) (selE 54 [(2, .undef), (3, .undef), (6, (.sl 1 (0 : Nat) (none : Option Nat) (none : Option Nat)))]) [⟨[.ints .u8 xs_m_0_0], 5, false, false⟩, ⟨[.ints .i64 u0, .ints .i64 u1, .ints .i64 u2], 47, false, true⟩])))))))))))))))))))))))))
  | false => False
def WL10_8 (l : YL10_8) (W : Masks) : Masks := fun r =>
  match Nat.beq r 8 with
  | true => some fun x ρ m K => VL10_8 l (match W r with | some lf => lf x ρ m K | none => False) x (tidyE 1 [4, 6, 7] (fil FL10_8 ρ m).1 (fil FL10_8 ρ m).2) (tidyM 1 [4, 6, 7] (fil FL10_8 ρ m).1 (fil FL10_8 ρ m).2) K
  | false => W r
set_option maxRecDepth 100000 in
theorem WL10_8_ok {W : Masks} (hW : LoopsOk Tryz.prog 1 W) : LoopsOk Tryz.prog 1 (WL10_8 GL10_8 W) := by
  intro r lf h
  unfold WL10_8 at h
  split at h
  · cases h
    intro x E0 m0 w0 J hS0 ha hJ ρ m K E a w Q hS hρ hd h hQ
    have fb : (match W r with | some lf => lf x ρ m K | none => False) → (Code.loop x).wp Tryz.prog Q a w := fun h => by
      split at h
      · rename_i lf hlf
        exact hW r lf hlf x hS0 ha hJ ρ m K E a w Q hS hρ hd h hQ
      · cases h
    obtain ⟨E1, hS1, hρ1⟩ := fil_step hS hρ FL10_8
    obtain ⟨E2, hS2, hρ2⟩ := tidy_rel hS0 hS1 hρ1 [4, 6, 7]
    rw [ha] at hS2 hρ2
    unfold VL10_8 at h
    split at h
    · rename_i hlen
      replace h := seeV_use h
      rcases h with h | ⟨e1, h⟩
      · exact fb h
      replace h := seeV_use h
      rcases h with h | ⟨e2, h⟩
      · exact fb h
      replace h := seeI_use h
      rcases h with h | ⟨i_7, e3, h⟩
      · exact fb h
      replace h := seeCons_use h
      rcases h with h | ⟨a4, q5, eqm, h⟩
      · exact fb h
      replace h := seeBlk_use h
      rcases h with h | ⟨cs6, rfl, h⟩
      · exact fb h
      replace h := seeCons_use h
      rcases h with h | ⟨a7, q8, rfl, h⟩
      · exact fb h
      replace h := seeInts_use h
      rcases h with h | ⟨xs_m_0_0, rfl, h⟩
      · exact fb h
      replace h := seeNil_use h
      rcases h with h | ⟨rfl, h⟩
      · exact fb h
      replace h := seeCons_use h
      rcases h with h | ⟨a9, q10, rfl, h⟩
      · exact fb h
      replace h := seeBlk_use h
      rcases h with h | ⟨cs11, rfl, h⟩
      · exact fb h
      replace h := seeCons_use h
      rcases h with h | ⟨a12, q13, rfl, h⟩
      · exact fb h
      replace h := seeInts_use h
      rcases h with h | ⟨xs_m_1_0, rfl, h⟩
      · exact fb h
      replace h := seeNil_use h
      rcases h with h | ⟨rfl, h⟩
      · exact fb h
      replace h := seeCons_use h
      rcases h with h | ⟨a14, q15, rfl, h⟩
      · exact fb h
      replace h := seeBlk_use h
      rcases h with h | ⟨cs16, rfl, h⟩
      · exact fb h
      replace h := seeCons_use h
      rcases h with h | ⟨a17, q18, rfl, h⟩
      · exact fb h
      replace h := seeInts_use h
      rcases h with h | ⟨xs_m_2_0, rfl, h⟩
      · exact fb h
      replace h := seeCons_use h
      rcases h with h | ⟨a19, q20, rfl, h⟩
      · exact fb h
      replace h := seeInts_use h
      rcases h with h | ⟨xs_m_2_1, rfl, h⟩
      · exact fb h
      replace h := seeCons_use h
      rcases h with h | ⟨a21, q22, rfl, h⟩
      · exact fb h
      replace h := seeInts_use h
      rcases h with h | ⟨xs_m_2_2, rfl, h⟩
      · exact fb h
      replace h := seeNil_use h
      rcases h with h | ⟨rfl, h⟩
      · exact fb h
      replace h := seeNil_use h
      rcases h with h | ⟨rfl, h⟩
      · exact fb h
      obtain ⟨rfl, n, h⟩ := h
      exact loop_use named CD_ok (LoopsOk.none _ _) (RL10_8_ok  K n _ _ _ _ _ _) h hS0 ha hJ hlen ⟨e1, e2, e3, trivial⟩ (eqm ▸ hS2) hρ2 hd hQ
    · cases h
  · exact hW r lf h
theorem at10 : Tryz.prog.funcs[10]? = some (fnOf Tryz.prog 10) := by kernel_rfl
abbrev Y10 : Type := List Int → (Prop) → (Prop) → (List Int → List Int → List Int → Prop) → Prop
set_option maxHeartbeats 4000000 in
set_option maxRecDepth 100000 in
def F10  (l10_8 : YL10_8) (bs : List Int) (k1 : Prop) (k2 : Prop) (k3 : List Int → List Int → List Int → Prop) : Prop :=
  (bif (decide (((((List.length bs) - (0 : Nat)) : Nat) : Int) > (96000 : Int))) then (k1) else (arrS2 bs (fun (ar1 : List Int) (ac2 : Int) => (bif (ac2 != (0 : Int)) then (k2) else (bif ((Int.tmod ((((List.length ar1) - (0 : Nat)) : Nat) : Int) (3 : Int)) != (0 : Int)) then (k2) else (l10_8 XL10_8 (0 : Int) bs ar1 ([] : List Int) ([] : List Int) ([] : List Int) (fun (xs3 : List Int) (xs4 : List Int) (xs5 : List Int) => (k2)) (fun (xs6 : List Int) (xs7 : List Int) (xs8 : List Int) => (k3 xs6 xs7 xs8))))))))
theorem F10_ok  (l10_8 : YL10_8) (bs : List Int) (K : V → Mem → Prop) : cbody Tryz.prog CD (WL10_8 l10_8 (fun _ => none)) 1000 (fnOf Tryz.prog 10) [(.sl 0 (0 : Nat) (none : Option Nat) (none : Option Nat))] [⟨[.ints .u8 bs], 5, false, false⟩] K =
    F10  l10_8 bs (K (.tup [.nils, (.I .i64 (6 : Int))]) [⟨[.ints .u8 bs], 5, false, false⟩]) (K (.tup [.nils, (.I .i64 (200 : Int))]) [⟨[.ints .u8 bs], 5, false, false⟩]) (fun (u0 : List Int) (u1 : List Int) (u2 : List Int) => K (.tup [(.sl 1 (0 : Nat) (none : Option Nat) (none : Option Nat)), (.I .i64 (0 : Int))]) [⟨[.ints .u8 bs], 5, false, false⟩, ⟨[.ints .i64 u0, .ints .i64 u1, .ints .i64 u2], 47, false, true⟩]) := by kernel_rfl
abbrev YL11_7 : Type := Code → Int → List Int → List Int → List Int → List Int → (List Int → List Int → List Int → Prop) → (List Int → List Int → List Int → Prop) → Prop
set_option maxHeartbeats 4000000 in
set_option maxRecDepth 100000 in
def HL11_7  (rec : Int → List Int → List Int → List Int → Prop) (i_5 : Int) (xs_m_0_0 : List Int) (xs_m_1_0 : List Int) (xs_m_1_1 : List Int) (xs_m_1_2 : List Int) (k1 : List Int → List Int → List Int → Prop) (k2 : List Int → List Int → List Int → Prop) : Prop :=
  (bif (decide (i_5 < ((((List.length xs_m_0_0) - (0 : Nat)) : Nat) : Int))) then (getS xs_m_0_0 i_5 (fun (gn4 : Int) => (getS xs_m_0_0 (IntKind.wrap .i64 (i_5 + (8 : Int))) (fun (gn5 : Int) => (getS xs_m_0_0 (IntKind.wrap .i64 (i_5 + (16 : Int))) (fun (gn6 : Int) => (bif (decide (gn4 ≥ (0 : Int))) then (bif (decide (gn4 ≤ (140737488355328 : Int))) then (bif (gn5 == (8 : Int)) then (bif (decide (gn6 ≥ (-140737488355328 : Int))) then (bif (!(decide (gn6 ≤ (140737488355328 : Int)))) then (k1 xs_m_1_0 xs_m_1_1 xs_m_1_2) else (bif ((decide (((((List.length xs_m_1_0) - (0 : Nat)) + (1 : Nat)) * (24 : Nat)) ≤ (140737488355328 : Nat))) && (decide ((((List.length xs_m_1_0) - (0 : Nat)) + (1 : Nat)) ≤ (140737488355328 : Nat)))) then (rec (IntKind.wrap .i64 (i_5 + (24 : Int))) (xs_m_1_0 ++ ([gn4] : List Int)) (xs_m_1_1 ++ ([gn5] : List Int)) (xs_m_1_2 ++ ([gn6] : List Int))) else False)) else (k1 xs_m_1_0 xs_m_1_1 xs_m_1_2)) else (bif (gn5 == (37 : Int)) then (bif (decide (gn6 ≥ (-140737488355328 : Int))) then (bif (!(decide (gn6 ≤ (140737488355328 : Int)))) then (k1 xs_m_1_0 xs_m_1_1 xs_m_1_2) else (bif ((decide (((((List.length xs_m_1_0) - (0 : Nat)) + (1 : Nat)) * (24 : Nat)) ≤ (140737488355328 : Nat))) && (decide ((((List.length xs_m_1_0) - (0 : Nat)) + (1 : Nat)) ≤ (140737488355328 : Nat)))) then (rec (IntKind.wrap .i64 (i_5 + (24 : Int))) (xs_m_1_0 ++ ([gn4] : List Int)) (xs_m_1_1 ++ ([gn5] : List Int)) (xs_m_1_2 ++ ([gn6] : List Int))) else False)) else (k1 xs_m_1_0 xs_m_1_1 xs_m_1_2)) else (k1 xs_m_1_0 xs_m_1_1 xs_m_1_2))) else (k1 xs_m_1_0 xs_m_1_1 xs_m_1_2)) else (k1 xs_m_1_0 xs_m_1_1 xs_m_1_2)))))))) else (k2 xs_m_1_0 xs_m_1_1 xs_m_1_2))
def RL11_7  : Nat → Int → List Int → List Int → List Int → List Int → (List Int → List Int → List Int → Prop) → (List Int → List Int → List Int → Prop) → Prop
  | 0, _, _, _, _, _, _, _ => False
  | n + 1, i_5, xs_m_0_0, xs_m_1_0, xs_m_1_1, xs_m_1_2, k1, k2 => HL11_7  (fun (i_5 : Int) (xs_m_1_0 : List Int) (xs_m_1_1 : List Int) (xs_m_1_2 : List Int) => RL11_7  n i_5 xs_m_0_0 xs_m_1_0 xs_m_1_1 xs_m_1_2 k1 k2) i_5 xs_m_0_0 xs_m_1_0 xs_m_1_1 xs_m_1_2 k1 k2
noncomputable def XL11_7 : Code := sub [true, true, true, true, false, true, false, false] (bodyOf Tryz.prog 11)
theorem HL11_7_ok  (n : Nat) (i_5 : Int) (xs_m_0_0 : List Int) (xs_m_1_0 : List Int) (xs_m_1_1 : List Int) (xs_m_1_2 : List Int) (K : Ex → Env → Mem → Prop) : cround 1 [0, 4, 5] [2, 3, 4] (fun ρ m K => cexec Tryz.prog CD (fun _ => none) 1 1000 XL11_7 ρ m K) (n + 1) (selE 51 [(0, (.sl 0 (0 : Nat) (none : Option Nat) (none : Option Nat))), (4, (.sl 1 (0 : Nat) (none : Option Nat) (none : Option Nat))), (5, (.I .i64 i_5))]) [⟨[.ints .u8 xs_m_0_0], 5, true, false⟩, ⟨[.ints .i64 xs_m_1_0, .ints .i64 xs_m_1_1, .ints .i64 xs_m_1_2], 53, false, true⟩] K =
    HL11_7  (fun (i_5 : Int) (xs_m_1_0 : List Int) (xs_m_1_1 : List Int) (xs_m_1_2 : List Int) => cround 1 [0, 4, 5] [2, 3, 4] (fun ρ m K => cexec Tryz.prog CD (fun _ => none) 1 1000 XL11_7 ρ m K) n (selE 51 [(0, (.sl 0 (0 : Nat) (none : Option Nat) (none : Option Nat))), (4, (.sl 1 (0 : Nat) (none : Option Nat) (none : Option Nat))), (5, (.I .i64 i_5))]) [⟨[.ints .u8 xs_m_0_0], 5, true, false⟩, ⟨[.ints .i64 xs_m_1_0, .ints .i64 xs_m_1_1, .ints .i64 xs_m_1_2], 53, false, true⟩] K) i_5 xs_m_0_0 xs_m_1_0 xs_m_1_1 xs_m_1_2 (fun (u0 : List Int) (u1 : List Int) (u2 : List Int) => K .ret (selE 51 [(2, .nils), (3, (.I .i64 (200 : Int))), (4, (.sl 1 (0 : Nat) (none : Option Nat) (none : Option Nat)))]) [⟨[.ints .u8 xs_m_0_0], 5, true, false⟩, ⟨[.ints .i64 u0, .ints .i64 u1, .ints .i64 u2], 53, false, true⟩]) (fun (u0 : List Int) (u1 : List Int) (u2 : List Int) => K (.exit 0) (selE 51 [(2, .undef), (3, .undef), (4, (.sl 1 (0 : Nat) (none : Option Nat) (none : Option Nat)))]) [⟨[.ints .u8 xs_m_0_0], 5, true, false⟩, ⟨[.ints .i64 u0, .ints .i64 u1, .ints .i64 u2], 53, false, true⟩]) := by kernel_rfl
theorem RL11_7_ok  (K : Ex → Env → Mem → Prop) : ∀ (n : Nat) (i_5 : Int) (xs_m_0_0 : List Int) (xs_m_1_0 : List Int) (xs_m_1_1 : List Int) (xs_m_1_2 : List Int), cround 1 [0, 4, 5] [2, 3, 4] (fun ρ m K => cexec Tryz.prog CD (fun _ => none) 1 1000 XL11_7 ρ m K) n (selE 51 [(0, (.sl 0 (0 : Nat) (none : Option Nat) (none : Option Nat))), (4, (.sl 1 (0 : Nat) (none : Option Nat) (none : Option Nat))), (5, (.I .i64 i_5))]) [⟨[.ints .u8 xs_m_0_0], 5, true, false⟩, ⟨[.ints .i64 xs_m_1_0, .ints .i64 xs_m_1_1, .ints .i64 xs_m_1_2], 53, false, true⟩] K = RL11_7  n i_5 xs_m_0_0 xs_m_1_0 xs_m_1_1 xs_m_1_2 (fun (u0 : List Int) (u1 : List Int) (u2 : List Int) => K .ret (selE 51 [(2, .nils), (3, (.I .i64 (200 : Int))), (4, (.sl 1 (0 : Nat) (none : Option Nat) (none : Option Nat)))]) [⟨[.ints .u8 xs_m_0_0], 5, true, false⟩, ⟨[.ints .i64 u0, .ints .i64 u1, .ints .i64 u2], 53, false, true⟩]) (fun (u0 : List Int) (u1 : List Int) (u2 : List Int) => K (.exit 0) (selE 51 [(2, .undef), (3, .undef), (4, (.sl 1 (0 : Nat) (none : Option Nat) (none : Option Nat)))]) [⟨[.ints .u8 xs_m_0_0], 5, true, false⟩, ⟨[.ints .i64 u0, .ints .i64 u1, .ints .i64 u2], 53, false, true⟩])
  | 0, i_5, xs_m_0_0, xs_m_1_0, xs_m_1_1, xs_m_1_2 => rfl
  | n + 1, i_5, xs_m_0_0, xs_m_1_0, xs_m_1_1, xs_m_1_2 => by
    have ih := RL11_7_ok  K n
    rw [HL11_7_ok  n i_5 xs_m_0_0 xs_m_1_0 xs_m_1_1 xs_m_1_2 K]
    show HL11_7  _ i_5 xs_m_0_0 xs_m_1_0 xs_m_1_1 xs_m_1_2 (fun (u0 : List Int) (u1 : List Int) (u2 : List Int) => K .ret (selE 51 [(2, .nils), (3, (.I .i64 (200 : Int))), (4, (.sl 1 (0 : Nat) (none : Option Nat) (none : Option Nat)))]) [⟨[.ints .u8 xs_m_0_0], 5, true, false⟩, ⟨[.ints .i64 u0, .ints .i64 u1, .ints .i64 u2], 53, false, true⟩]) (fun (u0 : List Int) (u1 : List Int) (u2 : List Int) => K (.exit 0) (selE 51 [(2, .undef), (3, .undef), (4, (.sl 1 (0 : Nat) (none : Option Nat) (none : Option Nat)))]) [⟨[.ints .u8 xs_m_0_0], 5, true, false⟩, ⟨[.ints .i64 u0, .ints .i64 u1, .ints .i64 u2], 53, false, true⟩]) = HL11_7  _ i_5 xs_m_0_0 xs_m_1_0 xs_m_1_1 xs_m_1_2 (fun (u0 : List Int) (u1 : List Int) (u2 : List Int) => K .ret (selE 51 [(2, .nils), (3, (.I .i64 (200 : Int))), (4, (.sl 1 (0 : Nat) (none : Option Nat) (none : Option Nat)))]) [⟨[.ints .u8 xs_m_0_0], 5, true, false⟩, ⟨[.ints .i64 u0, .ints .i64 u1, .ints .i64 u2], 53, false, true⟩]) (fun (u0 : List Int) (u1 : List Int) (u2 : List Int) => K (.exit 0) (selE 51 [(2, .undef), (3, .undef), (4, (.sl 1 (0 : Nat) (none : Option Nat) (none : Option Nat)))]) [⟨[.ints .u8 xs_m_0_0], 5, true, false⟩, ⟨[.ints .i64 u0, .ints .i64 u1, .ints .i64 u2], 53, false, true⟩])
    refine congrArg (fun r => HL11_7  r i_5 xs_m_0_0 xs_m_1_0 xs_m_1_1 xs_m_1_2 (fun (u0 : List Int) (u1 : List Int) (u2 : List Int) => K .ret (selE 51 [(2, .nils), (3, (.I .i64 (200 : Int))), (4, (.sl 1 (0 : Nat) (none : Option Nat) (none : Option Nat)))]) [⟨[.ints .u8 xs_m_0_0], 5, true, false⟩, ⟨[.ints .i64 u0, .ints .i64 u1, .ints .i64 u2], 53, false, true⟩]) (fun (u0 : List Int) (u1 : List Int) (u2 : List Int) => K (.exit 0) (selE 51 [(2, .undef), (3, .undef), (4, (.sl 1 (0 : Nat) (none : Option Nat) (none : Option Nat)))]) [⟨[.ints .u8 xs_m_0_0], 5, true, false⟩, ⟨[.ints .i64 u0, .ints .i64 u1, .ints .i64 u2], 53, false, true⟩])) ?_
    funext i_5 xs_m_1_0 xs_m_1_1 xs_m_1_2
    exact ih i_5 xs_m_0_0 xs_m_1_0 xs_m_1_1 xs_m_1_2
def GL11_7 : YL11_7 := fun x i_5 xs_m_0_0 xs_m_1_0 xs_m_1_1 xs_m_1_2 k1 k2 => x = XL11_7 ∧ ∃ n, RL11_7  n i_5 xs_m_0_0 xs_m_1_0 xs_m_1_1 xs_m_1_2 k1 k2
def FL11_7 : List Fil := [.slot 4 ⟨[.ints .i64 ([] : List Int), .ints .i64 ([] : List Int), .ints .i64 ([] : List Int)], 53, false, true⟩]
def VL11_7 (l : YL11_7) (F : Prop) (x : Code) (ρ : Env) (m : Mem) (K : Ex → Env → Mem → Prop) : Prop :=
  match ρ.has (51 - 1) with
  | true => (seeV (.sl 0 (0 : Nat) (none : Option Nat) (none : Option Nat)) (ρ.get 0) F (seeV (.sl 1 (0 : Nat) (none : Option Nat) (none : Option Nat)) (ρ.get 4) F (seeI .i64 (ρ.get 5) F fun i_5 => (seeCons m F fun a4 q5 => (seeBlk 5 true false a4 F fun cs6 => (seeCons cs6 F fun a7 q8 => (seeInts .u8 a7 F fun xs_m_0_0 => (seeNil q8 F (seeCons q5 F fun a9 q10 => (seeBlk 53 false true a9 F fun cs11 => (seeCons cs11 F fun a12 q13 => (seeInts .i64 a12 F fun xs_m_1_0 => (seeCons q13 F fun a14 q15 => (seeInts .i64 a14 F fun xs_m_1_1 => (seeCons q15 F fun a16 q17 => (seeInts .i64 a16 F fun xs_m_1_2 => (seeNil q17 F (seeNil q10 F (l x i_5 xs_m_0_0 xs_m_1_0 xs_m_1_1 xs_m_1_2 (fun (u0 : List Int) (u1 : List Int) (u2 : List Int) => K .ret (selE 51 [(2, .nils), (3, (.I .i64 (200 : Int))), (4, (.sl 1 (0 : Nat) (none : Option Nat) (none : Option Nat)))]) [⟨[.ints .u8 xs_m_0_0], 5, true, false⟩, ⟨[.ints .i64 u0, .ints .i64 u1, .ints .i64 u2], 53, false, true⟩]) (fun (u0 : List Int) (u1 : List Int) (u2 : List Int) => K (.exit 0) (selE 51 [(2, .undef), (3, .undef), (4, (.sl 1 (0 : Nat) (none : Option Nat) (none : Option Nat)))]) [⟨[.ints .u8 xs_m_0_0], 5, true, false⟩, ⟨[.ints .i64 u0, .ints .i64 u1, .ints .i64 u2], 53, false, true⟩]))))))))))))))))))))
  | false => False
def WL11_7 (l : YL11_7) (W : Masks) : Masks := fun r =>
  match Nat.beq r 7 with
  | true => some fun x ρ m K => VL11_7 l (match W r with | some lf => lf x ρ m K | none => False) x (tidyE 1 [0, 4, 5] (fil FL11_7 ρ m).1 (fil FL11_7 ρ m).2) (tidyM 1 [0, 4, 5] (fil FL11_7 ρ m).1 (fil FL11_7 ρ m).2) K
  | false => W r
set_option maxRecDepth 100000 in
theorem WL11_7_ok {W : Masks} (hW : LoopsOk Tryz.prog 1 W) : LoopsOk Tryz.prog 1 (WL11_7 GL11_7 W) := by
  intro r lf h
  unfold WL11_7 at h
  split at h
  · cases h
    intro x E0 m0 w0 J hS0 ha hJ ρ m K E a w Q hS hρ hd h hQ
    have fb : (match W r with | some lf => lf x ρ m K | none => False) → (Code.loop x).wp Tryz.prog Q a w := fun h => by
      split at h
      · rename_i lf hlf
        exact hW r lf hlf x hS0 ha hJ ρ m K E a w Q hS hρ hd h hQ
      · cases h
    obtain ⟨E1, hS1, hρ1⟩ := fil_step hS hρ FL11_7
    obtain ⟨E2, hS2, hρ2⟩ := tidy_rel hS0 hS1 hρ1 [0, 4, 5]
    rw [ha] at hS2 hρ2
    unfold VL11_7 at h
    split at h
    · rename_i hlen
      replace h := seeV_use h
      rcases h with h | ⟨e1, h⟩
      · exact fb h
      replace h := seeV_use h
      rcases h with h | ⟨e2, h⟩
      · exact fb h
      replace h := seeI_use h
      rcases h with h | ⟨i_5, e3, h⟩
      · exact fb h
      replace h := seeCons_use h
      rcases h with h | ⟨a4, q5, eqm, h⟩
      · exact fb h
      replace h := seeBlk_use h
      rcases h with h | ⟨cs6, rfl, h⟩
      · exact fb h
      replace h := seeCons_use h
      rcases h with h | ⟨a7, q8, rfl, h⟩
      · exact fb h
      replace h := seeInts_use h
      rcases h with h | ⟨xs_m_0_0, rfl, h⟩
      · exact fb h
      replace h := seeNil_use h
      rcases h with h | ⟨rfl, h⟩
      · exact fb h
      replace h := seeCons_use h
      rcases h with h | ⟨a9, q10, rfl, h⟩
      · exact fb h
      replace h := seeBlk_use h
      rcases h with h | ⟨cs11, rfl, h⟩
      · exact fb h
      replace h := seeCons_use h
      rcases h with h | ⟨a12, q13, rfl, h⟩
      · exact fb h
      replace h := seeInts_use h
      rcases h with h | ⟨xs_m_1_0, rfl, h⟩
      · exact fb h
      replace h := seeCons_use h
      rcases h with h | ⟨a14, q15, rfl, h⟩
      · exact fb h
      replace h := seeInts_use h
      rcases h with h | ⟨xs_m_1_1, rfl, h⟩
      · exact fb h
      replace h := seeCons_use h
      rcases h with h | ⟨a16, q17, rfl, h⟩
      · exact fb h
      replace h := seeInts_use h
      rcases h with h | ⟨xs_m_1_2, rfl, h⟩
      · exact fb h
      replace h := seeNil_use h
      rcases h with h | ⟨rfl, h⟩
      · exact fb h
      replace h := seeNil_use h
      rcases h with h | ⟨rfl, h⟩
      · exact fb h
      obtain ⟨rfl, n, h⟩ := h
      exact loop_use named CD_ok (LoopsOk.none _ _) (RL11_7_ok  K n _ _ _ _ _) h hS0 ha hJ hlen ⟨e1, e2, e3, trivial⟩ (eqm ▸ hS2) hρ2 hd hQ
    · cases h
  · exact hW r lf h
theorem at11 : Tryz.prog.funcs[11]? = some (fnOf Tryz.prog 11) := by kernel_rfl
abbrev Y11 : Type := List Int → (Prop) → (Prop) → (List Int → List Int → List Int → Prop) → Prop
set_option maxHeartbeats 4000000 in
set_option maxRecDepth 100000 in
def F11  (l11_7 : YL11_7) (bs : List Int) (k1 : Prop) (k2 : Prop) (k3 : List Int → List Int → List Int → Prop) : Prop :=
  (bif (decide (((((List.length bs) - (0 : Nat)) : Nat) : Int) > (96000 : Int))) then (k1) else (bif ((Int.tmod ((((List.length bs) - (0 : Nat)) : Nat) : Int) (24 : Int)) != (0 : Int)) then (k2) else (l11_7 XL11_7 (0 : Int) bs ([] : List Int) ([] : List Int) ([] : List Int) (fun (xs1 : List Int) (xs2 : List Int) (xs3 : List Int) => (k2)) (fun (xs4 : List Int) (xs5 : List Int) (xs6 : List Int) => (k3 xs4 xs5 xs6)))))
theorem F11_ok  (l11_7 : YL11_7) (bs : List Int) (K : V → Mem → Prop) : cbody Tryz.prog CD (WL11_7 l11_7 (fun _ => none)) 1000 (fnOf Tryz.prog 11) [(.sl 0 (0 : Nat) (none : Option Nat) (none : Option Nat))] [⟨[.ints .u8 bs], 5, true, false⟩] K =
    F11  l11_7 bs (K (.tup [.nils, (.I .i64 (6 : Int))]) [⟨[.ints .u8 bs], 5, true, false⟩]) (K (.tup [.nils, (.I .i64 (200 : Int))]) [⟨[.ints .u8 bs], 5, true, false⟩]) (fun (u0 : List Int) (u1 : List Int) (u2 : List Int) => K (.tup [(.sl 1 (0 : Nat) (none : Option Nat) (none : Option Nat)), (.I .i64 (0 : Int))]) [⟨[.ints .u8 bs], 5, true, false⟩, ⟨[.ints .i64 u0, .ints .i64 u1, .ints .i64 u2], 53, false, true⟩]) := by kernel_rfl
end r
/-! ### Reading: any bytes -/
def inR (r : R) : Prop := inI (f1 r) ∧ inI (f2 r) ∧ inI (f3 r)
def rdG (rs : List R) (ns2 post : List Int) : Prop := ns2 = [] ∧ post = [] ∧ ∀ r ∈ rs, okR r
def rdL (rs : List R) (ns2 post : List Int) : Nat := 24 * rs.length + 8 * ns2.length + post.length
open Classical in
noncomputable def rdV (rs : List R) (ns2 post : List Int) : List R := if rdL rs ns2 post ≤ 96000 ∧ rdG rs ns2 post then rs else []
open Classical in
noncomputable def rdC (rs : List R) (ns2 post : List Int) : Int := if rdL rs ns2 post ≤ 96000 then (if rdG rs ns2 post then 0 else 200) else 6
abbrev KC := List Int → List Int → List Int → Int → Prop
def putc (k : KC) (rs : List R) (c : Int) : Prop := k (rs.map f1) (rs.map f2) (rs.map f3) c
def rdS2 (bs : List Int) (k : KC) : Prop := ∃ (rs : List R) (ns2 post : List Int), bs = rs.flatMap encR ++ (ns2.flatMap enc8 ++ post) ∧ ns2.length < 3 ∧ post.length < 8 ∧ (∀ r ∈ rs, inR r) ∧ (∀ n ∈ ns2, inI n) ∧ sm bs.length ∧ putc k (rdV rs ns2 post) (rdC rs ns2 post)
theorem rd_cases {rs : List R} {ns2 post : List Int} {k : KC} (hk : putc k (rdV rs ns2 post) (rdC rs ns2 post)) : (96000 < rdL rs ns2 post ∧ putc k [] 6) ∨ (rdL rs ns2 post ≤ 96000 ∧ (¬ rdG rs ns2 post → putc k [] 200) ∧ (rdG rs ns2 post → putc k rs 0)) := by
  unfold rdV rdC at hk
  by_cases hl : rdL rs ns2 post ≤ 96000
  · refine .inr ⟨hl, fun h => ?_, fun h => ?_⟩
    · simpa [hl, h] using hk
    · simpa [hl, h] using hk
  · refine .inl ⟨by omega, ?_⟩
    simpa [hl] using hk
theorem rdL_eq (rs : List R) (ns2 post : List Int) : (rs.flatMap encR ++ (ns2.flatMap enc8 ++ post)).length = rdL rs ns2 post := by
  rw [List.length_append, List.length_append, enc_len, enc8_len]; unfold rdL; omega
theorem rd10_in (bs : List Int) (k1 k2 : KK) : ∀ (T A : List R), (A ++ T).length ≤ 4000 → ((¬ ∀ r ∈ T, okR r) → ∀ a b c, k1 a b c) → ((∀ r ∈ T, okR r) → put3 k2 (A ++ T)) →
    r.RL10_8 (T.length + 1) ((3 * A.length : Nat) : Int) bs ((A ++ T).flatMap three) (A.map f1) (A.map f2) (A.map f3) k1 k2
  | [], A, hs, h1, h2 => by
    have hl := three_len (A ++ [])
    show r.HL10_8 _ _ _ _ _ _ _ _ _
    unfold r.HL10_8
    rw [decide_eq_false (by rw [hl]; simp : ¬ ((3 * A.length : Nat) : Int) < (((List.length ((A ++ ([] : List R)).flatMap three) - (0 : Nat) : Nat)) : Int))]
    have hk := h2 (by simp)
    rw [List.append_nil] at hk
    exact hk
  | x :: T, A, hs, h1, h2 => by
    have hs' : A.length + (T.length + 1) ≤ 4000 := by simpa using hs
    have hl := three_len (A ++ x :: T)
    have hA := three_len A
    have e1 : IntKind.wrap .i64 (((3 * A.length : Nat) : Int) + 1) = ((3 * A.length + 1 : Nat) : Int) := by rw [w64 (by omega) (by omega)]; omega
    have e2 : IntKind.wrap .i64 (((3 * A.length : Nat) : Int) + 2) = ((3 * A.length + 2 : Nat) : Int) := by rw [w64 (by omega) (by omega)]; omega
    have e3 : IntKind.wrap .i64 (((3 * A.length : Nat) : Int) + 3) = ((3 * (A ++ [x]).length : Nat) : Int) := by rw [w64 (by omega) (by omega)]; simp; omega
    have hL : (A ++ x :: T).flatMap three = A.flatMap three ++ (f1 x :: f2 x :: f3 x :: T.flatMap three) := by simp [three]
    have ll : (A.flatMap three ++ (f1 x :: f2 x :: f3 x :: T.flatMap three)).length = 3 * (A.length + (T.length + 1)) := by rw [← hL, hl]; simp
    have g0 : List.getD (A.flatMap three ++ (f1 x :: f2 x :: f3 x :: T.flatMap three)) (3 * A.length) 0 = f1 x := by rw [← hA]; simp [List.getD_eq_getElem?_getD]
    have g1 : List.getD (A.flatMap three ++ (f1 x :: f2 x :: f3 x :: T.flatMap three)) (3 * A.length + 1) 0 = f2 x := by rw [← hA]; simp [List.getD_eq_getElem?_getD]
    have g2 : List.getD (A.flatMap three ++ (f1 x :: f2 x :: f3 x :: T.flatMap three)) (3 * A.length + 2) 0 = f3 x := by rw [← hA]; simp [List.getD_eq_getElem?_getD]
    have i2 : A ++ [x] ++ T = A ++ x :: T := by simp
    have e : ∀ f : R → Int, A.map f ++ [f x] = (A ++ [x]).map f := fun f => by simp
    have bad : ¬ okR x → ∀ a b c, k1 a b c := fun hx => h1 (fun h => hx (h x (by simp)))
    have good : okR x → r.RL10_8 (T.length + 1) ((3 * (A ++ [x]).length : Nat) : Int) bs (A.flatMap three ++ (f1 x :: f2 x :: f3 x :: T.flatMap three)) ((A ++ [x]).map f1) ((A ++ [x]).map f2) ((A ++ [x]).map f3) k1 k2 := fun hx => by
      have ih := rd10_in bs k1 k2 T (A ++ [x]) (by simp; omega) (fun h => h1 (fun h' => h (fun r hr => h' r (by simp [hr])))) (fun h => by
        rw [i2]
        exact h2 (by
          intro r hr
          rcases List.mem_cons.1 hr with rfl | hr
          · exact hx
          · exact h r hr))
      rw [i2, hL] at ih
      exact ih
    show r.HL10_8 _ _ _ _ _ _ _ _ _
    unfold r.HL10_8
    rw [e1, e2, e3, hL]
    rw [decide_eq_true (by omega : ((3 * A.length : Nat) : Int) < (((List.length (A.flatMap three ++ (f1 x :: f2 x :: f3 x :: T.flatMap three)) - (0 : Nat) : Nat)) : Int)), inbI (i := 3 * A.length + 1) (by omega), inbI (i := 3 * A.length + 2) (by omega), decide_eq_true (Int.natCast_nonneg _ : (0 : Int) ≤ ((3 * A.length : Nat) : Int))]
    generalize hg1 : List.getD (A.flatMap three ++ (f1 x :: f2 x :: f3 x :: T.flatMap three)) (Int.toNat ((3 * A.length : Nat) : Int)) 0 = v1
    generalize hg2 : List.getD (A.flatMap three ++ (f1 x :: f2 x :: f3 x :: T.flatMap three)) (Int.toNat ((3 * A.length + 1 : Nat) : Int)) 0 = v2
    generalize hg3 : List.getD (A.flatMap three ++ (f1 x :: f2 x :: f3 x :: T.flatMap three)) (Int.toNat ((3 * A.length + 2 : Nat) : Int)) 0 = v3
    obtain rfl : v1 = f1 x := by rw [← hg1, Int.toNat_natCast]; exact g0
    obtain rfl : v2 = f2 x := by rw [← hg2, Int.toNat_natCast]; exact g1
    obtain rfl : v3 = f3 x := by rw [← hg3, Int.toNat_natCast]; exact g2
    rw [decide_eq_true (by simp; omega : (List.length (A.map f1) - 0 + 1) * 24 ≤ 140737488355328), decide_eq_true (by simp; omega : List.length (A.map f1) - 0 + 1 ≤ 140737488355328), e f1, e f2, e f3]
    simp only [beq_self_eq_true, Bool.and_true, Bool.and_self, cond_true]
    by_cases q1 : f1 x ≥ 0
    · rw [decide_eq_true q1]
      by_cases q2 : f1 x ≤ 140737488355328
      · rw [decide_eq_true q2]
        simp only [cond_true]
        by_cases q4 : f3 x ≥ -140737488355328
        · rw [decide_eq_true q4]
          by_cases q5 : f3 x ≤ 140737488355328
          · rw [decide_eq_true q5]
            simp only [cond_true, Bool.not_true, cond_false]
            by_cases q3 : f2 x = 8
            · rw [(by simpa using q3 : (f2 x == 8) = true)]
              exact good ⟨q1, q2, .inl q3, q4, q5⟩
            · rw [(by simpa using q3 : (f2 x == 8) = false)]
              by_cases q6 : f2 x = 37
              · rw [(by simpa using q6 : (f2 x == 37) = true)]
                exact good ⟨q1, q2, .inr q6, q4, q5⟩
              · rw [(by simpa using q6 : (f2 x == 37) = false)]
                exact bad (fun h => h.2.2.1.elim q3 q6) _ _ _
          · rw [decide_eq_false q5]
            simp only [cond_true, Bool.not_false]
            have b := bad (fun h => q5 h.2.2.2.2)
            cases (f2 x == 8) <;> cases (f2 x == 37) <;> exact b _ _ _
        · rw [decide_eq_false q4]
          simp only [cond_false]
          have b := bad (fun h => q4 h.2.2.2.1)
          cases (f2 x == 8) <;> cases (f2 x == 37) <;> exact b _ _ _
      · rw [decide_eq_false q2]
        exact bad (fun h => q2 h.2.1) _ _ _
    · rw [decide_eq_false q1]
      exact bad (fun h => q1 h.1) _ _ _
theorem rd11_in (k1 k2 : KK) : ∀ (T A : List R), (A ++ T).length ≤ 4000 → (∀ r ∈ T, inR r) → ((¬ ∀ r ∈ T, okR r) → ∀ a b c, k1 a b c) → ((∀ r ∈ T, okR r) → put3 k2 (A ++ T)) →
    r.RL11_7 (T.length + 1) ((24 * A.length : Nat) : Int) ((A ++ T).flatMap encR) (A.map f1) (A.map f2) (A.map f3) k1 k2
  | [], A, hs, hi, h1, h2 => by
    have hl := enc_len (A ++ [])
    show r.HL11_7 _ _ _ _ _ _ _ _
    unfold r.HL11_7
    rw [decide_eq_false (by rw [hl]; simp : ¬ ((24 * A.length : Nat) : Int) < (((List.length ((A ++ ([] : List R)).flatMap encR) - (0 : Nat) : Nat)) : Int))]
    have hk := h2 (by simp)
    rw [List.append_nil] at hk
    exact hk
  | x :: T, A, hs, hi, h1, h2 => by
    have hs' : A.length + (T.length + 1) ≤ 4000 := by simpa using hs
    have hl := enc_len (A ++ x :: T)
    have hA := enc_len A
    obtain ⟨hx1, hx2, hx3⟩ := hi x (by simp)
    have e1 : IntKind.wrap .i64 (((24 * A.length : Nat) : Int) + 8) = ((24 * A.length + 8 : Nat) : Int) := by rw [w64 (by omega) (by omega)]; omega
    have e2 : IntKind.wrap .i64 (((24 * A.length : Nat) : Int) + 16) = ((24 * A.length + 16 : Nat) : Int) := by rw [w64 (by omega) (by omega)]; omega
    have e3 : IntKind.wrap .i64 (((24 * A.length : Nat) : Int) + 24) = ((24 * (A ++ [x]).length : Nat) : Int) := by rw [w64 (by omega) (by omega)]; simp; omega
    have i2 : A ++ [x] ++ T = A ++ x :: T := by simp
    have e : ∀ f : R → Int, A.map f ++ [f x] = (A ++ [x]).map f := fun f => by simp
    have bad : ¬ okR x → ∀ a b c, k1 a b c := fun hx => h1 (fun h => hx (h x (by simp)))
    have good : okR x → r.RL11_7 (T.length + 1) ((24 * (A ++ [x]).length : Nat) : Int) ((A ++ x :: T).flatMap encR) ((A ++ [x]).map f1) ((A ++ [x]).map f2) ((A ++ [x]).map f3) k1 k2 := fun hx => by
      have ih := rd11_in k1 k2 T (A ++ [x]) (by simp; omega) (fun r hr => hi r (by simp [hr])) (fun h => h1 (fun h' => h (fun r hr => h' r (by simp [hr])))) (fun h => by
        rw [i2]
        exact h2 (by
          intro r hr
          rcases List.mem_cons.1 hr with rfl | hr
          · exact hx
          · exact h r hr))
      rw [i2] at ih
      exact ih
    have hsm : small ((A ++ x :: T).flatMap encR).length := by unfold small; rw [hl]; simp; omega
    show r.HL11_7 _ _ _ _ _ _ _ _
    unfold r.HL11_7
    rw [e1, e2, e3]
    rw [decide_eq_true (by rw [hl]; simp; omega : ((24 * A.length : Nat) : Int) < (((List.length ((A ++ x :: T).flatMap encR) - (0 : Nat) : Nat)) : Int))]
    refine ⟨A.flatMap encR, enc8 (f2 x) ++ (enc8 (f3 x) ++ T.flatMap encR), f1 x, by simp [encR], by rw [hA], hx1.1, hx1.2, hsm, ?_⟩
    refine ⟨A.flatMap encR ++ enc8 (f1 x), enc8 (f3 x) ++ T.flatMap encR, f2 x, by simp [encR], by rw [List.length_append, hA]; rfl, hx2.1, hx2.2, hsm, ?_⟩
    refine ⟨A.flatMap encR ++ enc8 (f1 x) ++ enc8 (f2 x), T.flatMap encR, f3 x, by simp [encR], by rw [List.length_append, List.length_append, hA]; rfl, hx3.1, hx3.2, hsm, ?_⟩
    dsimp only
    rw [decide_eq_true (by simp; omega : (List.length (A.map f1) - 0 + 1) * 24 ≤ 140737488355328), decide_eq_true (by simp; omega : List.length (A.map f1) - 0 + 1 ≤ 140737488355328), e f1, e f2, e f3]
    simp only [Bool.and_true, Bool.and_self, cond_true]
    by_cases q1 : f1 x ≥ 0
    · rw [decide_eq_true q1]
      by_cases q2 : f1 x ≤ 140737488355328
      · rw [decide_eq_true q2]
        simp only [cond_true]
        by_cases q4 : f3 x ≥ -140737488355328
        · rw [decide_eq_true q4]
          by_cases q5 : f3 x ≤ 140737488355328
          · rw [decide_eq_true q5]
            simp only [cond_true, Bool.not_true, cond_false]
            by_cases q3 : f2 x = 8
            · rw [(by simpa using q3 : (f2 x == 8) = true)]
              exact good ⟨q1, q2, .inl q3, q4, q5⟩
            · rw [(by simpa using q3 : (f2 x == 8) = false)]
              by_cases q6 : f2 x = 37
              · rw [(by simpa using q6 : (f2 x == 37) = true)]
                exact good ⟨q1, q2, .inr q6, q4, q5⟩
              · rw [(by simpa using q6 : (f2 x == 37) = false)]
                exact bad (fun h => h.2.2.1.elim q3 q6) _ _ _
          · rw [decide_eq_false q5]
            simp only [cond_true, Bool.not_false]
            have b := bad (fun h => q5 h.2.2.2.2)
            cases (f2 x == 8) <;> cases (f2 x == 37) <;> exact b _ _ _
        · rw [decide_eq_false q4]
          simp only [cond_false]
          have b := bad (fun h => q4 h.2.2.2.1)
          cases (f2 x == 8) <;> cases (f2 x == 37) <;> exact b _ _ _
      · rw [decide_eq_false q2]
        exact bad (fun h => q2 h.2.1) _ _ _
    · rw [decide_eq_false q1]
      exact bad (fun h => q1 h.1) _ _ _
theorem h10b {bs : List Int} {k : KC} {a1 a2 : Prop} {a3 : KK} (i1 : k [] [] [] 6 → a1) (i2 : k [] [] [] 200 → a2) (i3 : ∀ a b c, k a b c 0 → a3 a b c) (h : rdS2 bs k) : r.F10 r.GL10_8 bs a1 a2 a3 := by
  obtain ⟨rs, ns2, post, rfl, h2, hp, hr, hi, hs, hk⟩ := h
  have hL := rdL_eq rs ns2 post
  have h3 := three_len rs
  unfold r.F10
  rcases rd_cases hk with ⟨hl, hk⟩ | ⟨hl, hk1, hk2⟩
  · rw [decide_eq_true (by omega : (((List.length (rs.flatMap encR ++ (ns2.flatMap enc8 ++ post)) - (0 : Nat) : Nat)) : Int) > 96000)]
    exact i1 hk
  · rw [decide_eq_false (by omega : ¬ (((List.length (rs.flatMap encR ++ (ns2.flatMap enc8 ++ post)) - (0 : Nat) : Nat)) : Int) > 96000)]
    refine ⟨rs.flatMap three ++ ns2, post, by rw [List.flatMap_append, three_enc, List.append_assoc], hp, ?_, hs, ?_⟩
    · intro n hn
      rcases List.mem_append.1 hn with hn | hn
      · obtain ⟨r, hr1, hr2⟩ := List.mem_flatMap.1 hn
        obtain ⟨q1, q2, q3⟩ := hr r hr1
        simp only [three, List.mem_cons, List.not_mem_nil, or_false] at hr2
        rcases hr2 with rfl | rfl | rfl <;> assumption
      · exact hi n hn
    · cases post with
      | cons y post => exact i2 (hk1 (fun h => by cases h.2.1))
      | nil =>
        show cond ((0 : Int) != 0) _ _
        simp only [bne_self_eq_false, cond_false]
        have e0 : arrV (rs.flatMap three ++ ns2) [] = rs.flatMap three ++ ns2 := rfl
        rw [e0]
        cases ns2 with
        | cons y ns2 =>
          have e : (Int.tmod (((List.length (rs.flatMap three ++ y :: ns2) - (0 : Nat) : Nat)) : Int) 3 != 0) = true := by
            rw [Int.tmod_eq_emod_of_nonneg (by omega)]
            simp only [bne_iff_ne, ne_eq, List.length_append, h3]
            simp only [List.length_cons] at h2 ⊢
            omega
          rw [e]
          exact i2 (hk1 (fun h => by cases h.1))
        | nil =>
          rw [List.append_nil]
          have e : (Int.tmod (((List.length (rs.flatMap three) - (0 : Nat) : Nat)) : Int) 3 != 0) = false := by
            rw [h3, Int.tmod_eq_emod_of_nonneg (by omega)]; simp <;> omega
          rw [e]
          refine ⟨rfl, rs.length + 1, rd10_in _ _ _ rs [] ?_ (fun h _ _ _ => i2 (hk1 (fun g => h g.2.2))) (fun h => i3 _ _ _ (hk2 ⟨rfl, rfl, h⟩))⟩
          unfold rdL at hl
          rw [List.nil_append]; omega
theorem h11b {bs : List Int} {k : KC} {a1 a2 : Prop} {a3 : KK} (i1 : k [] [] [] 6 → a1) (i2 : k [] [] [] 200 → a2) (i3 : ∀ a b c, k a b c 0 → a3 a b c) (h : rdS2 bs k) : r.F11 r.GL11_7 bs a1 a2 a3 := by
  obtain ⟨rs, ns2, post, rfl, h2, hp, hr, hi, hs, hk⟩ := h
  have hL := rdL_eq rs ns2 post
  unfold r.F11
  rcases rd_cases hk with ⟨hl, hk⟩ | ⟨hl, hk1, hk2⟩
  · rw [decide_eq_true (by omega : (((List.length (rs.flatMap encR ++ (ns2.flatMap enc8 ++ post)) - (0 : Nat) : Nat)) : Int) > 96000)]
    exact i1 hk
  · rw [decide_eq_false (by omega : ¬ (((List.length (rs.flatMap encR ++ (ns2.flatMap enc8 ++ post)) - (0 : Nat) : Nat)) : Int) > 96000)]
    by_cases hb : ns2 = [] ∧ post = []
    · obtain ⟨rfl, rfl⟩ := hb
      have e0 : rs.flatMap encR ++ (([] : List Int).flatMap enc8 ++ []) = rs.flatMap encR := by simp
      rw [e0] at hL hs ⊢
      have e : (Int.tmod (((List.length (rs.flatMap encR) - (0 : Nat) : Nat)) : Int) 24 != 0) = false := by
        rw [enc_len, Int.tmod_eq_emod_of_nonneg (by omega)]; simp <;> omega
      rw [e]
      refine ⟨rfl, rs.length + 1, rd11_in _ _ rs [] ?_ hr (fun h _ _ _ => i2 (hk1 (fun g => h g.2.2))) (fun h => i3 _ _ _ (hk2 ⟨rfl, rfl, h⟩))⟩
      unfold rdL at hl
      rw [List.nil_append]; omega
    · have hb' : 0 < ns2.length ∨ 0 < post.length := by
        rcases Nat.eq_zero_or_pos ns2.length with h | h
        · rcases Nat.eq_zero_or_pos post.length with g | g
          · exact (hb ⟨List.eq_nil_of_length_eq_zero h, List.eq_nil_of_length_eq_zero g⟩).elim
          · exact .inr g
        · exact .inl h
      have e : (Int.tmod (((List.length (rs.flatMap encR ++ (ns2.flatMap enc8 ++ post)) - (0 : Nat) : Nat)) : Int) 24 != 0) = true := by
        rw [hL, Int.tmod_eq_emod_of_nonneg (by omega)]
        simp only [bne_iff_ne, ne_eq]
        unfold rdL
        omega
      rw [e]
      exact i2 (hk1 (fun h => hb ⟨h.1, h.2.1⟩))
theorem bare47 : (⟨[.ints .i64 [], .ints .i64 [], .ints .i64 []], 47, false, true⟩ : Blk).bare = true := by decide
theorem bare53 : (⟨[.ints .i64 [], .ints .i64 [], .ints .i64 []], 53, false, true⟩ : Blk).bare = true := by decide
def P10b : Prim := fun args m K =>
  match args, m with
  | [.sl 0 0 none none], [⟨[.ints .u8 bs], e, false, false⟩] =>
    (match Nat.beq e 5 with | true => rdS2 bs (fun xs ts ns c => K (.tup [.sl 1 0 none none, .I .i64 c]) [⟨[.ints .u8 bs], 5, false, false⟩, ⟨[.ints .i64 xs, .ints .i64 ts, .ints .i64 ns], 47, false, true⟩]) | false => False)
  | _, _ => False
theorem P10b_ok : PrimOk Tryz.prog 10 P10b := by
  intro args m K E w cargs hS ha h
  unfold P10b at h
  split at h
  · rename_i bs e
    split at h
    · rename_i he
      obtain rfl := Nat.eq_of_beq_eq_true he
      refine nk_use (et := 47) bare47 (cbody_use named CD_ok r.at10 (l := 1) rfl (r.WL10_8_ok (LoopsOk.none _ _)) (r.F10_ok r.GL10_8 bs _) hS ha ?_)
      exact h10b (fun h => nk_nil (m := [⟨[.ints .u8 bs], 5, false, false⟩]) h) (fun h => nk_nil (m := [⟨[.ints .u8 bs], 5, false, false⟩]) h) (fun a b c h => nk_id h) h
    · cases h
  · cases h
def P11b : Prim := fun args m K =>
  match args, m with
  | [.sl 0 0 none none], [⟨[.ints .u8 bs], e, true, false⟩] =>
    (match Nat.beq e 5 with | true => rdS2 bs (fun xs ts ns c => K (.tup [.sl 1 0 none none, .I .i64 c]) [⟨[.ints .u8 bs], 5, true, false⟩, ⟨[.ints .i64 xs, .ints .i64 ts, .ints .i64 ns], 53, false, true⟩]) | false => False)
  | _, _ => False
theorem P11b_ok : PrimOk Tryz.prog 11 P11b := by
  intro args m K E w cargs hS ha h
  unfold P11b at h
  split at h
  · rename_i bs e
    split at h
    · rename_i he
      obtain rfl := Nat.eq_of_beq_eq_true he
      refine nk_use (et := 53) bare53 (cbody_use named CD_ok r.at11 (l := 1) rfl (r.WL11_7_ok (LoopsOk.none _ _)) (r.F11_ok r.GL11_7 bs _) hS ha ?_)
      exact h11b (fun h => nk_nil (m := [⟨[.ints .u8 bs], 5, true, false⟩]) h) (fun h => nk_nil (m := [⟨[.ints .u8 bs], 5, true, false⟩]) h) (fun a b c h => nk_id h) h
    · cases h
  · cases h
end Go.Proofs.YtgflbmcmkjkmmaaGreat.so
