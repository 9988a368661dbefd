import Derived.Test.YtgflbmcmkjkmmaaGreatSrA
set_option linter.unusedVariables false
set_option linter.unusedSimpArgs false
set_option maxHeartbeats 4000000
set_option maxRecDepth 100000
namespace Go.Proofs.YtgflbmcmkjkmmaaGreat.so
open Go Go.Ab Go.So
def primsB : Prims := fun f =>
  match Nat.beq f 28 with
  | true => some P28
  | false =>
  match Nat.beq f 36 with
  | true => some P36
  | false =>
  match Nat.beq f 30 with
  | true => some P28
  | false =>
  match Nat.beq f 31 with
  | true => some P36
  | false => prims1 f
theorem primsB_ok : PrimsOk Tryz.prog primsB := by
  intro f g hg
  unfold primsB at hg
  split at hg
  · rename_i hf
    obtain rfl := Nat.eq_of_beq_eq_true hf
    cases hg
    exact P28_ok
  · skip
    split at hg
    · rename_i hf
      obtain rfl := Nat.eq_of_beq_eq_true hf
      cases hg
      exact P36_ok
    · skip
      split at hg
      · rename_i hf
        obtain rfl := Nat.eq_of_beq_eq_true hf
        cases hg
        exact P30_ok
      · skip
        split at hg
        · rename_i hf
          obtain rfl := Nat.eq_of_beq_eq_true hf
          cases hg
          exact P31_ok
        · skip
          exact prims1_ok f g hg
def CB : CC := call Tryz.prog primsB 1000
theorem CB_ok : CallsOk Tryz.prog CB := call_sound named primsB_ok 1000
namespace r
abbrev YL9_5 : Type := Code → Int → List Int → List Int → List Int → List Int → (List Int → Prop) → (List Int → Prop) → Prop
set_option maxHeartbeats 4000000 in
set_option maxRecDepth 100000 in
def HL9_5  (rec : Int → List Int → Prop) (i_5 : Int) (xs_m_0_0 : List Int) (xs_m_0_1 : List Int) (xs_m_0_2 : List Int) (xs_m_1_0 : List Int) (k1 : List Int → Prop) (k2 : List Int → Prop) : Prop :=
  (bif (decide (i_5 < ((((List.length xs_m_0_0) - (0 : Nat)) : Nat) : Int))) then (bif ((decide ((0 : Int) ≤ i_5)) && (decide (i_5 < ((((List.length xs_m_0_0) - (0 : Nat)) : Nat) : Int)))) then (bif (decide ((List.getD xs_m_0_0 (Int.toNat i_5) (0 : Int)) ≥ (0 : Int))) then (bif (decide ((List.getD xs_m_0_0 (Int.toNat i_5) (0 : Int)) ≤ (140737488355328 : Int))) then (bif ((List.getD xs_m_0_1 (Int.toNat i_5) (0 : Int)) == (8 : Int)) then (bif (decide ((List.getD xs_m_0_2 (Int.toNat i_5) (0 : Int)) ≥ (-140737488355328 : Int))) then (bif (!(decide ((List.getD xs_m_0_2 (Int.toNat i_5) (0 : Int)) ≤ (140737488355328 : Int)))) then (k1 xs_m_1_0) else (bif ((decide ((0 : Int) ≤ i_5)) && (decide (i_5 < ((((List.length xs_m_0_0) - (0 : Nat)) : Nat) : Int)))) then (bif ((decide ((0 : Int) ≤ i_5)) && (decide (i_5 < ((((List.length xs_m_0_0) - (0 : Nat)) : Nat) : Int)))) then (bif ((decide ((0 : Int) ≤ i_5)) && (decide (i_5 < ((((List.length xs_m_0_0) - (0 : Nat)) : Nat) : Int)))) then (bif ((decide (((((List.length xs_m_1_0) - (0 : Nat)) + ((List.length (enc8 (List.getD xs_m_0_0 (Int.toNat i_5) (0 : Int)))) - (0 : Nat))) * (1 : Nat)) ≤ (140737488355328 : Nat))) && (decide ((((List.length xs_m_1_0) - (0 : Nat)) + ((List.length (enc8 (List.getD xs_m_0_0 (Int.toNat i_5) (0 : Int)))) - (0 : Nat))) ≤ (140737488355328 : Nat)))) then (bif ((decide (((((List.length (xs_m_1_0 ++ (enc8 (List.getD xs_m_0_0 (Int.toNat i_5) (0 : Int))))) - (0 : Nat)) + ((List.length (enc8 (List.getD xs_m_0_1 (Int.toNat i_5) (0 : Int)))) - (0 : Nat))) * (1 : Nat)) ≤ (140737488355328 : Nat))) && (decide ((((List.length (xs_m_1_0 ++ (enc8 (List.getD xs_m_0_0 (Int.toNat i_5) (0 : Int))))) - (0 : Nat)) + ((List.length (enc8 (List.getD xs_m_0_1 (Int.toNat i_5) (0 : Int)))) - (0 : Nat))) ≤ (140737488355328 : Nat)))) then (bif ((decide (((((List.length ((xs_m_1_0 ++ (enc8 (List.getD xs_m_0_0 (Int.toNat i_5) (0 : Int)))) ++ (enc8 (List.getD xs_m_0_1 (Int.toNat i_5) (0 : Int))))) - (0 : Nat)) + ((List.length (enc8 (List.getD xs_m_0_2 (Int.toNat i_5) (0 : Int)))) - (0 : Nat))) * (1 : Nat)) ≤ (140737488355328 : Nat))) && (decide ((((List.length ((xs_m_1_0 ++ (enc8 (List.getD xs_m_0_0 (Int.toNat i_5) (0 : Int)))) ++ (enc8 (List.getD xs_m_0_1 (Int.toNat i_5) (0 : Int))))) - (0 : Nat)) + ((List.length (enc8 (List.getD xs_m_0_2 (Int.toNat i_5) (0 : Int)))) - (0 : Nat))) ≤ (140737488355328 : Nat)))) then (rec (IntKind.wrap .i64 (i_5 + (1 : Int))) (((xs_m_1_0 ++ (enc8 (List.getD xs_m_0_0 (Int.toNat i_5) (0 : Int)))) ++ (enc8 (List.getD xs_m_0_1 (Int.toNat i_5) (0 : Int)))) ++ (enc8 (List.getD xs_m_0_2 (Int.toNat i_5) (0 : Int))))) else False) else False) else False) else False) else False) else False)) else (k1 xs_m_1_0)) else (bif ((List.getD xs_m_0_1 (Int.toNat i_5) (0 : Int)) == (37 : Int)) then (bif (decide ((List.getD xs_m_0_2 (Int.toNat i_5) (0 : Int)) ≥ (-140737488355328 : Int))) then (bif (!(decide ((List.getD xs_m_0_2 (Int.toNat i_5) (0 : Int)) ≤ (140737488355328 : Int)))) then (k1 xs_m_1_0) else (bif ((decide ((0 : Int) ≤ i_5)) && (decide (i_5 < ((((List.length xs_m_0_0) - (0 : Nat)) : Nat) : Int)))) then (bif ((decide ((0 : Int) ≤ i_5)) && (decide (i_5 < ((((List.length xs_m_0_0) - (0 : Nat)) : Nat) : Int)))) then (bif ((decide ((0 : Int) ≤ i_5)) && (decide (i_5 < ((((List.length xs_m_0_0) - (0 : Nat)) : Nat) : Int)))) then (bif ((decide (((((List.length xs_m_1_0) - (0 : Nat)) + ((List.length (enc8 (List.getD xs_m_0_0 (Int.toNat i_5) (0 : Int)))) - (0 : Nat))) * (1 : Nat)) ≤ (140737488355328 : Nat))) && (decide ((((List.length xs_m_1_0) - (0 : Nat)) + ((List.length (enc8 (List.getD xs_m_0_0 (Int.toNat i_5) (0 : Int)))) - (0 : Nat))) ≤ (140737488355328 : Nat)))) then (bif ((decide (((((List.length (xs_m_1_0 ++ (enc8 (List.getD xs_m_0_0 (Int.toNat i_5) (0 : Int))))) - (0 : Nat)) + ((List.length (enc8 (List.getD xs_m_0_1 (Int.toNat i_5) (0 : Int)))) - (0 : Nat))) * (1 : Nat)) ≤ (140737488355328 : Nat))) && (decide ((((List.length (xs_m_1_0 ++ (enc8 (List.getD xs_m_0_0 (Int.toNat i_5) (0 : Int))))) - (0 : Nat)) + ((List.length (enc8 (List.getD xs_m_0_1 (Int.toNat i_5) (0 : Int)))) - (0 : Nat))) ≤ (140737488355328 : Nat)))) then (bif ((decide (((((List.length ((xs_m_1_0 ++ (enc8 (List.getD xs_m_0_0 (Int.toNat i_5) (0 : Int)))) ++ (enc8 (List.getD xs_m_0_1 (Int.toNat i_5) (0 : Int))))) - (0 : Nat)) + ((List.length (enc8 (List.getD xs_m_0_2 (Int.toNat i_5) (0 : Int)))) - (0 : Nat))) * (1 : Nat)) ≤ (140737488355328 : Nat))) && (decide ((((List.length ((xs_m_1_0 ++ (enc8 (List.getD xs_m_0_0 (Int.toNat i_5) (0 : Int)))) ++ (enc8 (List.getD xs_m_0_1 (Int.toNat i_5) (0 : Int))))) - (0 : Nat)) + ((List.length (enc8 (List.getD xs_m_0_2 (Int.toNat i_5) (0 : Int)))) - (0 : Nat))) ≤ (140737488355328 : Nat)))) then (rec (IntKind.wrap .i64 (i_5 + (1 : Int))) (((xs_m_1_0 ++ (enc8 (List.getD xs_m_0_0 (Int.toNat i_5) (0 : Int)))) ++ (enc8 (List.getD xs_m_0_1 (Int.toNat i_5) (0 : Int)))) ++ (enc8 (List.getD xs_m_0_2 (Int.toNat i_5) (0 : Int))))) else False) else False) else False) else False) else False) else False)) else (k1 xs_m_1_0)) else (k1 xs_m_1_0))) else (k1 xs_m_1_0)) else (k1 xs_m_1_0)) else False) else (k2 xs_m_1_0))
def RL9_5  : Nat → Int → List Int → List Int → List Int → List Int → (List Int → Prop) → (List Int → Prop) → Prop
  | 0, _, _, _, _, _, _, _ => False
  | n + 1, i_5, xs_m_0_0, xs_m_0_1, xs_m_0_2, xs_m_1_0, k1, k2 => HL9_5  (fun (i_5 : Int) (xs_m_1_0 : List Int) => RL9_5  n i_5 xs_m_0_0 xs_m_0_1 xs_m_0_2 xs_m_1_0 k1 k2) i_5 xs_m_0_0 xs_m_0_1 xs_m_0_2 xs_m_1_0 k1 k2
noncomputable def XL9_5 : Code := sub [true, true, true, false, true, false, false] (bodyOf Tryz.prog 9)
theorem HL9_5_ok  (n : Nat) (i_5 : Int) (xs_m_0_0 : List Int) (xs_m_0_1 : List Int) (xs_m_0_2 : List Int) (xs_m_1_0 : List Int) (K : Ex → Env → Mem → Prop) : cround 1 [0, 4, 5] [2, 3, 4] (fun ρ m K => cexec Tryz.prog CB (fun _ => none) 1 1000 XL9_5 ρ m K) (n + 1) (selE 62 [(0, (.sl 0 (0 : Nat) (none : Option Nat) (none : Option Nat))), (4, (.sl 1 (0 : Nat) (none : Option Nat) (none : Option Nat))), (5, (.I .i64 i_5))]) [⟨[.ints .i64 xs_m_0_0, .ints .i64 xs_m_0_1, .ints .i64 xs_m_0_2], 53, true, false⟩, ⟨[.ints .u8 xs_m_1_0], 5, false, true⟩] K =
    HL9_5  (fun (i_5 : Int) (xs_m_1_0 : List Int) => cround 1 [0, 4, 5] [2, 3, 4] (fun ρ m K => cexec Tryz.prog CB (fun _ => none) 1 1000 XL9_5 ρ m K) n (selE 62 [(0, (.sl 0 (0 : Nat) (none : Option Nat) (none : Option Nat))), (4, (.sl 1 (0 : Nat) (none : Option Nat) (none : Option Nat))), (5, (.I .i64 i_5))]) [⟨[.ints .i64 xs_m_0_0, .ints .i64 xs_m_0_1, .ints .i64 xs_m_0_2], 53, true, false⟩, ⟨[.ints .u8 xs_m_1_0], 5, false, true⟩] K) i_5 xs_m_0_0 xs_m_0_1 xs_m_0_2 xs_m_1_0 (fun (u0 : List Int) => K .ret (selE 62 [(2, .nils), (3, (.I .i64 (200 : Int))), (4, (.sl 1 (0 : Nat) (none : Option Nat) (none : Option Nat)))]) [⟨[.ints .i64 xs_m_0_0, .ints .i64 xs_m_0_1, .ints .i64 xs_m_0_2], 53, true, false⟩, ⟨[.ints .u8 u0], 5, false, true⟩]) (fun (u0 : List Int) => K (.exit 0) (selE 62 [(2, .undef), (3, .undef), (4, (.sl 1 (0 : Nat) (none : Option Nat) (none : Option Nat)))]) [⟨[.ints .i64 xs_m_0_0, .ints .i64 xs_m_0_1, .ints .i64 xs_m_0_2], 53, true, false⟩, ⟨[.ints .u8 u0], 5, false, true⟩]) := by kernel_rfl
theorem RL9_5_ok  (K : Ex → Env → Mem → Prop) : ∀ (n : Nat) (i_5 : Int) (xs_m_0_0 : List Int) (xs_m_0_1 : List Int) (xs_m_0_2 : List Int) (xs_m_1_0 : List Int), cround 1 [0, 4, 5] [2, 3, 4] (fun ρ m K => cexec Tryz.prog CB (fun _ => none) 1 1000 XL9_5 ρ m K) n (selE 62 [(0, (.sl 0 (0 : Nat) (none : Option Nat) (none : Option Nat))), (4, (.sl 1 (0 : Nat) (none : Option Nat) (none : Option Nat))), (5, (.I .i64 i_5))]) [⟨[.ints .i64 xs_m_0_0, .ints .i64 xs_m_0_1, .ints .i64 xs_m_0_2], 53, true, false⟩, ⟨[.ints .u8 xs_m_1_0], 5, false, true⟩] K = RL9_5  n i_5 xs_m_0_0 xs_m_0_1 xs_m_0_2 xs_m_1_0 (fun (u0 : List Int) => K .ret (selE 62 [(2, .nils), (3, (.I .i64 (200 : Int))), (4, (.sl 1 (0 : Nat) (none : Option Nat) (none : Option Nat)))]) [⟨[.ints .i64 xs_m_0_0, .ints .i64 xs_m_0_1, .ints .i64 xs_m_0_2], 53, true, false⟩, ⟨[.ints .u8 u0], 5, false, true⟩]) (fun (u0 : List Int) => K (.exit 0) (selE 62 [(2, .undef), (3, .undef), (4, (.sl 1 (0 : Nat) (none : Option Nat) (none : Option Nat)))]) [⟨[.ints .i64 xs_m_0_0, .ints .i64 xs_m_0_1, .ints .i64 xs_m_0_2], 53, true, false⟩, ⟨[.ints .u8 u0], 5, false, true⟩])
  | 0, i_5, xs_m_0_0, xs_m_0_1, xs_m_0_2, xs_m_1_0 => rfl
  | n + 1, i_5, xs_m_0_0, xs_m_0_1, xs_m_0_2, xs_m_1_0 => by
    have ih := RL9_5_ok  K n
    rw [HL9_5_ok  n i_5 xs_m_0_0 xs_m_0_1 xs_m_0_2 xs_m_1_0 K]
    show HL9_5  _ i_5 xs_m_0_0 xs_m_0_1 xs_m_0_2 xs_m_1_0 (fun (u0 : List Int) => K .ret (selE 62 [(2, .nils), (3, (.I .i64 (200 : Int))), (4, (.sl 1 (0 : Nat) (none : Option Nat) (none : Option Nat)))]) [⟨[.ints .i64 xs_m_0_0, .ints .i64 xs_m_0_1, .ints .i64 xs_m_0_2], 53, true, false⟩, ⟨[.ints .u8 u0], 5, false, true⟩]) (fun (u0 : List Int) => K (.exit 0) (selE 62 [(2, .undef), (3, .undef), (4, (.sl 1 (0 : Nat) (none : Option Nat) (none : Option Nat)))]) [⟨[.ints .i64 xs_m_0_0, .ints .i64 xs_m_0_1, .ints .i64 xs_m_0_2], 53, true, false⟩, ⟨[.ints .u8 u0], 5, false, true⟩]) = HL9_5  _ i_5 xs_m_0_0 xs_m_0_1 xs_m_0_2 xs_m_1_0 (fun (u0 : List Int) => K .ret (selE 62 [(2, .nils), (3, (.I .i64 (200 : Int))), (4, (.sl 1 (0 : Nat) (none : Option Nat) (none : Option Nat)))]) [⟨[.ints .i64 xs_m_0_0, .ints .i64 xs_m_0_1, .ints .i64 xs_m_0_2], 53, true, false⟩, ⟨[.ints .u8 u0], 5, false, true⟩]) (fun (u0 : List Int) => K (.exit 0) (selE 62 [(2, .undef), (3, .undef), (4, (.sl 1 (0 : Nat) (none : Option Nat) (none : Option Nat)))]) [⟨[.ints .i64 xs_m_0_0, .ints .i64 xs_m_0_1, .ints .i64 xs_m_0_2], 53, true, false⟩, ⟨[.ints .u8 u0], 5, false, true⟩])
    refine congrArg (fun r => HL9_5  r i_5 xs_m_0_0 xs_m_0_1 xs_m_0_2 xs_m_1_0 (fun (u0 : List Int) => K .ret (selE 62 [(2, .nils), (3, (.I .i64 (200 : Int))), (4, (.sl 1 (0 : Nat) (none : Option Nat) (none : Option Nat)))]) [⟨[.ints .i64 xs_m_0_0, .ints .i64 xs_m_0_1, .ints .i64 xs_m_0_2], 53, true, false⟩, ⟨[.ints .u8 u0], 5, false, true⟩]) (fun (u0 : List Int) => K (.exit 0) (selE 62 [(2, .undef), (3, .undef), (4, (.sl 1 (0 : Nat) (none : Option Nat) (none : Option Nat)))]) [⟨[.ints .i64 xs_m_0_0, .ints .i64 xs_m_0_1, .ints .i64 xs_m_0_2], 53, true, false⟩, ⟨[.ints .u8 u0], 5, false, true⟩])) ?_
    funext i_5 xs_m_1_0
    exact ih i_5 xs_m_0_0 xs_m_0_1 xs_m_0_2 xs_m_1_0
def GL9_5 : YL9_5 := fun x i_5 xs_m_0_0 xs_m_0_1 xs_m_0_2 xs_m_1_0 k1 k2 => x = XL9_5 ∧ ∃ n, RL9_5  n i_5 xs_m_0_0 xs_m_0_1 xs_m_0_2 xs_m_1_0 k1 k2
def FL9_5 : List Fil := [.slot 4 ⟨[.ints .u8 ([] : List Int)], 5, false, true⟩]
def VL9_5 (l : YL9_5) (F : Prop) (x : Code) (ρ : Env) (m : Mem) (K : Ex → Env → Mem → Prop) : Prop :=
  match ρ.has (62 - 1) with
  | true => (seeV (.sl 0 (0 : Nat) (none : Option Nat) (none : Option Nat)) (ρ.get 0) F (seeV (.sl 1 (0 : Nat) (none : Option Nat) (none : Option Nat)) (ρ.get 4) F (seeI .i64 (ρ.get 5) F fun i_5 => (seeCons m F fun a4 q5 => (seeBlk 53 true false a4 F fun cs6 => (seeCons cs6 F fun a7 q8 => (seeInts .i64 a7 F fun xs_m_0_0 => (seeCons q8 F fun a9 q10 => (seeInts .i64 a9 F fun xs_m_0_1 => (seeCons q10 F fun a11 q12 => (seeInts .i64 a11 F fun xs_m_0_2 => (seeNil q12 F (seeCons q5 F fun a13 q14 => (seeBlk 5 false true a13 F fun cs15 => (seeCons cs15 F fun a16 q17 => (seeInts .u8 a16 F fun xs_m_1_0 => (seeNil q17 F (seeNil q14 F (l x i_5 xs_m_0_0 xs_m_0_1 xs_m_0_2 xs_m_1_0 (fun (u0 : List Int) => K .ret (selE 62 [(2, .nils), (3, (.I .i64 (200 : Int))), (4, (.sl 1 (0 : Nat) (none : Option Nat) (none : Option Nat)))]) [⟨[.ints .i64 xs_m_0_0, .ints .i64 xs_m_0_1, .ints .i64 xs_m_0_2], 53, true, false⟩, ⟨[.ints .u8 u0], 5, false, true⟩]) (fun (u0 : List Int) => K (.exit 0) (selE 62 [(2, .undef), (3, .undef), (4, (.sl 1 (0 : Nat) (none : Option Nat) (none : Option Nat)))]) [⟨[.ints .i64 xs_m_0_0, .ints .i64 xs_m_0_1, .ints .i64 xs_m_0_2], 53, true, false⟩, ⟨[.ints .u8 u0], 5, false, true⟩]))))))))))))))))))))
  | false => False
def WL9_5 (l : YL9_5) (W : Masks) : Masks := fun r =>
  match Nat.beq r 5 with
  | true => some fun x ρ m K => VL9_5 l (match W r with | some lf => lf x ρ m K | none => False) x (tidyE 1 [0, 4, 5] (fil FL9_5 ρ m).1 (fil FL9_5 ρ m).2) (tidyM 1 [0, 4, 5] (fil FL9_5 ρ m).1 (fil FL9_5 ρ m).2) K
  | false => W r
set_option maxRecDepth 100000 in
theorem WL9_5_ok {W : Masks} (hW : LoopsOk Tryz.prog 1 W) : LoopsOk Tryz.prog 1 (WL9_5 GL9_5 W) := by
  intro r lf h
  unfold WL9_5 at h
  split at h
  · cases h
    intro x E0 m0 w0 J hS0 ha hJ ρ m K E a w Q hS hρ hd h hQ
    have fb : (match W r with | some lf => lf x ρ m K | none => False) → (Code.loop x).wp Tryz.prog Q a w := fun h => by
      split at h
      · rename_i lf hlf
        exact hW r lf hlf x hS0 ha hJ ρ m K E a w Q hS hρ hd h hQ
      · cases h
    obtain ⟨E1, hS1, hρ1⟩ := fil_step hS hρ FL9_5
    obtain ⟨E2, hS2, hρ2⟩ := tidy_rel hS0 hS1 hρ1 [0, 4, 5]
    rw [ha] at hS2 hρ2
    unfold VL9_5 at h
    split at h
    · rename_i hlen
      replace h := seeV_use h
      rcases h with h | ⟨e1, h⟩
      · exact fb h
      replace h := seeV_use h
      rcases h with h | ⟨e2, h⟩
      · exact fb h
      replace h := seeI_use h
      rcases h with h | ⟨i_5, e3, h⟩
      · exact fb h
      replace h := seeCons_use h
      rcases h with h | ⟨a4, q5, eqm, h⟩
      · exact fb h
      replace h := seeBlk_use h
      rcases h with h | ⟨cs6, rfl, h⟩
      · exact fb h
      replace h := seeCons_use h
      rcases h with h | ⟨a7, q8, rfl, h⟩
      · exact fb h
      replace h := seeInts_use h
      rcases h with h | ⟨xs_m_0_0, rfl, h⟩
      · exact fb h
      replace h := seeCons_use h
      rcases h with h | ⟨a9, q10, rfl, h⟩
      · exact fb h
      replace h := seeInts_use h
      rcases h with h | ⟨xs_m_0_1, rfl, h⟩
      · exact fb h
      replace h := seeCons_use h
      rcases h with h | ⟨a11, q12, rfl, h⟩
      · exact fb h
      replace h := seeInts_use h
      rcases h with h | ⟨xs_m_0_2, rfl, h⟩
      · exact fb h
      replace h := seeNil_use h
      rcases h with h | ⟨rfl, h⟩
      · exact fb h
      replace h := seeCons_use h
      rcases h with h | ⟨a13, q14, rfl, h⟩
      · exact fb h
      replace h := seeBlk_use h
      rcases h with h | ⟨cs15, rfl, h⟩
      · exact fb h
      replace h := seeCons_use h
      rcases h with h | ⟨a16, q17, rfl, h⟩
      · exact fb h
      replace h := seeInts_use h
      rcases h with h | ⟨xs_m_1_0, rfl, h⟩
      · exact fb h
      replace h := seeNil_use h
      rcases h with h | ⟨rfl, h⟩
      · exact fb h
      replace h := seeNil_use h
      rcases h with h | ⟨rfl, h⟩
      · exact fb h
      obtain ⟨rfl, n, h⟩ := h
      exact loop_use named CB_ok (LoopsOk.none _ _) (RL9_5_ok  K n _ _ _ _ _) h hS0 ha hJ hlen ⟨e1, e2, e3, trivial⟩ (eqm ▸ hS2) hρ2 hd hQ
    · cases h
  · exact hW r lf h
theorem at9 : Tryz.prog.funcs[9]? = some (fnOf Tryz.prog 9) := by kernel_rfl
abbrev Y9 : Type := List Int → List Int → List Int → (Prop) → (Prop) → (List Int → Prop) → Prop
set_option maxHeartbeats 4000000 in
set_option maxRecDepth 100000 in
def F9  (l9_5 : YL9_5) (xs : List Int) (ts : List Int) (ns : List Int) (k1 : Prop) (k2 : Prop) (k3 : List Int → Prop) : Prop :=
  (bif (decide (((((List.length xs) - (0 : Nat)) : Nat) : Int) > (4000 : Int))) then (k1) else (l9_5 XL9_5 (0 : Int) xs ts ns ([] : List Int) (fun (xs1 : List Int) => (k2)) (fun (xs2 : List Int) => (k3 xs2))))
theorem F9_ok  (l9_5 : YL9_5) (xs : List Int) (ts : List Int) (ns : List Int) (K : V → Mem → Prop) : cbody Tryz.prog CB (WL9_5 l9_5 (fun _ => none)) 1000 (fnOf Tryz.prog 9) [(.sl 0 (0 : Nat) (none : Option Nat) (none : Option Nat))] [⟨[.ints .i64 xs, .ints .i64 ts, .ints .i64 ns], 53, true, false⟩] K =
    F9  l9_5 xs ts ns (K (.tup [.nils, (.I .i64 (6 : Int))]) [⟨[.ints .i64 xs, .ints .i64 ts, .ints .i64 ns], 53, true, false⟩]) (K (.tup [.nils, (.I .i64 (200 : Int))]) [⟨[.ints .i64 xs, .ints .i64 ts, .ints .i64 ns], 53, true, false⟩]) (fun (u0 : List Int) => K (.tup [(.sl 1 (0 : Nat) (none : Option Nat) (none : Option Nat)), (.I .i64 (0 : Int))]) [⟨[.ints .i64 xs, .ints .i64 ts, .ints .i64 ns], 53, true, false⟩, ⟨[.ints .u8 u0], 5, false, true⟩]) := by kernel_rfl
abbrev YL17_7 : Type := Code → Int → List Int → List Int → (List Int → Prop) → Prop
set_option maxHeartbeats 4000000 in
set_option maxRecDepth 100000 in
def HL17_7  (rec : Int → List Int → Prop) (i_5 : Int) (xs_m_0_0 : List Int) (xs_m_1_0 : List Int) (k1 : List Int → Prop) : Prop :=
  (bif (decide (i_5 < ((((List.length xs_m_0_0) - (0 : Nat)) : Nat) : Int))) then (getS xs_m_0_0 i_5 (fun (gn2 : Int) => (bif ((decide (((((List.length xs_m_1_0) - (0 : Nat)) + (1 : Nat)) * (8 : Nat)) ≤ (140737488355328 : Nat))) && (decide ((((List.length xs_m_1_0) - (0 : Nat)) + (1 : Nat)) ≤ (140737488355328 : Nat)))) then (rec (IntKind.wrap .i64 (i_5 + (8 : Int))) (xs_m_1_0 ++ ([gn2] : List Int))) else False))) else (k1 xs_m_1_0))
def RL17_7  : Nat → Int → List Int → List Int → (List Int → Prop) → Prop
  | 0, _, _, _, _ => False
  | n + 1, i_5, xs_m_0_0, xs_m_1_0, k1 => HL17_7  (fun (i_5 : Int) (xs_m_1_0 : List Int) => RL17_7  n i_5 xs_m_0_0 xs_m_1_0 k1) i_5 xs_m_0_0 xs_m_1_0 k1
noncomputable def XL17_7 : Code := sub [true, true, true, true, false, true, false, false] (bodyOf Tryz.prog 17)
theorem HL17_7_ok  (n : Nat) (i_5 : Int) (xs_m_0_0 : List Int) (xs_m_1_0 : List Int) (K : Ex → Env → Mem → Prop) : cround 1 [0, 4, 5] [4] (fun ρ m K => cexec Tryz.prog CB (fun _ => none) 1 1000 XL17_7 ρ m K) (n + 1) (selE 32 [(0, (.sl 0 (0 : Nat) (none : Option Nat) (none : Option Nat))), (4, (.sl 1 (0 : Nat) (none : Option Nat) (none : Option Nat))), (5, (.I .i64 i_5))]) [⟨[.ints .u8 xs_m_0_0], 5, true, false⟩, ⟨[.ints .i64 xs_m_1_0], 3, false, true⟩] K =
    HL17_7  (fun (i_5 : Int) (xs_m_1_0 : List Int) => cround 1 [0, 4, 5] [4] (fun ρ m K => cexec Tryz.prog CB (fun _ => none) 1 1000 XL17_7 ρ m K) n (selE 32 [(0, (.sl 0 (0 : Nat) (none : Option Nat) (none : Option Nat))), (4, (.sl 1 (0 : Nat) (none : Option Nat) (none : Option Nat))), (5, (.I .i64 i_5))]) [⟨[.ints .u8 xs_m_0_0], 5, true, false⟩, ⟨[.ints .i64 xs_m_1_0], 3, false, true⟩] K) i_5 xs_m_0_0 xs_m_1_0 (fun (u0 : List Int) => K (.exit 0) (selE 32 [(4, (.sl 1 (0 : Nat) (none : Option Nat) (none : Option Nat)))]) [⟨[.ints .u8 xs_m_0_0], 5, true, false⟩, ⟨[.ints .i64 u0], 3, false, true⟩]) := by kernel_rfl
theorem RL17_7_ok  (K : Ex → Env → Mem → Prop) : ∀ (n : Nat) (i_5 : Int) (xs_m_0_0 : List Int) (xs_m_1_0 : List Int), cround 1 [0, 4, 5] [4] (fun ρ m K => cexec Tryz.prog CB (fun _ => none) 1 1000 XL17_7 ρ m K) n (selE 32 [(0, (.sl 0 (0 : Nat) (none : Option Nat) (none : Option Nat))), (4, (.sl 1 (0 : Nat) (none : Option Nat) (none : Option Nat))), (5, (.I .i64 i_5))]) [⟨[.ints .u8 xs_m_0_0], 5, true, false⟩, ⟨[.ints .i64 xs_m_1_0], 3, false, true⟩] K = RL17_7  n i_5 xs_m_0_0 xs_m_1_0 (fun (u0 : List Int) => K (.exit 0) (selE 32 [(4, (.sl 1 (0 : Nat) (none : Option Nat) (none : Option Nat)))]) [⟨[.ints .u8 xs_m_0_0], 5, true, false⟩, ⟨[.ints .i64 u0], 3, false, true⟩])
  | 0, i_5, xs_m_0_0, xs_m_1_0 => rfl
  | n + 1, i_5, xs_m_0_0, xs_m_1_0 => by
    have ih := RL17_7_ok  K n
    rw [HL17_7_ok  n i_5 xs_m_0_0 xs_m_1_0 K]
    show HL17_7  _ i_5 xs_m_0_0 xs_m_1_0 (fun (u0 : List Int) => K (.exit 0) (selE 32 [(4, (.sl 1 (0 : Nat) (none : Option Nat) (none : Option Nat)))]) [⟨[.ints .u8 xs_m_0_0], 5, true, false⟩, ⟨[.ints .i64 u0], 3, false, true⟩]) = HL17_7  _ i_5 xs_m_0_0 xs_m_1_0 (fun (u0 : List Int) => K (.exit 0) (selE 32 [(4, (.sl 1 (0 : Nat) (none : Option Nat) (none : Option Nat)))]) [⟨[.ints .u8 xs_m_0_0], 5, true, false⟩, ⟨[.ints .i64 u0], 3, false, true⟩])
    refine congrArg (fun r => HL17_7  r i_5 xs_m_0_0 xs_m_1_0 (fun (u0 : List Int) => K (.exit 0) (selE 32 [(4, (.sl 1 (0 : Nat) (none : Option Nat) (none : Option Nat)))]) [⟨[.ints .u8 xs_m_0_0], 5, true, false⟩, ⟨[.ints .i64 u0], 3, false, true⟩])) ?_
    funext i_5 xs_m_1_0
    exact ih i_5 xs_m_0_0 xs_m_1_0
def GL17_7 : YL17_7 := fun x i_5 xs_m_0_0 xs_m_1_0 k1 => x = XL17_7 ∧ ∃ n, RL17_7  n i_5 xs_m_0_0 xs_m_1_0 k1
def FL17_7 : List Fil := [.slot 4 ⟨[.ints .i64 ([] : List Int)], 3, false, true⟩]
def VL17_7 (l : YL17_7) (F : Prop) (x : Code) (ρ : Env) (m : Mem) (K : Ex → Env → Mem → Prop) : Prop :=
  match ρ.has (32 - 1) with
  | true => (seeV (.sl 0 (0 : Nat) (none : Option Nat) (none : Option Nat)) (ρ.get 0) F (seeV (.sl 1 (0 : Nat) (none : Option Nat) (none : Option Nat)) (ρ.get 4) F (seeI .i64 (ρ.get 5) F fun i_5 => (seeCons m F fun a4 q5 => (seeBlk 5 true false a4 F fun cs6 => (seeCons cs6 F fun a7 q8 => (seeInts .u8 a7 F fun xs_m_0_0 => (seeNil q8 F (seeCons q5 F fun a9 q10 => (seeBlk 3 false true a9 F fun cs11 => (seeCons cs11 F fun a12 q13 => (seeInts .i64 a12 F fun xs_m_1_0 => (seeNil q13 F (seeNil q10 F (l x i_5 xs_m_0_0 xs_m_1_0 (fun (u0 : List Int) => K (.exit 0) (selE 32 [(4, (.sl 1 (0 : Nat) (none : Option Nat) (none : Option Nat)))]) [⟨[.ints .u8 xs_m_0_0], 5, true, false⟩, ⟨[.ints .i64 u0], 3, false, true⟩]))))))))))))))))
  | false => False
def WL17_7 (l : YL17_7) (W : Masks) : Masks := fun r =>
  match Nat.beq r 7 with
  | true => some fun x ρ m K => VL17_7 l (match W r with | some lf => lf x ρ m K | none => False) x (tidyE 1 [0, 4, 5] (fil FL17_7 ρ m).1 (fil FL17_7 ρ m).2) (tidyM 1 [0, 4, 5] (fil FL17_7 ρ m).1 (fil FL17_7 ρ m).2) K
  | false => W r
set_option maxRecDepth 100000 in
theorem WL17_7_ok {W : Masks} (hW : LoopsOk Tryz.prog 1 W) : LoopsOk Tryz.prog 1 (WL17_7 GL17_7 W) := by
  intro r lf h
  unfold WL17_7 at h
  split at h
  · cases h
    intro x E0 m0 w0 J hS0 ha hJ ρ m K E a w Q hS hρ hd h hQ
    have fb : (match W r with | some lf => lf x ρ m K | none => False) → (Code.loop x).wp Tryz.prog Q a w := fun h => by
      split at h
      · rename_i lf hlf
        exact hW r lf hlf x hS0 ha hJ ρ m K E a w Q hS hρ hd h hQ
      · cases h
    obtain ⟨E1, hS1, hρ1⟩ := fil_step hS hρ FL17_7
    obtain ⟨E2, hS2, hρ2⟩ := tidy_rel hS0 hS1 hρ1 [0, 4, 5]
    rw [ha] at hS2 hρ2
    unfold VL17_7 at h
    split at h
    · rename_i hlen
      replace h := seeV_use h
      rcases h with h | ⟨e1, h⟩
      · exact fb h
      replace h := seeV_use h
      rcases h with h | ⟨e2, h⟩
      · exact fb h
      replace h := seeI_use h
      rcases h with h | ⟨i_5, e3, h⟩
      · exact fb h
      replace h := seeCons_use h
      rcases h with h | ⟨a4, q5, eqm, h⟩
      · exact fb h
      replace h := seeBlk_use h
      rcases h with h | ⟨cs6, rfl, h⟩
      · exact fb h
      replace h := seeCons_use h
      rcases h with h | ⟨a7, q8, rfl, h⟩
      · exact fb h
      replace h := seeInts_use h
      rcases h with h | ⟨xs_m_0_0, rfl, h⟩
      · exact fb h
      replace h := seeNil_use h
      rcases h with h | ⟨rfl, h⟩
      · exact fb h
      replace h := seeCons_use h
      rcases h with h | ⟨a9, q10, rfl, h⟩
      · exact fb h
      replace h := seeBlk_use h
      rcases h with h | ⟨cs11, rfl, h⟩
      · exact fb h
      replace h := seeCons_use h
      rcases h with h | ⟨a12, q13, rfl, h⟩
      · exact fb h
      replace h := seeInts_use h
      rcases h with h | ⟨xs_m_1_0, rfl, h⟩
      · exact fb h
      replace h := seeNil_use h
      rcases h with h | ⟨rfl, h⟩
      · exact fb h
      replace h := seeNil_use h
      rcases h with h | ⟨rfl, h⟩
      · exact fb h
      obtain ⟨rfl, n, h⟩ := h
      exact loop_use named CB_ok (LoopsOk.none _ _) (RL17_7_ok  K n _ _ _) h hS0 ha hJ hlen ⟨e1, e2, e3, trivial⟩ (eqm ▸ hS2) hρ2 hd hQ
    · cases h
  · exact hW r lf h
theorem at17 : Tryz.prog.funcs[17]? = some (fnOf Tryz.prog 17) := by kernel_rfl
abbrev Y17 : Type := List Int → (Prop) → (Prop) → (List Int → Prop) → Prop
set_option maxHeartbeats 4000000 in
set_option maxRecDepth 100000 in
def F17  (l17_7 : YL17_7) (bs : List Int) (k1 : Prop) (k2 : Prop) (k3 : List Int → Prop) : Prop :=
  (bif (decide (((((List.length bs) - (0 : Nat)) : Nat) : Int) > (1048576 : Int))) then (k1) else (bif ((Int.tmod ((((List.length bs) - (0 : Nat)) : Nat) : Int) (8 : Int)) != (0 : Int)) then (k2) else (l17_7 XL17_7 (0 : Int) bs ([] : List Int) (fun (xs1 : List Int) => (k3 xs1)))))
theorem F17_ok  (l17_7 : YL17_7) (bs : List Int) (K : V → Mem → Prop) : cbody Tryz.prog CB (WL17_7 l17_7 (fun _ => none)) 1000 (fnOf Tryz.prog 17) [(.sl 0 (0 : Nat) (none : Option Nat) (none : Option Nat))] [⟨[.ints .u8 bs], 5, true, false⟩] K =
    F17  l17_7 bs (K (.tup [.nils, (.I .i64 (6 : Int))]) [⟨[.ints .u8 bs], 5, true, false⟩]) (K (.tup [.nils, (.I .i64 (11 : Int))]) [⟨[.ints .u8 bs], 5, true, false⟩]) (fun (u0 : List Int) => K (.tup [(.sl 1 (0 : Nat) (none : Option Nat) (none : Option Nat)), (.I .i64 (0 : Int))]) [⟨[.ints .u8 bs], 5, true, false⟩, ⟨[.ints .i64 u0], 3, false, true⟩]) := by kernel_rfl
abbrev YL16_7 : Type := Code → Int → List Int → List Int → (List Int → Prop) → Prop
set_option maxHeartbeats 4000000 in
set_option maxRecDepth 100000 in
def HL16_7  (rec : Int → List Int → Prop) (i_5 : Int) (xs_m_0_0 : List Int) (xs_m_1_0 : List Int) (k1 : List Int → Prop) : Prop :=
  (bif (decide (i_5 < ((((List.length xs_m_0_0) - (0 : Nat)) : Nat) : Int))) then (getS xs_m_0_0 i_5 (fun (gn2 : Int) => (bif ((decide (((((List.length xs_m_1_0) - (0 : Nat)) + (1 : Nat)) * (8 : Nat)) ≤ (140737488355328 : Nat))) && (decide ((((List.length xs_m_1_0) - (0 : Nat)) + (1 : Nat)) ≤ (140737488355328 : Nat)))) then (rec (IntKind.wrap .i64 (i_5 + (8 : Int))) (xs_m_1_0 ++ ([gn2] : List Int))) else False))) else (k1 xs_m_1_0))
def RL16_7  : Nat → Int → List Int → List Int → (List Int → Prop) → Prop
  | 0, _, _, _, _ => False
  | n + 1, i_5, xs_m_0_0, xs_m_1_0, k1 => HL16_7  (fun (i_5 : Int) (xs_m_1_0 : List Int) => RL16_7  n i_5 xs_m_0_0 xs_m_1_0 k1) i_5 xs_m_0_0 xs_m_1_0 k1
noncomputable def XL16_7 : Code := sub [true, true, true, true, false, true, false, false] (bodyOf Tryz.prog 16)
theorem HL16_7_ok  (n : Nat) (i_5 : Int) (xs_m_0_0 : List Int) (xs_m_1_0 : List Int) (K : Ex → Env → Mem → Prop) : cround 1 [0, 4, 5] [4] (fun ρ m K => cexec Tryz.prog CB (fun _ => none) 1 1000 XL16_7 ρ m K) (n + 1) (selE 32 [(0, (.sl 0 (0 : Nat) (none : Option Nat) (none : Option Nat))), (4, (.sl 1 (0 : Nat) (none : Option Nat) (none : Option Nat))), (5, (.I .i64 i_5))]) [⟨[.ints .u8 xs_m_0_0], 5, true, false⟩, ⟨[.ints .i64 xs_m_1_0], 3, false, true⟩] K =
    HL16_7  (fun (i_5 : Int) (xs_m_1_0 : List Int) => cround 1 [0, 4, 5] [4] (fun ρ m K => cexec Tryz.prog CB (fun _ => none) 1 1000 XL16_7 ρ m K) n (selE 32 [(0, (.sl 0 (0 : Nat) (none : Option Nat) (none : Option Nat))), (4, (.sl 1 (0 : Nat) (none : Option Nat) (none : Option Nat))), (5, (.I .i64 i_5))]) [⟨[.ints .u8 xs_m_0_0], 5, true, false⟩, ⟨[.ints .i64 xs_m_1_0], 3, false, true⟩] K) i_5 xs_m_0_0 xs_m_1_0 (fun (u0 : List Int) => K (.exit 0) (selE 32 [(4, (.sl 1 (0 : Nat) (none : Option Nat) (none : Option Nat)))]) [⟨[.ints .u8 xs_m_0_0], 5, true, false⟩, ⟨[.ints .i64 u0], 3, false, true⟩]) := by kernel_rfl
theorem RL16_7_ok  (K : Ex → Env → Mem → Prop) : ∀ (n : Nat) (i_5 : Int) (xs_m_0_0 : List Int) (xs_m_1_0 : List Int), cround 1 [0, 4, 5] [4] (fun ρ m K => cexec Tryz.prog CB (fun _ => none) 1 1000 XL16_7 ρ m K) n (selE 32 [(0, (.sl 0 (0 : Nat) (none : Option Nat) (none : Option Nat))), (4, (.sl 1 (0 : Nat) (none : Option Nat) (none : Option Nat))), (5, (.I .i64 i_5))]) [⟨[.ints .u8 xs_m_0_0], 5, true, false⟩, ⟨[.ints .i64 xs_m_1_0], 3, false, true⟩] K = RL16_7  n i_5 xs_m_0_0 xs_m_1_0 (fun (u0 : List Int) => K (.exit 0) (selE 32 [(4, (.sl 1 (0 : Nat) (none : Option Nat) (none : Option Nat)))]) [⟨[.ints .u8 xs_m_0_0], 5, true, false⟩, ⟨[.ints .i64 u0], 3, false, true⟩])
  | 0, i_5, xs_m_0_0, xs_m_1_0 => rfl
  | n + 1, i_5, xs_m_0_0, xs_m_1_0 => by
    have ih := RL16_7_ok  K n
    rw [HL16_7_ok  n i_5 xs_m_0_0 xs_m_1_0 K]
    show HL16_7  _ i_5 xs_m_0_0 xs_m_1_0 (fun (u0 : List Int) => K (.exit 0) (selE 32 [(4, (.sl 1 (0 : Nat) (none : Option Nat) (none : Option Nat)))]) [⟨[.ints .u8 xs_m_0_0], 5, true, false⟩, ⟨[.ints .i64 u0], 3, false, true⟩]) = HL16_7  _ i_5 xs_m_0_0 xs_m_1_0 (fun (u0 : List Int) => K (.exit 0) (selE 32 [(4, (.sl 1 (0 : Nat) (none : Option Nat) (none : Option Nat)))]) [⟨[.ints .u8 xs_m_0_0], 5, true, false⟩, ⟨[.ints .i64 u0], 3, false, true⟩])
    refine congrArg (fun r => HL16_7  r i_5 xs_m_0_0 xs_m_1_0 (fun (u0 : List Int) => K (.exit 0) (selE 32 [(4, (.sl 1 (0 : Nat) (none : Option Nat) (none : Option Nat)))]) [⟨[.ints .u8 xs_m_0_0], 5, true, false⟩, ⟨[.ints .i64 u0], 3, false, true⟩])) ?_
    funext i_5 xs_m_1_0
    exact ih i_5 xs_m_0_0 xs_m_1_0
def GL16_7 : YL16_7 := fun x i_5 xs_m_0_0 xs_m_1_0 k1 => x = XL16_7 ∧ ∃ n, RL16_7  n i_5 xs_m_0_0 xs_m_1_0 k1
def FL16_7 : List Fil := [.slot 4 ⟨[.ints .i64 ([] : List Int)], 3, false, true⟩]
def VL16_7 (l : YL16_7) (F : Prop) (x : Code) (ρ : Env) (m : Mem) (K : Ex → Env → Mem → Prop) : Prop :=
  match ρ.has (32 - 1) with
  | true => (seeV (.sl 0 (0 : Nat) (none : Option Nat) (none : Option Nat)) (ρ.get 0) F (seeV (.sl 1 (0 : Nat) (none : Option Nat) (none : Option Nat)) (ρ.get 4) F (seeI .i64 (ρ.get 5) F fun i_5 => (seeCons m F fun a4 q5 => (seeBlk 5 true false a4 F fun cs6 => (seeCons cs6 F fun a7 q8 => (seeInts .u8 a7 F fun xs_m_0_0 => (seeNil q8 F (seeCons q5 F fun a9 q10 => (seeBlk 3 false true a9 F fun cs11 => (seeCons cs11 F fun a12 q13 => (seeInts .i64 a12 F fun xs_m_1_0 => (seeNil q13 F (seeNil q10 F (l x i_5 xs_m_0_0 xs_m_1_0 (fun (u0 : List Int) => K (.exit 0) (selE 32 [(4, (.sl 1 (0 : Nat) (none : Option Nat) (none : Option Nat)))]) [⟨[.ints .u8 xs_m_0_0], 5, true, false⟩, ⟨[.ints .i64 u0], 3, false, true⟩]))))))))))))))))
  | false => False
def WL16_7 (l : YL16_7) (W : Masks) : Masks := fun r =>
  match Nat.beq r 7 with
  | true => some fun x ρ m K => VL16_7 l (match W r with | some lf => lf x ρ m K | none => False) x (tidyE 1 [0, 4, 5] (fil FL16_7 ρ m).1 (fil FL16_7 ρ m).2) (tidyM 1 [0, 4, 5] (fil FL16_7 ρ m).1 (fil FL16_7 ρ m).2) K
  | false => W r
set_option maxRecDepth 100000 in
theorem WL16_7_ok {W : Masks} (hW : LoopsOk Tryz.prog 1 W) : LoopsOk Tryz.prog 1 (WL16_7 GL16_7 W) := by
  intro r lf h
  unfold WL16_7 at h
  split at h
  · cases h
    intro x E0 m0 w0 J hS0 ha hJ ρ m K E a w Q hS hρ hd h hQ
    have fb : (match W r with | some lf => lf x ρ m K | none => False) → (Code.loop x).wp Tryz.prog Q a w := fun h => by
      split at h
      · rename_i lf hlf
        exact hW r lf hlf x hS0 ha hJ ρ m K E a w Q hS hρ hd h hQ
      · cases h
    obtain ⟨E1, hS1, hρ1⟩ := fil_step hS hρ FL16_7
    obtain ⟨E2, hS2, hρ2⟩ := tidy_rel hS0 hS1 hρ1 [0, 4, 5]
    rw [ha] at hS2 hρ2
    unfold VL16_7 at h
    split at h
    · rename_i hlen
      replace h := seeV_use h
      rcases h with h | ⟨e1, h⟩
      · exact fb h
      replace h := seeV_use h
      rcases h with h | ⟨e2, h⟩
      · exact fb h
      replace h := seeI_use h
      rcases h with h | ⟨i_5, e3, h⟩
      · exact fb h
      replace h := seeCons_use h
      rcases h with h | ⟨a4, q5, eqm, h⟩
      · exact fb h
      replace h := seeBlk_use h
      rcases h with h | ⟨cs6, rfl, h⟩
      · exact fb h
      replace h := seeCons_use h
      rcases h with h | ⟨a7, q8, rfl, h⟩
      · exact fb h
      replace h := seeInts_use h
      rcases h with h | ⟨xs_m_0_0, rfl, h⟩
      · exact fb h
      replace h := seeNil_use h
      rcases h with h | ⟨rfl, h⟩
      · exact fb h
      replace h := seeCons_use h
      rcases h with h | ⟨a9, q10, rfl, h⟩
      · exact fb h
      replace h := seeBlk_use h
      rcases h with h | ⟨cs11, rfl, h⟩
      · exact fb h
      replace h := seeCons_use h
      rcases h with h | ⟨a12, q13, rfl, h⟩
      · exact fb h
      replace h := seeInts_use h
      rcases h with h | ⟨xs_m_1_0, rfl, h⟩
      · exact fb h
      replace h := seeNil_use h
      rcases h with h | ⟨rfl, h⟩
      · exact fb h
      replace h := seeNil_use h
      rcases h with h | ⟨rfl, h⟩
      · exact fb h
      obtain ⟨rfl, n, h⟩ := h
      exact loop_use named CB_ok (LoopsOk.none _ _) (RL16_7_ok  K n _ _ _) h hS0 ha hJ hlen ⟨e1, e2, e3, trivial⟩ (eqm ▸ hS2) hρ2 hd hQ
    · cases h
  · exact hW r lf h
theorem at16_ : Tryz.prog.funcs[16]? = some (fnOf Tryz.prog 16) := by kernel_rfl
abbrev Y16 : Type := List Int → (Prop) → (Prop) → (List Int → Prop) → Prop
set_option maxHeartbeats 4000000 in
set_option maxRecDepth 100000 in
def F16  (l16_7 : YL16_7) (bs : List Int) (k1 : Prop) (k2 : Prop) (k3 : List Int → Prop) : Prop :=
  (bif (decide (((((List.length bs) - (0 : Nat)) : Nat) : Int) > (1048576 : Int))) then (k1) else (bif ((Int.tmod ((((List.length bs) - (0 : Nat)) : Nat) : Int) (8 : Int)) != (0 : Int)) then (k2) else (l16_7 XL16_7 (0 : Int) bs ([] : List Int) (fun (xs1 : List Int) => (k3 xs1)))))
theorem F16_ok  (l16_7 : YL16_7) (bs : List Int) (K : V → Mem → Prop) : cbody Tryz.prog CB (WL16_7 l16_7 (fun _ => none)) 1000 (fnOf Tryz.prog 16) [(.sl 0 (0 : Nat) (none : Option Nat) (none : Option Nat))] [⟨[.ints .u8 bs], 5, true, false⟩] K =
    F16  l16_7 bs (K (.tup [.nils, (.I .i64 (6 : Int))]) [⟨[.ints .u8 bs], 5, true, false⟩]) (K (.tup [.nils, (.I .i64 (11 : Int))]) [⟨[.ints .u8 bs], 5, true, false⟩]) (fun (u0 : List Int) => K (.tup [(.sl 1 (0 : Nat) (none : Option Nat) (none : Option Nat)), (.I .i64 (0 : Int))]) [⟨[.ints .u8 bs], 5, true, false⟩, ⟨[.ints .i64 u0], 3, false, true⟩]) := by kernel_rfl
end r
/-! ### Arrays: of any bytes -/
def arrV (ns post : List Int) : List Int := bif post.isEmpty then ns else []
def arrC (post : List Int) : Int := bif post.isEmpty then 0 else 11
def arrS2 (bs : List Int) (k : List Int → Int → Prop) : Prop := ∃ ns post : List Int, bs = ns.flatMap enc8 ++ post ∧ post.length < 8 ∧ (∀ n ∈ ns, inI n) ∧ sm bs.length ∧ k (arrV ns post) (arrC post)
theorem h16b {bs : List Int} {k : List Int → Int → Prop} {a1 a2 : Prop} {a3 : List Int → Prop} (i2 : k [] 11 → a2) (i3 : ∀ b, k b 0 → a3 b) (h : arrS2 bs k) : F16 GL16_7 bs a1 a2 a3 := by
  obtain ⟨ns, post, rfl, hp, hr, hs, hk⟩ := h
  have hl := enc8_len ns
  have hs' : (ns.flatMap enc8 ++ post).length ≤ 1048576 := hs
  have hl2 : (ns.flatMap enc8 ++ post).length = 8 * ns.length + post.length := by rw [List.length_append, hl]
  unfold F16
  rw [decide_eq_false (by omega : ¬ (((List.length (ns.flatMap enc8 ++ post) - (0 : Nat) : Nat)) : Int) > 1048576)]
  cases post with
  | nil =>
    rw [List.append_nil] at hs' ⊢
    clear hl2
    have e : (Int.tmod (((List.length (ns.flatMap enc8) - (0 : Nat) : Nat)) : Int) 8 != 0) = false := by
      rw [hl, Int.tmod_eq_emod_of_nonneg (by omega)]; simp <;> omega
    rw [e]
    exact ⟨rfl, ns.length + 1, ar_in _ ns [] (by rw [List.nil_append]; omega) hr (i3 _ hk)⟩
  | cons y post =>
    have e : (Int.tmod (((List.length (ns.flatMap enc8 ++ y :: post) - (0 : Nat) : Nat)) : Int) 8 != 0) = true := by
      rw [Int.tmod_eq_emod_of_nonneg (by omega)]
      simp only [bne_iff_ne, ne_eq]
      simp only [List.length_cons] at hp hl2
      omega
    rw [e]
    exact i2 hk
theorem ar16r (k : List Int → Prop) : ∀ (T A : List Int), (A ++ T).length ≤ 131072 → (∀ n ∈ T, inI n) → k (A ++ T) → r.RL16_7 (T.length + 1) ((8 * A.length : Nat) : Int) ((A ++ T).flatMap enc8) A k
  | [], A, hs, hr, hk => by
    have hl := enc8_len (A ++ [])
    show r.HL16_7 _ _ _ _ _
    unfold r.HL16_7
    rw [decide_eq_false (by rw [hl]; simp : ¬ ((8 * A.length : Nat) : Int) < (((List.length ((A ++ ([] : List Int)).flatMap enc8) - (0 : Nat) : Nat)) : Int))]
    rw [List.append_nil] at hk
    exact hk
  | x :: T, A, hs, hr, hk => by
    have hs' : A.length + (T.length + 1) ≤ 131072 := by simpa using hs
    have hl := enc8_len (A ++ x :: T)
    have hx := hr x (by simp)
    have ei : IntKind.wrap .i64 (((8 * A.length : Nat) : Int) + 8) = ((8 * (A ++ [x]).length : Nat) : Int) := by rw [w64 (by omega) (by omega)]; simp; omega
    show r.HL16_7 _ _ _ _ _
    unfold r.HL16_7
    rw [decide_eq_true (by rw [hl]; simp; omega : ((8 * A.length : Nat) : Int) < (((List.length ((A ++ x :: T).flatMap enc8) - (0 : Nat) : Nat)) : Int)), ei]
    refine ⟨A.flatMap enc8, T.flatMap enc8, x, by simp, by rw [enc8_len], hx.1, hx.2, by unfold small; rw [hl]; simp; omega, ?_⟩
    rw [decide_eq_true (by omega : (List.length A - 0 + 1) * 8 ≤ 140737488355328), decide_eq_true (by omega : List.length A - 0 + 1 ≤ 140737488355328)]
    have e2 : A ++ x :: T = A ++ [x] ++ T := by simp
    rw [e2]
    exact ar16r k T (A ++ [x]) (by simp; omega) (fun n hn => hr n (by simp [hn])) (by simpa using hk)
theorem h16r {bs : List Int} {k : List Int → Int → Prop} {a1 a2 : Prop} {a3 : List Int → Prop} (i2 : k [] 11 → a2) (i3 : ∀ b, k b 0 → a3 b) (h : arrS2 bs k) : r.F16 r.GL16_7 bs a1 a2 a3 := by
  obtain ⟨ns, post, rfl, hp, hr, hs, hk⟩ := h
  have hl := enc8_len ns
  have hs' : (ns.flatMap enc8 ++ post).length ≤ 1048576 := hs
  have hl2 : (ns.flatMap enc8 ++ post).length = 8 * ns.length + post.length := by rw [List.length_append, hl]
  unfold r.F16
  rw [decide_eq_false (by omega : ¬ (((List.length (ns.flatMap enc8 ++ post) - (0 : Nat) : Nat)) : Int) > 1048576)]
  cases post with
  | nil =>
    rw [List.append_nil] at hs' ⊢
    clear hl2
    have e : (Int.tmod (((List.length (ns.flatMap enc8) - (0 : Nat) : Nat)) : Int) 8 != 0) = false := by
      rw [hl, Int.tmod_eq_emod_of_nonneg (by omega)]; simp <;> omega
    rw [e]
    exact ⟨rfl, ns.length + 1, ar16r _ ns [] (by rw [List.nil_append]; omega) hr (i3 _ hk)⟩
  | cons y post =>
    have e : (Int.tmod (((List.length (ns.flatMap enc8 ++ y :: post) - (0 : Nat) : Nat)) : Int) 8 != 0) = true := by
      rw [Int.tmod_eq_emod_of_nonneg (by omega)]
      simp only [bne_iff_ne, ne_eq]
      simp only [List.length_cons] at hp hl2
      omega
    rw [e]
    exact i2 hk
theorem ar17r (k : List Int → Prop) : ∀ (T A : List Int), (A ++ T).length ≤ 131072 → (∀ n ∈ T, inI n) → k (A ++ T) → r.RL17_7 (T.length + 1) ((8 * A.length : Nat) : Int) ((A ++ T).flatMap enc8) A k
  | [], A, hs, hr, hk => by
    have hl := enc8_len (A ++ [])
    show r.HL17_7 _ _ _ _ _
    unfold r.HL17_7
    rw [decide_eq_false (by rw [hl]; simp : ¬ ((8 * A.length : Nat) : Int) < (((List.length ((A ++ ([] : List Int)).flatMap enc8) - (0 : Nat) : Nat)) : Int))]
    rw [List.append_nil] at hk
    exact hk
  | x :: T, A, hs, hr, hk => by
    have hs' : A.length + (T.length + 1) ≤ 131072 := by simpa using hs
    have hl := enc8_len (A ++ x :: T)
    have hx := hr x (by simp)
    have ei : IntKind.wrap .i64 (((8 * A.length : Nat) : Int) + 8) = ((8 * (A ++ [x]).length : Nat) : Int) := by rw [w64 (by omega) (by omega)]; simp; omega
    show r.HL17_7 _ _ _ _ _
    unfold r.HL17_7
    rw [decide_eq_true (by rw [hl]; simp; omega : ((8 * A.length : Nat) : Int) < (((List.length ((A ++ x :: T).flatMap enc8) - (0 : Nat) : Nat)) : Int)), ei]
    refine ⟨A.flatMap enc8, T.flatMap enc8, x, by simp, by rw [enc8_len], hx.1, hx.2, by unfold small; rw [hl]; simp; omega, ?_⟩
    rw [decide_eq_true (by omega : (List.length A - 0 + 1) * 8 ≤ 140737488355328), decide_eq_true (by omega : List.length A - 0 + 1 ≤ 140737488355328)]
    have e2 : A ++ x :: T = A ++ [x] ++ T := by simp
    rw [e2]
    exact ar17r k T (A ++ [x]) (by simp; omega) (fun n hn => hr n (by simp [hn])) (by simpa using hk)
theorem h17r {bs : List Int} {k : List Int → Int → Prop} {a1 a2 : Prop} {a3 : List Int → Prop} (i2 : k [] 11 → a2) (i3 : ∀ b, k b 0 → a3 b) (h : arrS2 bs k) : r.F17 r.GL17_7 bs a1 a2 a3 := by
  obtain ⟨ns, post, rfl, hp, hr, hs, hk⟩ := h
  have hl := enc8_len ns
  have hs' : (ns.flatMap enc8 ++ post).length ≤ 1048576 := hs
  have hl2 : (ns.flatMap enc8 ++ post).length = 8 * ns.length + post.length := by rw [List.length_append, hl]
  unfold r.F17
  rw [decide_eq_false (by omega : ¬ (((List.length (ns.flatMap enc8 ++ post) - (0 : Nat) : Nat)) : Int) > 1048576)]
  cases post with
  | nil =>
    rw [List.append_nil] at hs' ⊢
    clear hl2
    have e : (Int.tmod (((List.length (ns.flatMap enc8) - (0 : Nat) : Nat)) : Int) 8 != 0) = false := by
      rw [hl, Int.tmod_eq_emod_of_nonneg (by omega)]; simp <;> omega
    rw [e]
    exact ⟨rfl, ns.length + 1, ar17r _ ns [] (by rw [List.nil_append]; omega) hr (i3 _ hk)⟩
  | cons y post =>
    have e : (Int.tmod (((List.length (ns.flatMap enc8 ++ y :: post) - (0 : Nat) : Nat)) : Int) 8 != 0) = true := by
      rw [Int.tmod_eq_emod_of_nonneg (by omega)]
      simp only [bne_iff_ne, ne_eq]
      simp only [List.length_cons] at hp hl2
      omega
    rw [e]
    exact i2 hk
theorem bare3 : (⟨[.ints .i64 []], 3, false, true⟩ : Blk).bare = true := by decide
def P16b : Prim := fun args m K =>
  match args, m with
  | [.sl 0 0 none none], [⟨[.ints .u8 bs], e, ro, false⟩] =>
    (match Nat.beq e 5 with | true => arrS2 bs (fun ns c => K (.tup [.sl 1 0 none none, .I .i64 c]) [⟨[.ints .u8 bs], 5, ro, false⟩, ⟨[.ints .i64 ns], 3, false, true⟩]) | false => False)
  | _, _ => False
def P17b : Prim := fun args m K =>
  match args, m with
  | [.sl 0 0 none none], [⟨[.ints .u8 bs], e, true, false⟩] =>
    (match Nat.beq e 5 with | true => arrS2 bs (fun ns c => K (.tup [.sl 1 0 none none, .I .i64 c]) [⟨[.ints .u8 bs], 5, true, false⟩, ⟨[.ints .i64 ns], 3, false, true⟩]) | false => False)
  | _, _ => False
theorem P16b_ok : PrimOk Tryz.prog 16 P16b := by
  intro args m K E w cargs hS ha h
  unfold P16b at h
  split at h
  · rename_i bs e ro
    split at h
    · rename_i he
      obtain rfl := Nat.eq_of_beq_eq_true he
      cases ro with
      | false =>
        refine nk_use (et := 3) bare3 (cbody_use named C6_ok at16 (l := 1) rfl (WL16_7_ok (LoopsOk.none _ _)) (F16_ok GL16_7 bs _) hS ha ?_)
        exact h16b (fun h => nk_nil (m := [⟨[.ints .u8 bs], 5, false, false⟩]) h) (fun b h => nk_id h) h
      | true =>
        refine nk_use (et := 3) bare3 (cbody_use named CB_ok at16 (l := 1) rfl (r.WL16_7_ok (LoopsOk.none _ _)) (r.F16_ok r.GL16_7 bs _) hS ha ?_)
        exact h16r (fun h => nk_nil (m := [⟨[.ints .u8 bs], 5, true, false⟩]) h) (fun b h => nk_id h) h
    · cases h
  · cases h
theorem P17b_ok : PrimOk Tryz.prog 17 P17b := by
  intro args m K E w cargs hS ha h
  unfold P17b at h
  split at h
  · rename_i bs e
    split at h
    · rename_i he
      obtain rfl := Nat.eq_of_beq_eq_true he
      refine nk_use (et := 3) bare3 (cbody_use named CB_ok r.at17 (l := 1) rfl (r.WL17_7_ok (LoopsOk.none _ _)) (r.F17_ok r.GL17_7 bs _) hS ha ?_)
      exact h17r (fun h => nk_nil (m := [⟨[.ints .u8 bs], 5, true, false⟩]) h) (fun b h => nk_id h) h
    · cases h
  · cases h
/-! ### Writing: any records -/
open Classical in
noncomputable def wrV (rs : List R) : List Int := if allOk rs then rs.flatMap encR else []
open Classical in
noncomputable def wrC (rs : List R) : Int := if rs.length ≤ 4000 then (if allOk rs then 0 else 200) else 6
def wrS2 (xs ts ns : List Int) (k : List Int → Int → Prop) : Prop := ∃ rs : List R, is3 rs xs ts ns ∧ sm rs.length ∧ k (wrV rs) (wrC rs)
theorem wr9_in (k1 k2 : List Int → Prop) : ∀ (T A : List R), (A ++ T).length ≤ 4000 → ((¬ ∀ r ∈ T, okR r) → ∀ bs, k1 bs) → ((∀ r ∈ T, okR r) → k2 ((A ++ T).flatMap encR)) →
    r.RL9_5 (T.length + 1) ((A.length : Nat) : Int) ((A ++ T).map f1) ((A ++ T).map f2) ((A ++ T).map f3) (A.flatMap encR) k1 k2
  | [], A, hs, h1, h2 => by
    show r.HL9_5 _ _ _ _ _ _ _ _
    unfold r.HL9_5
    rw [decide_eq_false (by simp : ¬ ((A.length : Nat) : Int) < (((List.length ((A ++ ([] : List R)).map f1) - (0 : Nat) : Nat)) : Int))]
    have := h2 (by simp)
    rw [List.append_nil] at this
    exact this
  | x :: T, A, hs, h1, h2 => by
    have hs' : A.length + (T.length + 1) ≤ 4000 := by simpa using hs
    have ei : IntKind.wrap .i64 (((A.length : Nat) : Int) + 1) = (((A ++ [x]).length : Nat) : Int) := by rw [w64 (by omega) (by omega)]; simp
    have hA := enc_len A
    show r.HL9_5 _ _ _ _ _ _ _ _
    unfold r.HL9_5
    rw [ei, inb (by simp), decide_eq_true (by simp; omega : ((A.length : Nat) : Int) < (((List.length ((A ++ x :: T).map f1) - (0 : Nat) : Nat)) : Int))]
    generalize hg1 : List.getD ((A ++ x :: T).map f1) (Int.toNat ((A.length : Nat) : Int)) 0 = v1
    generalize hg2 : List.getD ((A ++ x :: T).map f2) (Int.toNat ((A.length : Nat) : Int)) 0 = v2
    generalize hg3 : List.getD ((A ++ x :: T).map f3) (Int.toNat ((A.length : Nat) : Int)) 0 = v3
    obtain rfl : v1 = f1 x := by rw [← hg1, Int.toNat_natCast]; exact getD_at f1 A x T
    obtain rfl : v2 = f2 x := by rw [← hg2, Int.toNat_natCast]; exact getD_at f2 A x T
    obtain rfl : v3 = f3 x := by rw [← hg3, Int.toNat_natCast]; exact getD_at f3 A x T
    have l8 : ∀ z : Int, (enc8 z).length = 8 := fun z => rfl
    have bad : ¬ okR x → ∀ bs, k1 bs := fun hx => h1 (fun h => hx (h x (by simp)))
    have e2 : A ++ x :: T = A ++ [x] ++ T := by simp
    have eb : A.flatMap encR ++ enc8 (f1 x) ++ enc8 (f2 x) ++ enc8 (f3 x) = (A ++ [x]).flatMap encR := by simp [encR]
    have good : okR x → r.RL9_5 (T.length + 1) (((A ++ [x]).length : Nat) : Int) ((A ++ x :: T).map f1) ((A ++ x :: T).map f2) ((A ++ x :: T).map f3) (A.flatMap encR ++ enc8 (f1 x) ++ enc8 (f2 x) ++ enc8 (f3 x)) k1 k2 := fun hx => by
      rw [eb, e2]
      exact wr9_in k1 k2 T (A ++ [x]) (by simp; omega) (fun h => h1 (fun h' => h (fun r hr => h' r (by simp [hr])))) (fun h => by
        have := h2 (by
          intro r hr
          rcases List.mem_cons.1 hr with rfl | hr
          · exact hx
          · exact h r hr)
        rw [e2] at this
        exact this)
    have c1 : decide ((List.length (A.flatMap encR) - 0 + (List.length (enc8 (f1 x)) - 0)) * 1 ≤ 140737488355328) = true := decide_eq_true (by rw [l8]; omega)
    have c2 : decide (List.length (A.flatMap encR) - 0 + (List.length (enc8 (f1 x)) - 0) ≤ 140737488355328) = true := decide_eq_true (by rw [l8]; omega)
    have c3 : decide ((List.length (A.flatMap encR ++ enc8 (f1 x)) - 0 + (List.length (enc8 (f2 x)) - 0)) * 1 ≤ 140737488355328) = true := decide_eq_true (by rw [l8, List.length_append, l8]; omega)
    have c4 : decide (List.length (A.flatMap encR ++ enc8 (f1 x)) - 0 + (List.length (enc8 (f2 x)) - 0) ≤ 140737488355328) = true := decide_eq_true (by rw [l8, List.length_append, l8]; omega)
    have c5 : decide ((List.length (A.flatMap encR ++ enc8 (f1 x) ++ enc8 (f2 x)) - 0 + (List.length (enc8 (f3 x)) - 0)) * 1 ≤ 140737488355328) = true := decide_eq_true (by rw [l8, List.length_append, List.length_append, l8, l8]; omega)
    have c6 : decide (List.length (A.flatMap encR ++ enc8 (f1 x) ++ enc8 (f2 x)) - 0 + (List.length (enc8 (f3 x)) - 0) ≤ 140737488355328) = true := decide_eq_true (by rw [l8, List.length_append, List.length_append, l8, l8]; omega)
    rw [c1, c2, c3, c4, c5, c6]
    simp only [cond_true, Bool.and_self]
    by_cases q1 : f1 x ≥ 0
    · rw [decide_eq_true q1]
      by_cases q2 : f1 x ≤ 140737488355328
      · rw [decide_eq_true q2]
        simp only [cond_true]
        by_cases q4 : f3 x ≥ -140737488355328
        · rw [decide_eq_true q4]
          by_cases q5 : f3 x ≤ 140737488355328
          · rw [decide_eq_true q5]
            simp only [cond_true, Bool.not_true, cond_false]
            by_cases q3 : f2 x = 8
            · rw [(by simpa using q3 : (f2 x == 8) = true)]
              exact good ⟨q1, q2, .inl q3, q4, q5⟩
            · rw [(by simpa using q3 : (f2 x == 8) = false)]
              by_cases q6 : f2 x = 37
              · rw [(by simpa using q6 : (f2 x == 37) = true)]
                exact good ⟨q1, q2, .inr q6, q4, q5⟩
              · rw [(by simpa using q6 : (f2 x == 37) = false)]
                exact bad (fun h => h.2.2.1.elim q3 q6) _
          · rw [decide_eq_false q5]
            simp only [cond_true, Bool.not_false]
            have b := bad (fun h => q5 h.2.2.2.2)
            cases (f2 x == 8) <;> cases (f2 x == 37) <;> exact b _
        · rw [decide_eq_false q4]
          simp only [cond_false]
          have b := bad (fun h => q4 h.2.2.2.1)
          cases (f2 x == 8) <;> cases (f2 x == 37) <;> exact b _
      · rw [decide_eq_false q2]
        exact bad (fun h => q2 h.2.1) _
    · rw [decide_eq_false q1]
      exact bad (fun h => q1 h.1) _

theorem wr_cases {rs : List R} {k : List Int → Int → Prop} (hk : k (wrV rs) (wrC rs)) : (4000 < rs.length ∧ k [] 6) ∨ (rs.length ≤ 4000 ∧ ((¬ ∀ r ∈ rs, okR r) → k [] 200) ∧ ((∀ r ∈ rs, okR r) → k (rs.flatMap encR) 0)) := by
  unfold wrV wrC at hk
  by_cases hl : rs.length ≤ 4000
  · refine .inr ⟨hl, fun h => ?_, fun h => ?_⟩
    · have h' : ¬ allOk rs := fun g => h g.2
      simpa [hl, h'] using hk
    · have h' : allOk rs := ⟨hl, h⟩
      simpa [hl, h'] using hk
  · have h' : ¬ allOk rs := fun g => hl g.1
    refine .inl ⟨by omega, ?_⟩
    simpa [hl, h'] using hk
theorem h8b {xs ts ns : List Int} {k : List Int → Int → Prop} {a1 a2 : Prop} {a3 : List Int → Prop} (i1 : k [] 6 → a1) (i2 : k [] 200 → a2) (i3 : ∀ b, k b 0 → a3 b) (h : wrS2 xs ts ns k) : F8 GL8_5 xs ts ns a1 a2 a3 := by
  obtain ⟨rs, ⟨rfl, rfl, rfl⟩, hs, hk⟩ := h
  unfold F8
  rcases wr_cases hk with ⟨hl, hk⟩ | ⟨hl, hk1, hk2⟩
  · rw [decide_eq_true (by simp; omega : (((List.length (rs.map f1) - (0 : Nat) : Nat)) : Int) > 4000)]
    exact i1 hk
  · rw [decide_eq_false (by simp; omega : ¬ (((List.length (rs.map f1) - (0 : Nat) : Nat)) : Int) > 4000)]
    exact ⟨rfl, rs.length + 1, wr_in _ _ rs [] _ (by simp) (by simpa using hl) (fun h _ => i2 (hk1 h)) (fun h => i3 _ (hk2 h))⟩
theorem h9b {xs ts ns : List Int} {k : List Int → Int → Prop} {a1 a2 : Prop} {a3 : List Int → Prop} (i1 : k [] 6 → a1) (i2 : k [] 200 → a2) (i3 : ∀ b, k b 0 → a3 b) (h : wrS2 xs ts ns k) : r.F9 r.GL9_5 xs ts ns a1 a2 a3 := by
  obtain ⟨rs, ⟨rfl, rfl, rfl⟩, hs, hk⟩ := h
  unfold r.F9
  rcases wr_cases hk with ⟨hl, hk⟩ | ⟨hl, hk1, hk2⟩
  · rw [decide_eq_true (by simp; omega : (((List.length (rs.map f1) - (0 : Nat) : Nat)) : Int) > 4000)]
    exact i1 hk
  · rw [decide_eq_false (by simp; omega : ¬ (((List.length (rs.map f1) - (0 : Nat) : Nat)) : Int) > 4000)]
    exact ⟨rfl, rs.length + 1, wr9_in _ _ rs [] (by simpa using hl) (fun h _ => i2 (hk1 h)) (fun h => i3 _ (hk2 h))⟩
def P8b : Prim := fun args m K =>
  match args, m with
  | [.sl 0 0 none none], [⟨[.ints .i64 xs, .ints .i64 ts, .ints .i64 ns], e, false, false⟩] =>
    (match Nat.beq e 47 with | true => wrS2 xs ts ns (fun bs c => K (.tup [.sl 1 0 none none, .I .i64 c]) [⟨[.ints .i64 xs, .ints .i64 ts, .ints .i64 ns], 47, false, false⟩, ⟨[.ints .u8 bs], 5, false, true⟩]) | false => False)
  | _, _ => False
def P9b : Prim := fun args m K =>
  match args, m with
  | [.sl 0 0 none none], [⟨[.ints .i64 xs, .ints .i64 ts, .ints .i64 ns], e, true, false⟩] =>
    (match Nat.beq e 53 with | true => wrS2 xs ts ns (fun bs c => K (.tup [.sl 1 0 none none, .I .i64 c]) [⟨[.ints .i64 xs, .ints .i64 ts, .ints .i64 ns], 53, true, false⟩, ⟨[.ints .u8 bs], 5, false, true⟩]) | false => False)
  | _, _ => False
theorem P8b_ok : PrimOk Tryz.prog 8 P8b := by
  intro args m K E w cargs hS ha h
  unfold P8b at h
  split at h
  · rename_i xs ts ns e
    split at h
    · rename_i he
      obtain rfl := Nat.eq_of_beq_eq_true he
      refine nk_use (et := 5) bare5 (cbody_use named C6_ok at8 (l := 1) rfl (WL8_5_ok (LoopsOk.none _ _)) (F8_ok GL8_5 xs ts ns _) hS ha ?_)
      exact h8b (fun h => nk_nil (m := [⟨[.ints .i64 xs, .ints .i64 ts, .ints .i64 ns], 47, false, false⟩]) h) (fun h => nk_nil (m := [⟨[.ints .i64 xs, .ints .i64 ts, .ints .i64 ns], 47, false, false⟩]) h) (fun b h => nk_id h) h
    · cases h
  · cases h
theorem P9b_ok : PrimOk Tryz.prog 9 P9b := by
  intro args m K E w cargs hS ha h
  unfold P9b at h
  split at h
  · rename_i xs ts ns e
    split at h
    · rename_i he
      obtain rfl := Nat.eq_of_beq_eq_true he
      refine nk_use (et := 5) bare5 (cbody_use named CB_ok r.at9 (l := 1) rfl (r.WL9_5_ok (LoopsOk.none _ _)) (r.F9_ok r.GL9_5 xs ts ns _) hS ha ?_)
      exact h9b (fun h => nk_nil (m := [⟨[.ints .i64 xs, .ints .i64 ts, .ints .i64 ns], 53, true, false⟩]) h) (fun h => nk_nil (m := [⟨[.ints .i64 xs, .ints .i64 ts, .ints .i64 ns], 53, true, false⟩]) h) (fun b h => nk_id h) h
    · cases h
  · cases h
end Go.Proofs.YtgflbmcmkjkmmaaGreat.so
