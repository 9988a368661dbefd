import Derived.Test.YtgflbmcmkjkmmaaGreatSo6
set_option linter.unusedVariables false
set_option linter.unusedSimpArgs false
set_option maxHeartbeats 4000000
set_option maxRecDepth 100000
namespace Go.Proofs.YtgflbmcmkjkmmaaGreat.so
open Go Go.Ab Go.So
def prims6 : Prims := fun f =>
  match Nat.beq f 28 with
  | true => some P28
  | false =>
  match Nat.beq f 36 with
  | true => some P36
  | false => prims1 f
theorem prims6_ok : PrimsOk Tryz.prog prims6 := by
  intro f g hg
  unfold prims6 at hg
  split at hg
  · rename_i hf
    obtain rfl := Nat.eq_of_beq_eq_true hf
    cases hg
    exact P28_ok
  · skip
    split at hg
    · rename_i hf
      obtain rfl := Nat.eq_of_beq_eq_true hf
      cases hg
      exact P36_ok
    · skip
      exact prims1_ok f g hg
def C6 : CC := call Tryz.prog prims6 1000
theorem C6_ok : CallsOk Tryz.prog C6 := call_sound named prims6_ok 1000
abbrev YL8_5 : Type := Code → Int → Int → List Int → List Int → List Int → List Int → (List Int → Prop) → (List Int → Prop) → Prop
set_option maxHeartbeats 4000000 in
set_option maxRecDepth 100000 in
def HL8_5  (rec : Int → List Int → Prop) (i_15 : Int) (i_16 : Int) (xs_m_0_0 : List Int) (xs_m_0_1 : List Int) (xs_m_0_2 : List Int) (xs_m_1_0 : List Int) (k1 : List Int → Prop) (k2 : List Int → Prop) : Prop :=
  (bif (decide (i_16 < i_15)) then (bif ((decide ((0 : Int) ≤ i_16)) && (decide (i_16 < ((((List.length xs_m_0_0) - (0 : Nat)) : Nat) : Int)))) then (bif (decide ((List.getD xs_m_0_0 (Int.toNat i_16) (0 : Int)) ≥ (0 : Int))) then (bif (decide ((List.getD xs_m_0_0 (Int.toNat i_16) (0 : Int)) ≤ (140737488355328 : Int))) then (bif ((List.getD xs_m_0_1 (Int.toNat i_16) (0 : Int)) == (8 : Int)) then (bif (decide ((List.getD xs_m_0_2 (Int.toNat i_16) (0 : Int)) ≥ (-140737488355328 : Int))) then (bif (!(decide ((List.getD xs_m_0_2 (Int.toNat i_16) (0 : Int)) ≤ (140737488355328 : Int)))) then (k1 xs_m_1_0) else (bif ((decide (((((List.length xs_m_1_0) - (0 : Nat)) + ((List.length (enc8 (List.getD xs_m_0_0 (Int.toNat i_16) (0 : Int)))) - (0 : Nat))) * (1 : Nat)) ≤ (140737488355328 : Nat))) && (decide ((((List.length xs_m_1_0) - (0 : Nat)) + ((List.length (enc8 (List.getD xs_m_0_0 (Int.toNat i_16) (0 : Int)))) - (0 : Nat))) ≤ (140737488355328 : Nat)))) then (bif ((decide (((((List.length (xs_m_1_0 ++ (enc8 (List.getD xs_m_0_0 (Int.toNat i_16) (0 : Int))))) - (0 : Nat)) + ((List.length (enc8 (List.getD xs_m_0_1 (Int.toNat i_16) (0 : Int)))) - (0 : Nat))) * (1 : Nat)) ≤ (140737488355328 : Nat))) && (decide ((((List.length (xs_m_1_0 ++ (enc8 (List.getD xs_m_0_0 (Int.toNat i_16) (0 : Int))))) - (0 : Nat)) + ((List.length (enc8 (List.getD xs_m_0_1 (Int.toNat i_16) (0 : Int)))) - (0 : Nat))) ≤ (140737488355328 : Nat)))) then (bif ((decide (((((List.length ((xs_m_1_0 ++ (enc8 (List.getD xs_m_0_0 (Int.toNat i_16) (0 : Int)))) ++ (enc8 (List.getD xs_m_0_1 (Int.toNat i_16) (0 : Int))))) - (0 : Nat)) + ((List.length (enc8 (List.getD xs_m_0_2 (Int.toNat i_16) (0 : Int)))) - (0 : Nat))) * (1 : Nat)) ≤ (140737488355328 : Nat))) && (decide ((((List.length ((xs_m_1_0 ++ (enc8 (List.getD xs_m_0_0 (Int.toNat i_16) (0 : Int)))) ++ (enc8 (List.getD xs_m_0_1 (Int.toNat i_16) (0 : Int))))) - (0 : Nat)) + ((List.length (enc8 (List.getD xs_m_0_2 (Int.toNat i_16) (0 : Int)))) - (0 : Nat))) ≤ (140737488355328 : Nat)))) then (rec (IntKind.wrap .i64 (i_16 + (1 : Int))) (((xs_m_1_0 ++ (enc8 (List.getD xs_m_0_0 (Int.toNat i_16) (0 : Int)))) ++ (enc8 (List.getD xs_m_0_1 (Int.toNat i_16) (0 : Int)))) ++ (enc8 (List.getD xs_m_0_2 (Int.toNat i_16) (0 : Int))))) else False) else False) else False)) else (k1 xs_m_1_0)) else (bif ((List.getD xs_m_0_1 (Int.toNat i_16) (0 : Int)) == (37 : Int)) then (bif (decide ((List.getD xs_m_0_2 (Int.toNat i_16) (0 : Int)) ≥ (-140737488355328 : Int))) then (bif (!(decide ((List.getD xs_m_0_2 (Int.toNat i_16) (0 : Int)) ≤ (140737488355328 : Int)))) then (k1 xs_m_1_0) else (bif ((decide (((((List.length xs_m_1_0) - (0 : Nat)) + ((List.length (enc8 (List.getD xs_m_0_0 (Int.toNat i_16) (0 : Int)))) - (0 : Nat))) * (1 : Nat)) ≤ (140737488355328 : Nat))) && (decide ((((List.length xs_m_1_0) - (0 : Nat)) + ((List.length (enc8 (List.getD xs_m_0_0 (Int.toNat i_16) (0 : Int)))) - (0 : Nat))) ≤ (140737488355328 : Nat)))) then (bif ((decide (((((List.length (xs_m_1_0 ++ (enc8 (List.getD xs_m_0_0 (Int.toNat i_16) (0 : Int))))) - (0 : Nat)) + ((List.length (enc8 (List.getD xs_m_0_1 (Int.toNat i_16) (0 : Int)))) - (0 : Nat))) * (1 : Nat)) ≤ (140737488355328 : Nat))) && (decide ((((List.length (xs_m_1_0 ++ (enc8 (List.getD xs_m_0_0 (Int.toNat i_16) (0 : Int))))) - (0 : Nat)) + ((List.length (enc8 (List.getD xs_m_0_1 (Int.toNat i_16) (0 : Int)))) - (0 : Nat))) ≤ (140737488355328 : Nat)))) then (bif ((decide (((((List.length ((xs_m_1_0 ++ (enc8 (List.getD xs_m_0_0 (Int.toNat i_16) (0 : Int)))) ++ (enc8 (List.getD xs_m_0_1 (Int.toNat i_16) (0 : Int))))) - (0 : Nat)) + ((List.length (enc8 (List.getD xs_m_0_2 (Int.toNat i_16) (0 : Int)))) - (0 : Nat))) * (1 : Nat)) ≤ (140737488355328 : Nat))) && (decide ((((List.length ((xs_m_1_0 ++ (enc8 (List.getD xs_m_0_0 (Int.toNat i_16) (0 : Int)))) ++ (enc8 (List.getD xs_m_0_1 (Int.toNat i_16) (0 : Int))))) - (0 : Nat)) + ((List.length (enc8 (List.getD xs_m_0_2 (Int.toNat i_16) (0 : Int)))) - (0 : Nat))) ≤ (140737488355328 : Nat)))) then (rec (IntKind.wrap .i64 (i_16 + (1 : Int))) (((xs_m_1_0 ++ (enc8 (List.getD xs_m_0_0 (Int.toNat i_16) (0 : Int)))) ++ (enc8 (List.getD xs_m_0_1 (Int.toNat i_16) (0 : Int)))) ++ (enc8 (List.getD xs_m_0_2 (Int.toNat i_16) (0 : Int))))) else False) else False) else False)) else (k1 xs_m_1_0)) else (k1 xs_m_1_0))) else (k1 xs_m_1_0)) else (k1 xs_m_1_0)) else False) else (k2 xs_m_1_0))
def RL8_5  : Nat → Int → Int → List Int → List Int → List Int → List Int → (List Int → Prop) → (List Int → Prop) → Prop
  | 0, _, _, _, _, _, _, _, _ => False
  | n + 1, i_15, i_16, xs_m_0_0, xs_m_0_1, xs_m_0_2, xs_m_1_0, k1, k2 => HL8_5  (fun (i_16 : Int) (xs_m_1_0 : List Int) => RL8_5  n i_15 i_16 xs_m_0_0 xs_m_0_1 xs_m_0_2 xs_m_1_0 k1 k2) i_15 i_16 xs_m_0_0 xs_m_0_1 xs_m_0_2 xs_m_1_0 k1 k2
noncomputable def XL8_5 : Code := sub [true, true, true, false, true, false, false] (bodyOf Tryz.prog 8)
theorem HL8_5_ok  (n : Nat) (i_15 : Int) (i_16 : Int) (xs_m_0_0 : List Int) (xs_m_0_1 : List Int) (xs_m_0_2 : List Int) (xs_m_1_0 : List Int) (K : Ex → Env → Mem → Prop) : cround 1 [4, 14, 15, 16] [2, 3, 4] (fun ρ m K => cexec Tryz.prog C6 (fun _ => none) 1 1000 XL8_5 ρ m K) (n + 1) (selE 44 [(4, (.sl 1 (0 : Nat) (none : Option Nat) (none : Option Nat))), (14, (.sl 0 (0 : Nat) (none : Option Nat) (none : Option Nat))), (15, (.I .i64 i_15)), (16, (.I .i64 i_16))]) [⟨[.ints .i64 xs_m_0_0, .ints .i64 xs_m_0_1, .ints .i64 xs_m_0_2], 47, false, false⟩, ⟨[.ints .u8 xs_m_1_0], 5, false, true⟩] K =
    HL8_5  (fun (i_16 : Int) (xs_m_1_0 : List Int) => cround 1 [4, 14, 15, 16] [2, 3, 4] (fun ρ m K => cexec Tryz.prog C6 (fun _ => none) 1 1000 XL8_5 ρ m K) n (selE 44 [(4, (.sl 1 (0 : Nat) (none : Option Nat) (none : Option Nat))), (14, (.sl 0 (0 : Nat) (none : Option Nat) (none : Option Nat))), (15, (.I .i64 i_15)), (16, (.I .i64 i_16))]) [⟨[.ints .i64 xs_m_0_0, .ints .i64 xs_m_0_1, .ints .i64 xs_m_0_2], 47, false, false⟩, ⟨[.ints .u8 xs_m_1_0], 5, false, true⟩] K) i_15 i_16 xs_m_0_0 xs_m_0_1 xs_m_0_2 xs_m_1_0 (fun (u0 : List Int) => K .ret (selE 44 [(2, .nils), (3, (.I .i64 (200 : Int))), (4, (.sl 1 (0 : Nat) (none : Option Nat) (none : Option Nat)))]) [⟨[.ints .i64 xs_m_0_0, .ints .i64 xs_m_0_1, .ints .i64 xs_m_0_2], 47, false, false⟩, ⟨[.ints .u8 u0], 5, false, true⟩]) (fun (u0 : List Int) => K (.exit 0) (selE 44 [(2, .undef), (3, .undef), (4, (.sl 1 (0 : Nat) (none : Option Nat) (none : Option Nat)))]) [⟨[.ints .i64 xs_m_0_0, .ints .i64 xs_m_0_1, .ints .i64 xs_m_0_2], 47, false, false⟩, ⟨[.ints .u8 u0], 5, false, true⟩]) := by kernel_rfl
theorem RL8_5_ok  (K : Ex → Env → Mem → Prop) : ∀ (n : Nat) (i_15 : Int) (i_16 : Int) (xs_m_0_0 : List Int) (xs_m_0_1 : List Int) (xs_m_0_2 : List Int) (xs_m_1_0 : List Int), cround 1 [4, 14, 15, 16] [2, 3, 4] (fun ρ m K => cexec Tryz.prog C6 (fun _ => none) 1 1000 XL8_5 ρ m K) n (selE 44 [(4, (.sl 1 (0 : Nat) (none : Option Nat) (none : Option Nat))), (14, (.sl 0 (0 : Nat) (none : Option Nat) (none : Option Nat))), (15, (.I .i64 i_15)), (16, (.I .i64 i_16))]) [⟨[.ints .i64 xs_m_0_0, .ints .i64 xs_m_0_1, .ints .i64 xs_m_0_2], 47, false, false⟩, ⟨[.ints .u8 xs_m_1_0], 5, false, true⟩] K = RL8_5  n i_15 i_16 xs_m_0_0 xs_m_0_1 xs_m_0_2 xs_m_1_0 (fun (u0 : List Int) => K .ret (selE 44 [(2, .nils), (3, (.I .i64 (200 : Int))), (4, (.sl 1 (0 : Nat) (none : Option Nat) (none : Option Nat)))]) [⟨[.ints .i64 xs_m_0_0, .ints .i64 xs_m_0_1, .ints .i64 xs_m_0_2], 47, false, false⟩, ⟨[.ints .u8 u0], 5, false, true⟩]) (fun (u0 : List Int) => K (.exit 0) (selE 44 [(2, .undef), (3, .undef), (4, (.sl 1 (0 : Nat) (none : Option Nat) (none : Option Nat)))]) [⟨[.ints .i64 xs_m_0_0, .ints .i64 xs_m_0_1, .ints .i64 xs_m_0_2], 47, false, false⟩, ⟨[.ints .u8 u0], 5, false, true⟩])
  | 0, i_15, i_16, xs_m_0_0, xs_m_0_1, xs_m_0_2, xs_m_1_0 => rfl
  | n + 1, i_15, i_16, xs_m_0_0, xs_m_0_1, xs_m_0_2, xs_m_1_0 => by
    have ih := RL8_5_ok  K n
    rw [HL8_5_ok  n i_15 i_16 xs_m_0_0 xs_m_0_1 xs_m_0_2 xs_m_1_0 K]
    show HL8_5  _ i_15 i_16 xs_m_0_0 xs_m_0_1 xs_m_0_2 xs_m_1_0 (fun (u0 : List Int) => K .ret (selE 44 [(2, .nils), (3, (.I .i64 (200 : Int))), (4, (.sl 1 (0 : Nat) (none : Option Nat) (none : Option Nat)))]) [⟨[.ints .i64 xs_m_0_0, .ints .i64 xs_m_0_1, .ints .i64 xs_m_0_2], 47, false, false⟩, ⟨[.ints .u8 u0], 5, false, true⟩]) (fun (u0 : List Int) => K (.exit 0) (selE 44 [(2, .undef), (3, .undef), (4, (.sl 1 (0 : Nat) (none : Option Nat) (none : Option Nat)))]) [⟨[.ints .i64 xs_m_0_0, .ints .i64 xs_m_0_1, .ints .i64 xs_m_0_2], 47, false, false⟩, ⟨[.ints .u8 u0], 5, false, true⟩]) = HL8_5  _ i_15 i_16 xs_m_0_0 xs_m_0_1 xs_m_0_2 xs_m_1_0 (fun (u0 : List Int) => K .ret (selE 44 [(2, .nils), (3, (.I .i64 (200 : Int))), (4, (.sl 1 (0 : Nat) (none : Option Nat) (none : Option Nat)))]) [⟨[.ints .i64 xs_m_0_0, .ints .i64 xs_m_0_1, .ints .i64 xs_m_0_2], 47, false, false⟩, ⟨[.ints .u8 u0], 5, false, true⟩]) (fun (u0 : List Int) => K (.exit 0) (selE 44 [(2, .undef), (3, .undef), (4, (.sl 1 (0 : Nat) (none : Option Nat) (none : Option Nat)))]) [⟨[.ints .i64 xs_m_0_0, .ints .i64 xs_m_0_1, .ints .i64 xs_m_0_2], 47, false, false⟩, ⟨[.ints .u8 u0], 5, false, true⟩])
    refine congrArg (fun r => HL8_5  r i_15 i_16 xs_m_0_0 xs_m_0_1 xs_m_0_2 xs_m_1_0 (fun (u0 : List Int) => K .ret (selE 44 [(2, .nils), (3, (.I .i64 (200 : Int))), (4, (.sl 1 (0 : Nat) (none : Option Nat) (none : Option Nat)))]) [⟨[.ints .i64 xs_m_0_0, .ints .i64 xs_m_0_1, .ints .i64 xs_m_0_2], 47, false, false⟩, ⟨[.ints .u8 u0], 5, false, true⟩]) (fun (u0 : List Int) => K (.exit 0) (selE 44 [(2, .undef), (3, .undef), (4, (.sl 1 (0 : Nat) (none : Option Nat) (none : Option Nat)))]) [⟨[.ints .i64 xs_m_0_0, .ints .i64 xs_m_0_1, .ints .i64 xs_m_0_2], 47, false, false⟩, ⟨[.ints .u8 u0], 5, false, true⟩])) ?_
    funext i_16 xs_m_1_0
    exact ih i_15 i_16 xs_m_0_0 xs_m_0_1 xs_m_0_2 xs_m_1_0
def GL8_5 : YL8_5 := fun x i_15 i_16 xs_m_0_0 xs_m_0_1 xs_m_0_2 xs_m_1_0 k1 k2 => x = XL8_5 ∧ ∃ n, RL8_5  n i_15 i_16 xs_m_0_0 xs_m_0_1 xs_m_0_2 xs_m_1_0 k1 k2
def FL8_5 : List Fil := [.slot 4 ⟨[.ints .u8 ([] : List Int)], 5, false, true⟩]
def VL8_5 (l : YL8_5) (F : Prop) (x : Code) (ρ : Env) (m : Mem) (K : Ex → Env → Mem → Prop) : Prop :=
  match ρ.has (44 - 1) with
  | true => (seeV (.sl 1 (0 : Nat) (none : Option Nat) (none : Option Nat)) (ρ.get 4) F (seeV (.sl 0 (0 : Nat) (none : Option Nat) (none : Option Nat)) (ρ.get 14) F (seeI .i64 (ρ.get 15) F fun i_15 => (seeI .i64 (ρ.get 16) F fun i_16 => (seeCons m F fun a5 q6 => (seeBlk 47 false false a5 F fun cs7 => (seeCons cs7 F fun a8 q9 => (seeInts .i64 a8 F fun xs_m_0_0 => (seeCons q9 F fun a10 q11 => (seeInts .i64 a10 F fun xs_m_0_1 => (seeCons q11 F fun a12 q13 => (seeInts .i64 a12 F fun xs_m_0_2 => (seeNil q13 F (seeCons q6 F fun a14 q15 => (seeBlk 5 false true a14 F fun cs16 => (seeCons cs16 F fun a17 q18 => (seeInts .u8 a17 F fun xs_m_1_0 => (seeNil q18 F (seeNil q15 F (l x i_15 i_16 xs_m_0_0 xs_m_0_1 xs_m_0_2 xs_m_1_0 (fun (u0 : List Int) => K .ret (selE 44 [(2, .nils), (3, (.I .i64 (200 : Int))), (4, (.sl 1 (0 : Nat) (none : Option Nat) (none : Option Nat)))]) [⟨[.ints .i64 xs_m_0_0, .ints .i64 xs_m_0_1, .ints .i64 xs_m_0_2], 47, false, false⟩, ⟨[.ints .u8 u0], 5, false, true⟩]) (fun (u0 : List Int) => K (.exit 0) (selE 44 [(2, .undef), (3, .undef), (4, (.sl 1 (0 : Nat) (none : Option Nat) (none : Option Nat)))]) [⟨[.ints .i64 xs_m_0_0, .ints .i64 xs_m_0_1, .ints .i64 xs_m_0_2], 47, false, false⟩, ⟨[.ints .u8 u0], 5, false, true⟩])))))))))))))))))))))
  | false => False
def WL8_5 (l : YL8_5) (W : Masks) : Masks := fun r =>
  match Nat.beq r 5 with
  | true => some fun x ρ m K => VL8_5 l (match W r with | some lf => lf x ρ m K | none => False) x (tidyE 1 [4, 14, 15, 16] (fil FL8_5 ρ m).1 (fil FL8_5 ρ m).2) (tidyM 1 [4, 14, 15, 16] (fil FL8_5 ρ m).1 (fil FL8_5 ρ m).2) K
  | false => W r
set_option maxRecDepth 100000 in
theorem WL8_5_ok {W : Masks} (hW : LoopsOk Tryz.prog 1 W) : LoopsOk Tryz.prog 1 (WL8_5 GL8_5 W) := by
  intro r lf h
  unfold WL8_5 at h
  split at h
  · cases h
    intro x E0 m0 w0 J hS0 ha hJ ρ m K E a w Q hS hρ hd h hQ
    have fb : (match W r with | some lf => lf x ρ m K | none => False) → (Code.loop x).wp Tryz.prog Q a w := fun h => by
      split at h
      · rename_i lf hlf
        exact hW r lf hlf x hS0 ha hJ ρ m K E a w Q hS hρ hd h hQ
      · cases h
    obtain ⟨E1, hS1, hρ1⟩ := fil_step hS hρ FL8_5
    obtain ⟨E2, hS2, hρ2⟩ := tidy_rel hS0 hS1 hρ1 [4, 14, 15, 16]
    rw [ha] at hS2 hρ2
    unfold VL8_5 at h
    split at h
    · rename_i hlen
      replace h := seeV_use h
      rcases h with h | ⟨e1, h⟩
      · exact fb h
      replace h := seeV_use h
      rcases h with h | ⟨e2, h⟩
      · exact fb h
      replace h := seeI_use h
      rcases h with h | ⟨i_15, e3, h⟩
      · exact fb h
      replace h := seeI_use h
      rcases h with h | ⟨i_16, e4, h⟩
      · exact fb h
      replace h := seeCons_use h
      rcases h with h | ⟨a5, q6, eqm, h⟩
      · exact fb h
      replace h := seeBlk_use h
      rcases h with h | ⟨cs7, rfl, h⟩
      · exact fb h
      replace h := seeCons_use h
      rcases h with h | ⟨a8, q9, rfl, h⟩
      · exact fb h
      replace h := seeInts_use h
      rcases h with h | ⟨xs_m_0_0, rfl, h⟩
      · exact fb h
      replace h := seeCons_use h
      rcases h with h | ⟨a10, q11, rfl, h⟩
      · exact fb h
      replace h := seeInts_use h
      rcases h with h | ⟨xs_m_0_1, rfl, h⟩
      · exact fb h
      replace h := seeCons_use h
      rcases h with h | ⟨a12, q13, rfl, h⟩
      · exact fb h
      replace h := seeInts_use h
      rcases h with h | ⟨xs_m_0_2, rfl, h⟩
      · exact fb h
      replace h := seeNil_use h
      rcases h with h | ⟨rfl, h⟩
      · exact fb h
      replace h := seeCons_use h
      rcases h with h | ⟨a14, q15, rfl, h⟩
      · exact fb h
      replace h := seeBlk_use h
      rcases h with h | ⟨cs16, rfl, h⟩
      · exact fb h
      replace h := seeCons_use h
      rcases h with h | ⟨a17, q18, rfl, h⟩
      · exact fb h
      replace h := seeInts_use h
      rcases h with h | ⟨xs_m_1_0, rfl, h⟩
      · exact fb h
      replace h := seeNil_use h
      rcases h with h | ⟨rfl, h⟩
      · exact fb h
      replace h := seeNil_use h
      rcases h with h | ⟨rfl, h⟩
      · exact fb h
      obtain ⟨rfl, n, h⟩ := h
      exact loop_use named C6_ok (LoopsOk.none _ _) (RL8_5_ok  K n _ _ _ _ _ _) h hS0 ha hJ hlen ⟨e1, e2, e3, e4, trivial⟩ (eqm ▸ hS2) hρ2 hd hQ
    · cases h
  · exact hW r lf h
theorem at8 : Tryz.prog.funcs[8]? = some (fnOf Tryz.prog 8) := by kernel_rfl
abbrev Y8 : Type := List Int → List Int → List Int → (Prop) → (Prop) → (List Int → Prop) → Prop
set_option maxHeartbeats 4000000 in
set_option maxRecDepth 100000 in
def F8  (l8_5 : YL8_5) (xs : List Int) (ts : List Int) (ns : List Int) (k1 : Prop) (k2 : Prop) (k3 : List Int → Prop) : Prop :=
  (bif (decide (((((List.length xs) - (0 : Nat)) : Nat) : Int) > (4000 : Int))) then (k1) else (l8_5 XL8_5 ((((List.length xs) - (0 : Nat)) : Nat) : Int) (0 : Int) xs ts ns ([] : List Int) (fun (xs1 : List Int) => (k2)) (fun (xs2 : List Int) => (k3 xs2))))
theorem F8_ok  (l8_5 : YL8_5) (xs : List Int) (ts : List Int) (ns : List Int) (K : V → Mem → Prop) : cbody Tryz.prog C6 (WL8_5 l8_5 (fun _ => none)) 1000 (fnOf Tryz.prog 8) [(.sl 0 (0 : Nat) (none : Option Nat) (none : Option Nat))] [⟨[.ints .i64 xs, .ints .i64 ts, .ints .i64 ns], 47, false, false⟩] K =
    F8  l8_5 xs ts ns (K (.tup [.nils, (.I .i64 (6 : Int))]) [⟨[.ints .i64 xs, .ints .i64 ts, .ints .i64 ns], 47, false, false⟩]) (K (.tup [.nils, (.I .i64 (200 : Int))]) [⟨[.ints .i64 xs, .ints .i64 ts, .ints .i64 ns], 47, false, false⟩]) (fun (u0 : List Int) => K (.tup [(.sl 1 (0 : Nat) (none : Option Nat) (none : Option Nat)), (.I .i64 (0 : Int))]) [⟨[.ints .i64 xs, .ints .i64 ts, .ints .i64 ns], 47, false, false⟩, ⟨[.ints .u8 u0], 5, false, true⟩]) := by kernel_rfl
abbrev YL16_7 : Type := Code → Int → List Int → List Int → (List Int → Prop) → Prop
set_option maxHeartbeats 4000000 in
set_option maxRecDepth 100000 in
def HL16_7  (rec : Int → List Int → Prop) (i_5 : Int) (xs_m_0_0 : List Int) (xs_m_1_0 : List Int) (k1 : List Int → Prop) : Prop :=
  (bif (decide (i_5 < ((((List.length xs_m_0_0) - (0 : Nat)) : Nat) : Int))) then (getS xs_m_0_0 i_5 (fun (gn2 : Int) => (bif ((decide (((((List.length xs_m_1_0) - (0 : Nat)) + (1 : Nat)) * (8 : Nat)) ≤ (140737488355328 : Nat))) && (decide ((((List.length xs_m_1_0) - (0 : Nat)) + (1 : Nat)) ≤ (140737488355328 : Nat)))) then (rec (IntKind.wrap .i64 (i_5 + (8 : Int))) (xs_m_1_0 ++ ([gn2] : List Int))) else False))) else (k1 xs_m_1_0))
def RL16_7  : Nat → Int → List Int → List Int → (List Int → Prop) → Prop
  | 0, _, _, _, _ => False
  | n + 1, i_5, xs_m_0_0, xs_m_1_0, k1 => HL16_7  (fun (i_5 : Int) (xs_m_1_0 : List Int) => RL16_7  n i_5 xs_m_0_0 xs_m_1_0 k1) i_5 xs_m_0_0 xs_m_1_0 k1
noncomputable def XL16_7 : Code := sub [true, true, true, true, false, true, false, false] (bodyOf Tryz.prog 16)
theorem HL16_7_ok  (n : Nat) (i_5 : Int) (xs_m_0_0 : List Int) (xs_m_1_0 : List Int) (K : Ex → Env → Mem → Prop) : cround 1 [0, 4, 5] [4] (fun ρ m K => cexec Tryz.prog C6 (fun _ => none) 1 1000 XL16_7 ρ m K) (n + 1) (selE 32 [(0, (.sl 0 (0 : Nat) (none : Option Nat) (none : Option Nat))), (4, (.sl 1 (0 : Nat) (none : Option Nat) (none : Option Nat))), (5, (.I .i64 i_5))]) [⟨[.ints .u8 xs_m_0_0], 5, false, false⟩, ⟨[.ints .i64 xs_m_1_0], 3, false, true⟩] K =
    HL16_7  (fun (i_5 : Int) (xs_m_1_0 : List Int) => cround 1 [0, 4, 5] [4] (fun ρ m K => cexec Tryz.prog C6 (fun _ => none) 1 1000 XL16_7 ρ m K) n (selE 32 [(0, (.sl 0 (0 : Nat) (none : Option Nat) (none : Option Nat))), (4, (.sl 1 (0 : Nat) (none : Option Nat) (none : Option Nat))), (5, (.I .i64 i_5))]) [⟨[.ints .u8 xs_m_0_0], 5, false, false⟩, ⟨[.ints .i64 xs_m_1_0], 3, false, true⟩] K) i_5 xs_m_0_0 xs_m_1_0 (fun (u0 : List Int) => K (.exit 0) (selE 32 [(4, (.sl 1 (0 : Nat) (none : Option Nat) (none : Option Nat)))]) [⟨[.ints .u8 xs_m_0_0], 5, false, false⟩, ⟨[.ints .i64 u0], 3, false, true⟩]) := by kernel_rfl
theorem RL16_7_ok  (K : Ex → Env → Mem → Prop) : ∀ (n : Nat) (i_5 : Int) (xs_m_0_0 : List Int) (xs_m_1_0 : List Int), cround 1 [0, 4, 5] [4] (fun ρ m K => cexec Tryz.prog C6 (fun _ => none) 1 1000 XL16_7 ρ m K) n (selE 32 [(0, (.sl 0 (0 : Nat) (none : Option Nat) (none : Option Nat))), (4, (.sl 1 (0 : Nat) (none : Option Nat) (none : Option Nat))), (5, (.I .i64 i_5))]) [⟨[.ints .u8 xs_m_0_0], 5, false, false⟩, ⟨[.ints .i64 xs_m_1_0], 3, false, true⟩] K = RL16_7  n i_5 xs_m_0_0 xs_m_1_0 (fun (u0 : List Int) => K (.exit 0) (selE 32 [(4, (.sl 1 (0 : Nat) (none : Option Nat) (none : Option Nat)))]) [⟨[.ints .u8 xs_m_0_0], 5, false, false⟩, ⟨[.ints .i64 u0], 3, false, true⟩])
  | 0, i_5, xs_m_0_0, xs_m_1_0 => rfl
  | n + 1, i_5, xs_m_0_0, xs_m_1_0 => by
    have ih := RL16_7_ok  K n
    rw [HL16_7_ok  n i_5 xs_m_0_0 xs_m_1_0 K]
    show HL16_7  _ i_5 xs_m_0_0 xs_m_1_0 (fun (u0 : List Int) => K (.exit 0) (selE 32 [(4, (.sl 1 (0 : Nat) (none : Option Nat) (none : Option Nat)))]) [⟨[.ints .u8 xs_m_0_0], 5, false, false⟩, ⟨[.ints .i64 u0], 3, false, true⟩]) = HL16_7  _ i_5 xs_m_0_0 xs_m_1_0 (fun (u0 : List Int) => K (.exit 0) (selE 32 [(4, (.sl 1 (0 : Nat) (none : Option Nat) (none : Option Nat)))]) [⟨[.ints .u8 xs_m_0_0], 5, false, false⟩, ⟨[.ints .i64 u0], 3, false, true⟩])
    refine congrArg (fun r => HL16_7  r i_5 xs_m_0_0 xs_m_1_0 (fun (u0 : List Int) => K (.exit 0) (selE 32 [(4, (.sl 1 (0 : Nat) (none : Option Nat) (none : Option Nat)))]) [⟨[.ints .u8 xs_m_0_0], 5, false, false⟩, ⟨[.ints .i64 u0], 3, false, true⟩])) ?_
    funext i_5 xs_m_1_0
    exact ih i_5 xs_m_0_0 xs_m_1_0
def GL16_7 : YL16_7 := fun x i_5 xs_m_0_0 xs_m_1_0 k1 => x = XL16_7 ∧ ∃ n, RL16_7  n i_5 xs_m_0_0 xs_m_1_0 k1
def FL16_7 : List Fil := [.slot 4 ⟨[.ints .i64 ([] : List Int)], 3, false, true⟩]
def VL16_7 (l : YL16_7) (F : Prop) (x : Code) (ρ : Env) (m : Mem) (K : Ex → Env → Mem → Prop) : Prop :=
  match ρ.has (32 - 1) with
  | true => (seeV (.sl 0 (0 : Nat) (none : Option Nat) (none : Option Nat)) (ρ.get 0) F (seeV (.sl 1 (0 : Nat) (none : Option Nat) (none : Option Nat)) (ρ.get 4) F (seeI .i64 (ρ.get 5) F fun i_5 => (seeCons m F fun a4 q5 => (seeBlk 5 false false a4 F fun cs6 => (seeCons cs6 F fun a7 q8 => (seeInts .u8 a7 F fun xs_m_0_0 => (seeNil q8 F (seeCons q5 F fun a9 q10 => (seeBlk 3 false true a9 F fun cs11 => (seeCons cs11 F fun a12 q13 => (seeInts .i64 a12 F fun xs_m_1_0 => (seeNil q13 F (seeNil q10 F (l x i_5 xs_m_0_0 xs_m_1_0 (fun (u0 : List Int) => K (.exit 0) (selE 32 [(4, (.sl 1 (0 : Nat) (none : Option Nat) (none : Option Nat)))]) [⟨[.ints .u8 xs_m_0_0], 5, false, false⟩, ⟨[.ints .i64 u0], 3, false, true⟩]))))))))))))))))
  | false => False
def WL16_7 (l : YL16_7) (W : Masks) : Masks := fun r =>
  match Nat.beq r 7 with
  | true => some fun x ρ m K => VL16_7 l (match W r with | some lf => lf x ρ m K | none => False) x (tidyE 1 [0, 4, 5] (fil FL16_7 ρ m).1 (fil FL16_7 ρ m).2) (tidyM 1 [0, 4, 5] (fil FL16_7 ρ m).1 (fil FL16_7 ρ m).2) K
  | false => W r
set_option maxRecDepth 100000 in
theorem WL16_7_ok {W : Masks} (hW : LoopsOk Tryz.prog 1 W) : LoopsOk Tryz.prog 1 (WL16_7 GL16_7 W) := by
  intro r lf h
  unfold WL16_7 at h
  split at h
  · cases h
    intro x E0 m0 w0 J hS0 ha hJ ρ m K E a w Q hS hρ hd h hQ
    have fb : (match W r with | some lf => lf x ρ m K | none => False) → (Code.loop x).wp Tryz.prog Q a w := fun h => by
      split at h
      · rename_i lf hlf
        exact hW r lf hlf x hS0 ha hJ ρ m K E a w Q hS hρ hd h hQ
      · cases h
    obtain ⟨E1, hS1, hρ1⟩ := fil_step hS hρ FL16_7
    obtain ⟨E2, hS2, hρ2⟩ := tidy_rel hS0 hS1 hρ1 [0, 4, 5]
    rw [ha] at hS2 hρ2
    unfold VL16_7 at h
    split at h
    · rename_i hlen
      replace h := seeV_use h
      rcases h with h | ⟨e1, h⟩
      · exact fb h
      replace h := seeV_use h
      rcases h with h | ⟨e2, h⟩
      · exact fb h
      replace h := seeI_use h
      rcases h with h | ⟨i_5, e3, h⟩
      · exact fb h
      replace h := seeCons_use h
      rcases h with h | ⟨a4, q5, eqm, h⟩
      · exact fb h
      replace h := seeBlk_use h
      rcases h with h | ⟨cs6, rfl, h⟩
      · exact fb h
      replace h := seeCons_use h
      rcases h with h | ⟨a7, q8, rfl, h⟩
      · exact fb h
      replace h := seeInts_use h
      rcases h with h | ⟨xs_m_0_0, rfl, h⟩
      · exact fb h
      replace h := seeNil_use h
      rcases h with h | ⟨rfl, h⟩
      · exact fb h
      replace h := seeCons_use h
      rcases h with h | ⟨a9, q10, rfl, h⟩
      · exact fb h
      replace h := seeBlk_use h
      rcases h with h | ⟨cs11, rfl, h⟩
      · exact fb h
      replace h := seeCons_use h
      rcases h with h | ⟨a12, q13, rfl, h⟩
      · exact fb h
      replace h := seeInts_use h
      rcases h with h | ⟨xs_m_1_0, rfl, h⟩
      · exact fb h
      replace h := seeNil_use h
      rcases h with h | ⟨rfl, h⟩
      · exact fb h
      replace h := seeNil_use h
      rcases h with h | ⟨rfl, h⟩
      · exact fb h
      obtain ⟨rfl, n, h⟩ := h
      exact loop_use named C6_ok (LoopsOk.none _ _) (RL16_7_ok  K n _ _ _) h hS0 ha hJ hlen ⟨e1, e2, e3, trivial⟩ (eqm ▸ hS2) hρ2 hd hQ
    · cases h
  · exact hW r lf h
theorem at16 : Tryz.prog.funcs[16]? = some (fnOf Tryz.prog 16) := by kernel_rfl
abbrev Y16 : Type := List Int → (Prop) → (Prop) → (List Int → Prop) → Prop
set_option maxHeartbeats 4000000 in
set_option maxRecDepth 100000 in
def F16  (l16_7 : YL16_7) (bs : List Int) (k1 : Prop) (k2 : Prop) (k3 : List Int → Prop) : Prop :=
  (bif (decide (((((List.length bs) - (0 : Nat)) : Nat) : Int) > (1048576 : Int))) then (k1) else (bif ((Int.tmod ((((List.length bs) - (0 : Nat)) : Nat) : Int) (8 : Int)) != (0 : Int)) then (k2) else (l16_7 XL16_7 (0 : Int) bs ([] : List Int) (fun (xs1 : List Int) => (k3 xs1)))))
theorem F16_ok  (l16_7 : YL16_7) (bs : List Int) (K : V → Mem → Prop) : cbody Tryz.prog C6 (WL16_7 l16_7 (fun _ => none)) 1000 (fnOf Tryz.prog 16) [(.sl 0 (0 : Nat) (none : Option Nat) (none : Option Nat))] [⟨[.ints .u8 bs], 5, false, false⟩] K =
    F16  l16_7 bs (K (.tup [.nils, (.I .i64 (6 : Int))]) [⟨[.ints .u8 bs], 5, false, false⟩]) (K (.tup [.nils, (.I .i64 (11 : Int))]) [⟨[.ints .u8 bs], 5, false, false⟩]) (fun (u0 : List Int) => K (.tup [(.sl 1 (0 : Nat) (none : Option Nat) (none : Option Nat)), (.I .i64 (0 : Int))]) [⟨[.ints .u8 bs], 5, false, false⟩, ⟨[.ints .i64 u0], 3, false, true⟩]) := by kernel_rfl
/-! ### Writing -/
def okR (r : R) : Prop := 0 ≤ f1 r ∧ f1 r ≤ 140737488355328 ∧ (f2 r = 8 ∨ f2 r = 37) ∧ -140737488355328 ≤ f3 r ∧ f3 r ≤ 140737488355328
def encR (r : R) : List Int := enc8 (f1 r) ++ (enc8 (f2 r) ++ enc8 (f3 r))
def allOk (rs : List R) : Prop := rs.length ≤ 4000 ∧ ∀ r ∈ rs, okR r
theorem encR_len (r : R) : (encR r).length = 24 := rfl
theorem enc_len : ∀ A : List R, (A.flatMap encR).length = 24 * A.length
  | [] => rfl
  | x :: A => by rw [List.flatMap_cons, List.length_append, enc_len A, encR_len, List.length_cons]; omega
def wrtS (xs ts ns : List Int) (kerr : Int → Prop) (kok : List Int → Prop) : Prop := ∃ rs : List R, is3 rs xs ts ns ∧ sm rs.length ∧ (¬ allOk rs → ∀ c : Int, c ≠ 0 → kerr c) ∧ (allOk rs → kok (rs.flatMap encR))
theorem wr_in (k1 k2 : List Int → Prop) : ∀ (T A : List R) (n : Int), n = ((A.length + T.length : Nat) : Int) → (A ++ T).length ≤ 4000 → ((¬ ∀ r ∈ T, okR r) → ∀ bs, k1 bs) → ((∀ r ∈ T, okR r) → k2 ((A ++ T).flatMap encR)) →
    RL8_5 (T.length + 1) n ((A.length : Nat) : Int) ((A ++ T).map f1) ((A ++ T).map f2) ((A ++ T).map f3) (A.flatMap encR) k1 k2
  | [], A, n, hn, hs, h1, h2 => by
    show HL8_5 _ _ _ _ _ _ _ _ _
    unfold HL8_5
    rw [decide_eq_false (by simp at hn; omega : ¬ ((A.length : Nat) : Int) < n)]
    have := h2 (by simp)
    rw [List.append_nil] at this
    exact this
  | x :: T, A, n, hn, hs, h1, h2 => by
    have hs' : A.length + (T.length + 1) ≤ 4000 := by simpa using hs
    have ei : IntKind.wrap .i64 (((A.length : Nat) : Int) + 1) = (((A ++ [x]).length : Nat) : Int) := by rw [w64 (by omega) (by omega)]; simp
    have hA := enc_len A
    simp only [List.length_cons] at hn
    show HL8_5 _ _ _ _ _ _ _ _ _
    unfold HL8_5
    rw [decide_eq_true (by omega : ((A.length : Nat) : Int) < n), ei, inb (by simp)]
    generalize hg1 : List.getD ((A ++ x :: T).map f1) (Int.toNat ((A.length : Nat) : Int)) 0 = v1
    generalize hg2 : List.getD ((A ++ x :: T).map f2) (Int.toNat ((A.length : Nat) : Int)) 0 = v2
    generalize hg3 : List.getD ((A ++ x :: T).map f3) (Int.toNat ((A.length : Nat) : Int)) 0 = v3
    obtain rfl : v1 = f1 x := by rw [← hg1, Int.toNat_natCast]; exact getD_at f1 A x T
    obtain rfl : v2 = f2 x := by rw [← hg2, Int.toNat_natCast]; exact getD_at f2 A x T
    obtain rfl : v3 = f3 x := by rw [← hg3, Int.toNat_natCast]; exact getD_at f3 A x T
    have l8 : ∀ z : Int, (enc8 z).length = 8 := fun z => rfl
    have bad : ¬ okR x → ∀ bs, k1 bs := fun hx => h1 (fun h => hx (h x (by simp)))
    have e2 : A ++ x :: T = A ++ [x] ++ T := by simp
    have eb : A.flatMap encR ++ enc8 (f1 x) ++ enc8 (f2 x) ++ enc8 (f3 x) = (A ++ [x]).flatMap encR := by simp [encR]
    have good : okR x → RL8_5 (T.length + 1) n (((A ++ [x]).length : Nat) : Int) ((A ++ x :: T).map f1) ((A ++ x :: T).map f2) ((A ++ x :: T).map f3) (A.flatMap encR ++ enc8 (f1 x) ++ enc8 (f2 x) ++ enc8 (f3 x)) k1 k2 := fun hx => by
      rw [eb, e2]
      exact wr_in k1 k2 T (A ++ [x]) n (by rw [hn]; simp; omega) (by simp; omega) (fun h => h1 (fun h' => h (fun r hr => h' r (by simp [hr])))) (fun h => by
        have := h2 (by
          intro r hr
          rcases List.mem_cons.1 hr with rfl | hr
          · exact hx
          · exact h r hr)
        rw [e2] at this
        exact this)
    have c1 : decide ((List.length (A.flatMap encR) - 0 + (List.length (enc8 (f1 x)) - 0)) * 1 ≤ 140737488355328) = true := decide_eq_true (by rw [l8]; omega)
    have c2 : decide (List.length (A.flatMap encR) - 0 + (List.length (enc8 (f1 x)) - 0) ≤ 140737488355328) = true := decide_eq_true (by rw [l8]; omega)
    have c3 : decide ((List.length (A.flatMap encR ++ enc8 (f1 x)) - 0 + (List.length (enc8 (f2 x)) - 0)) * 1 ≤ 140737488355328) = true := decide_eq_true (by rw [l8, List.length_append, l8]; omega)
    have c4 : decide (List.length (A.flatMap encR ++ enc8 (f1 x)) - 0 + (List.length (enc8 (f2 x)) - 0) ≤ 140737488355328) = true := decide_eq_true (by rw [l8, List.length_append, l8]; omega)
    have c5 : decide ((List.length (A.flatMap encR ++ enc8 (f1 x) ++ enc8 (f2 x)) - 0 + (List.length (enc8 (f3 x)) - 0)) * 1 ≤ 140737488355328) = true := decide_eq_true (by rw [l8, List.length_append, List.length_append, l8, l8]; omega)
    have c6 : decide (List.length (A.flatMap encR ++ enc8 (f1 x) ++ enc8 (f2 x)) - 0 + (List.length (enc8 (f3 x)) - 0) ≤ 140737488355328) = true := decide_eq_true (by rw [l8, List.length_append, List.length_append, l8, l8]; omega)
    rw [c1, c2, c3, c4, c5, c6]
    simp only [cond_true, Bool.and_self]
    by_cases q1 : f1 x ≥ 0
    · rw [decide_eq_true q1]
      by_cases q2 : f1 x ≤ 140737488355328
      · rw [decide_eq_true q2]
        simp only [cond_true]
        by_cases q4 : f3 x ≥ -140737488355328
        · rw [decide_eq_true q4]
          by_cases q5 : f3 x ≤ 140737488355328
          · rw [decide_eq_true q5]
            simp only [cond_true, Bool.not_true, cond_false]
            by_cases q3 : f2 x = 8
            · rw [(by simpa using q3 : (f2 x == 8) = true)]
              exact good ⟨q1, q2, .inl q3, q4, q5⟩
            · rw [(by simpa using q3 : (f2 x == 8) = false)]
              by_cases q6 : f2 x = 37
              · rw [(by simpa using q6 : (f2 x == 37) = true)]
                exact good ⟨q1, q2, .inr q6, q4, q5⟩
              · rw [(by simpa using q6 : (f2 x == 37) = false)]
                exact bad (fun h => h.2.2.1.elim q3 q6) _
          · rw [decide_eq_false q5]
            simp only [cond_true, Bool.not_false]
            have b := bad (fun h => q5 h.2.2.2.2)
            cases (f2 x == 8) <;> cases (f2 x == 37) <;> exact b _
        · rw [decide_eq_false q4]
          simp only [cond_false]
          have b := bad (fun h => q4 h.2.2.2.1)
          cases (f2 x == 8) <;> cases (f2 x == 37) <;> exact b _
      · rw [decide_eq_false q2]
        exact bad (fun h => q2 h.2.1) _
    · rw [decide_eq_false q1]
      exact bad (fun h => q1 h.1) _
theorem h8 {xs ts ns : List Int} {kerr : Int → Prop} {kok : List Int → Prop} (h : wrtS xs ts ns kerr kok) : F8 GL8_5 xs ts ns (kerr 6) (kerr 200) kok := by
  obtain ⟨rs, ⟨rfl, rfl, rfl⟩, hs, h1, h2⟩ := h
  unfold F8
  by_cases hl : rs.length ≤ 4000
  · rw [decide_eq_false (by simp; omega : ¬ (((List.length (rs.map f1) - (0 : Nat) : Nat)) : Int) > 4000)]
    refine ⟨rfl, rs.length + 1, wr_in _ _ rs [] _ (by simp) (by simpa using hl) (fun h _ => h1 (fun h' => h h'.2) 200 (by decide)) (fun h => h2 ⟨hl, h⟩)⟩
  · rw [decide_eq_true (by simp; omega : (((List.length (rs.map f1) - (0 : Nat) : Nat)) : Int) > 4000)]
    exact h1 (fun h' => hl h'.1) 6 (by decide)
def P8 : Prim := fun args m K =>
  match args, m with
  | [.sl 0 0 none none], [⟨[.ints .i64 xs, .ints .i64 ts, .ints .i64 ns], e, false, false⟩] =>
    (match Nat.beq e 47 with | true => wrtS xs ts ns (fun c => K (.tup [.nils, .I .i64 c]) [⟨[.ints .i64 xs, .ints .i64 ts, .ints .i64 ns], 47, false, false⟩]) (fun bs => K (.tup [.sl 1 0 none none, .I .i64 0]) [⟨[.ints .i64 xs, .ints .i64 ts, .ints .i64 ns], 47, false, false⟩, ⟨[.ints .u8 bs], 5, false, true⟩]) | false => False)
  | _, _ => False
theorem P8_ok : PrimOk Tryz.prog 8 P8 := by
  intro args m K E w cargs hS ha h
  unfold P8 at h
  split at h
  · rename_i xs ts ns e
    split at h
    · rename_i he
      obtain rfl := Nat.eq_of_beq_eq_true he
      exact cbody_use named C6_ok at8 (l := 1) rfl (WL8_5_ok (LoopsOk.none _ _)) (F8_ok GL8_5 xs ts ns K) hS ha (h8 h)
    · cases h
  · cases h
/-! ### Numbers out of bytes -/
theorem enc8_len : ∀ A : List Int, (A.flatMap enc8).length = 8 * A.length
  | [] => rfl
  | x :: A => by rw [List.flatMap_cons, List.length_append, enc8_len A, List.length_cons]; show 8 + _ = _; omega
def inI (n : Int) : Prop := -9223372036854775808 ≤ n ∧ n ≤ 9223372036854775807
def arrS (bs : List Int) (k : List Int → Prop) : Prop := ∃ ns : List Int, bs = ns.flatMap enc8 ∧ (∀ n ∈ ns, inI n) ∧ ns.length ≤ 131072 ∧ k ns
theorem ar_in (k : List Int → Prop) : ∀ (T A : List Int), (A ++ T).length ≤ 131072 → (∀ n ∈ T, inI n) → k (A ++ T) → RL16_7 (T.length + 1) ((8 * A.length : Nat) : Int) ((A ++ T).flatMap enc8) A k
  | [], A, hs, hr, hk => by
    have hl := enc8_len (A ++ [])
    show HL16_7 _ _ _ _ _
    unfold HL16_7
    rw [decide_eq_false (by rw [hl]; simp : ¬ ((8 * A.length : Nat) : Int) < (((List.length ((A ++ ([] : List Int)).flatMap enc8) - (0 : Nat) : Nat)) : Int))]
    rw [List.append_nil] at hk
    exact hk
  | x :: T, A, hs, hr, hk => by
    have hs' : A.length + (T.length + 1) ≤ 131072 := by simpa using hs
    have hl := enc8_len (A ++ x :: T)
    have hx := hr x (by simp)
    have ei : IntKind.wrap .i64 (((8 * A.length : Nat) : Int) + 8) = ((8 * (A ++ [x]).length : Nat) : Int) := by rw [w64 (by omega) (by omega)]; simp; omega
    show HL16_7 _ _ _ _ _
    unfold HL16_7
    rw [decide_eq_true (by rw [hl]; simp; omega : ((8 * A.length : Nat) : Int) < (((List.length ((A ++ x :: T).flatMap enc8) - (0 : Nat) : Nat)) : Int)), ei]
    refine ⟨A.flatMap enc8, T.flatMap enc8, x, by simp, by rw [enc8_len], hx.1, hx.2, by unfold small; rw [hl]; simp; omega, ?_⟩
    rw [decide_eq_true (by omega : (List.length A - 0 + 1) * 8 ≤ 140737488355328), decide_eq_true (by omega : List.length A - 0 + 1 ≤ 140737488355328)]
    have e2 : A ++ x :: T = A ++ [x] ++ T := by simp
    rw [e2]
    exact ar_in k T (A ++ [x]) (by simp; omega) (fun n hn => hr n (by simp [hn])) (by simpa using hk)
theorem h16 {bs : List Int} {k : List Int → Prop} {e1 e2 : Prop} (h : arrS bs k) : F16 GL16_7 bs e1 e2 k := by
  obtain ⟨ns, rfl, hr, hs, hk⟩ := h
  have hl := enc8_len ns
  unfold F16
  rw [decide_eq_false (by rw [hl]; omega : ¬ (((List.length (ns.flatMap enc8) - (0 : Nat) : Nat)) : Int) > 1048576)]
  have e : (Int.tmod (((List.length (ns.flatMap enc8) - (0 : Nat) : Nat)) : Int) 8 != 0) = false := by
    rw [hl, Int.tmod_eq_emod_of_nonneg (by omega)]; simp <;> omega
  rw [e]
  exact ⟨rfl, ns.length + 1, ar_in k ns [] (by simpa using hs) hr hk⟩
def P16 : Prim := fun args m K =>
  match args, m with
  | [.sl 0 0 none none], [⟨[.ints .u8 bs], e, false, false⟩] =>
    (match Nat.beq e 5 with | true => arrS bs (fun ns => K (.tup [.sl 1 0 none none, .I .i64 0]) [⟨[.ints .u8 bs], 5, false, false⟩, ⟨[.ints .i64 ns], 3, false, true⟩]) | false => False)
  | _, _ => False
theorem P16_ok : PrimOk Tryz.prog 16 P16 := by
  intro args m K E w cargs hS ha h
  unfold P16 at h
  split at h
  · rename_i bs e
    split at h
    · rename_i he
      obtain rfl := Nat.eq_of_beq_eq_true he
      exact cbody_use named C6_ok at16 (l := 1) rfl (WL16_7_ok (LoopsOk.none _ _)) (F16_ok GL16_7 bs K) hS ha (h16 h)
    · cases h
  · cases h
end Go.Proofs.YtgflbmcmkjkmmaaGreat.so
