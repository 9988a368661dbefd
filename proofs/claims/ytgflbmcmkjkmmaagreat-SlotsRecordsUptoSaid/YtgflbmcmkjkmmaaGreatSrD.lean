import Derived.Test.YtgflbmcmkjkmmaaGreatSrC
set_option linter.unusedVariables false
set_option linter.unusedSimpArgs false
set_option maxHeartbeats 4000000
set_option maxRecDepth 100000
namespace Go.Proofs.YtgflbmcmkjkmmaaGreat.so
open Go Go.Ab Go.So
namespace r
abbrev YL7_6 : Type := Code → Int → Int → List Int → List Int → List Int → List Int → List Int → List Int → (Int → Prop) → Prop
set_option maxHeartbeats 4000000 in
set_option maxRecDepth 100000 in
def HL7_6  (rec : Int → Prop) (i_4 : Int) (i_5 : Int) (xs_m_0_0 : List Int) (xs_m_0_1 : List Int) (xs_m_0_2 : List Int) (xs_m_1_0 : List Int) (xs_m_1_1 : List Int) (xs_m_1_2 : List Int) (k1 : Int → Prop) : Prop :=
  (bif (decide (i_5 > (0 : Int))) then (bif ((decide ((0 : Int) ≤ i_4)) && (decide (i_4 < ((((List.length xs_m_0_0) - (0 : Nat)) : Nat) : Int)))) then (bif ((decide ((0 : Int) ≤ (IntKind.wrap .i64 (i_5 - (1 : Int))))) && (decide ((IntKind.wrap .i64 (i_5 - (1 : Int))) < ((((List.length xs_m_1_0) - (0 : Nat)) : Nat) : Int)))) then (bif (!(((List.getD xs_m_0_1 (Int.toNat i_4) (0 : Int)) == (8 : Int)) == ((List.getD xs_m_1_1 (Int.toNat (IntKind.wrap .i64 (i_5 - (1 : Int)))) (0 : Int)) == (8 : Int)))) then (bif ((List.getD xs_m_0_1 (Int.toNat i_4) (0 : Int)) == (8 : Int)) then (rec (IntKind.wrap .i64 (i_5 - (1 : Int)))) else (k1 i_5)) else (bif (decide ((List.getD xs_m_0_0 (Int.toNat i_4) (0 : Int)) < (List.getD xs_m_1_0 (Int.toNat (IntKind.wrap .i64 (i_5 - (1 : Int)))) (0 : Int)))) then (rec (IntKind.wrap .i64 (i_5 - (1 : Int)))) else (k1 i_5))) else False) else False) else (k1 i_5))
def RL7_6  : Nat → Int → Int → List Int → List Int → List Int → List Int → List Int → List Int → (Int → Prop) → Prop
  | 0, _, _, _, _, _, _, _, _, _ => False
  | n + 1, i_4, i_5, xs_m_0_0, xs_m_0_1, xs_m_0_2, xs_m_1_0, xs_m_1_1, xs_m_1_2, k1 => HL7_6  (fun (i_5 : Int) => RL7_6  n i_4 i_5 xs_m_0_0 xs_m_0_1 xs_m_0_2 xs_m_1_0 xs_m_1_1 xs_m_1_2 k1) i_4 i_5 xs_m_0_0 xs_m_0_1 xs_m_0_2 xs_m_1_0 xs_m_1_1 xs_m_1_2 k1
noncomputable def XL7_6 : Code := sub [true, true, false, true, false, false, true, false, false, true, false, false, false] (bodyOf Tryz.prog 7)
theorem HL7_6_ok  (n : Nat) (i_4 : Int) (i_5 : Int) (xs_m_0_0 : List Int) (xs_m_0_1 : List Int) (xs_m_0_2 : List Int) (xs_m_1_0 : List Int) (xs_m_1_1 : List Int) (xs_m_1_2 : List Int) (K : Ex → Env → Mem → Prop) : cround 1 [0, 3, 4, 5] [0, 3, 4, 5] (fun ρ m K => cexec Tryz.prog C0 (fun _ => none) 1 1000 XL7_6 ρ m K) (n + 1) (selE 49 [(0, (.sl 0 (0 : Nat) (none : Option Nat) (none : Option Nat))), (3, (.sl 1 (0 : Nat) (none : Option Nat) (none : Option Nat))), (4, (.I .i64 i_4)), (5, (.I .i64 i_5))]) [⟨[.ints .i64 xs_m_0_0, .ints .i64 xs_m_0_1, .ints .i64 xs_m_0_2], 53, true, false⟩, ⟨[.ints .i64 xs_m_1_0, .ints .i64 xs_m_1_1, .ints .i64 xs_m_1_2], 53, false, true⟩] K =
    HL7_6  (fun (i_5 : Int) => cround 1 [0, 3, 4, 5] [0, 3, 4, 5] (fun ρ m K => cexec Tryz.prog C0 (fun _ => none) 1 1000 XL7_6 ρ m K) n (selE 49 [(0, (.sl 0 (0 : Nat) (none : Option Nat) (none : Option Nat))), (3, (.sl 1 (0 : Nat) (none : Option Nat) (none : Option Nat))), (4, (.I .i64 i_4)), (5, (.I .i64 i_5))]) [⟨[.ints .i64 xs_m_0_0, .ints .i64 xs_m_0_1, .ints .i64 xs_m_0_2], 53, true, false⟩, ⟨[.ints .i64 xs_m_1_0, .ints .i64 xs_m_1_1, .ints .i64 xs_m_1_2], 53, false, true⟩] K) i_4 i_5 xs_m_0_0 xs_m_0_1 xs_m_0_2 xs_m_1_0 xs_m_1_1 xs_m_1_2 (fun (u0 : Int) => K (.exit 2) (selE 49 [(0, (.sl 0 (0 : Nat) (none : Option Nat) (none : Option Nat))), (3, (.sl 1 (0 : Nat) (none : Option Nat) (none : Option Nat))), (4, (.I .i64 i_4)), (5, (.I .i64 u0))]) [⟨[.ints .i64 xs_m_0_0, .ints .i64 xs_m_0_1, .ints .i64 xs_m_0_2], 53, true, false⟩, ⟨[.ints .i64 xs_m_1_0, .ints .i64 xs_m_1_1, .ints .i64 xs_m_1_2], 53, false, true⟩]) := by kernel_rfl
theorem RL7_6_ok  (K : Ex → Env → Mem → Prop) : ∀ (n : Nat) (i_4 : Int) (i_5 : Int) (xs_m_0_0 : List Int) (xs_m_0_1 : List Int) (xs_m_0_2 : List Int) (xs_m_1_0 : List Int) (xs_m_1_1 : List Int) (xs_m_1_2 : List Int), cround 1 [0, 3, 4, 5] [0, 3, 4, 5] (fun ρ m K => cexec Tryz.prog C0 (fun _ => none) 1 1000 XL7_6 ρ m K) n (selE 49 [(0, (.sl 0 (0 : Nat) (none : Option Nat) (none : Option Nat))), (3, (.sl 1 (0 : Nat) (none : Option Nat) (none : Option Nat))), (4, (.I .i64 i_4)), (5, (.I .i64 i_5))]) [⟨[.ints .i64 xs_m_0_0, .ints .i64 xs_m_0_1, .ints .i64 xs_m_0_2], 53, true, false⟩, ⟨[.ints .i64 xs_m_1_0, .ints .i64 xs_m_1_1, .ints .i64 xs_m_1_2], 53, false, true⟩] K = RL7_6  n i_4 i_5 xs_m_0_0 xs_m_0_1 xs_m_0_2 xs_m_1_0 xs_m_1_1 xs_m_1_2 (fun (u0 : Int) => K (.exit 2) (selE 49 [(0, (.sl 0 (0 : Nat) (none : Option Nat) (none : Option Nat))), (3, (.sl 1 (0 : Nat) (none : Option Nat) (none : Option Nat))), (4, (.I .i64 i_4)), (5, (.I .i64 u0))]) [⟨[.ints .i64 xs_m_0_0, .ints .i64 xs_m_0_1, .ints .i64 xs_m_0_2], 53, true, false⟩, ⟨[.ints .i64 xs_m_1_0, .ints .i64 xs_m_1_1, .ints .i64 xs_m_1_2], 53, false, true⟩])
  | 0, i_4, i_5, xs_m_0_0, xs_m_0_1, xs_m_0_2, xs_m_1_0, xs_m_1_1, xs_m_1_2 => rfl
  | n + 1, i_4, i_5, xs_m_0_0, xs_m_0_1, xs_m_0_2, xs_m_1_0, xs_m_1_1, xs_m_1_2 => by
    have ih := RL7_6_ok  K n
    rw [HL7_6_ok  n i_4 i_5 xs_m_0_0 xs_m_0_1 xs_m_0_2 xs_m_1_0 xs_m_1_1 xs_m_1_2 K]
    show HL7_6  _ i_4 i_5 xs_m_0_0 xs_m_0_1 xs_m_0_2 xs_m_1_0 xs_m_1_1 xs_m_1_2 (fun (u0 : Int) => K (.exit 2) (selE 49 [(0, (.sl 0 (0 : Nat) (none : Option Nat) (none : Option Nat))), (3, (.sl 1 (0 : Nat) (none : Option Nat) (none : Option Nat))), (4, (.I .i64 i_4)), (5, (.I .i64 u0))]) [⟨[.ints .i64 xs_m_0_0, .ints .i64 xs_m_0_1, .ints .i64 xs_m_0_2], 53, true, false⟩, ⟨[.ints .i64 xs_m_1_0, .ints .i64 xs_m_1_1, .ints .i64 xs_m_1_2], 53, false, true⟩]) = HL7_6  _ i_4 i_5 xs_m_0_0 xs_m_0_1 xs_m_0_2 xs_m_1_0 xs_m_1_1 xs_m_1_2 (fun (u0 : Int) => K (.exit 2) (selE 49 [(0, (.sl 0 (0 : Nat) (none : Option Nat) (none : Option Nat))), (3, (.sl 1 (0 : Nat) (none : Option Nat) (none : Option Nat))), (4, (.I .i64 i_4)), (5, (.I .i64 u0))]) [⟨[.ints .i64 xs_m_0_0, .ints .i64 xs_m_0_1, .ints .i64 xs_m_0_2], 53, true, false⟩, ⟨[.ints .i64 xs_m_1_0, .ints .i64 xs_m_1_1, .ints .i64 xs_m_1_2], 53, false, true⟩])
    refine congrArg (fun r => HL7_6  r i_4 i_5 xs_m_0_0 xs_m_0_1 xs_m_0_2 xs_m_1_0 xs_m_1_1 xs_m_1_2 (fun (u0 : Int) => K (.exit 2) (selE 49 [(0, (.sl 0 (0 : Nat) (none : Option Nat) (none : Option Nat))), (3, (.sl 1 (0 : Nat) (none : Option Nat) (none : Option Nat))), (4, (.I .i64 i_4)), (5, (.I .i64 u0))]) [⟨[.ints .i64 xs_m_0_0, .ints .i64 xs_m_0_1, .ints .i64 xs_m_0_2], 53, true, false⟩, ⟨[.ints .i64 xs_m_1_0, .ints .i64 xs_m_1_1, .ints .i64 xs_m_1_2], 53, false, true⟩])) ?_
    funext i_5
    exact ih i_4 i_5 xs_m_0_0 xs_m_0_1 xs_m_0_2 xs_m_1_0 xs_m_1_1 xs_m_1_2
def GL7_6 : YL7_6 := fun x i_4 i_5 xs_m_0_0 xs_m_0_1 xs_m_0_2 xs_m_1_0 xs_m_1_1 xs_m_1_2 k1 => x = XL7_6 ∧ ∃ n, RL7_6  n i_4 i_5 xs_m_0_0 xs_m_0_1 xs_m_0_2 xs_m_1_0 xs_m_1_1 xs_m_1_2 k1
def VL7_6 (l : YL7_6) (F : Prop) (x : Code) (ρ : Env) (m : Mem) (K : Ex → Env → Mem → Prop) : Prop :=
  match ρ.has (49 - 1) with
  | true => (seeV (.sl 0 (0 : Nat) (none : Option Nat) (none : Option Nat)) (ρ.get 0) F (seeV (.sl 1 (0 : Nat) (none : Option Nat) (none : Option Nat)) (ρ.get 3) F (seeI .i64 (ρ.get 4) F fun i_4 => (seeI .i64 (ρ.get 5) F fun i_5 => (seeCons m F fun a5 q6 => (seeBlk 53 true false a5 F fun cs7 => (seeCons cs7 F fun a8 q9 => (seeInts .i64 a8 F fun xs_m_0_0 => (seeCons q9 F fun a10 q11 => (seeInts .i64 a10 F fun xs_m_0_1 => (seeCons q11 F fun a12 q13 => (seeInts .i64 a12 F fun xs_m_0_2 => (seeNil q13 F (seeCons q6 F fun a14 q15 => (seeBlk 53 false true a14 F fun cs16 => (seeCons cs16 F fun a17 q18 => (seeInts .i64 a17 F fun xs_m_1_0 => (seeCons q18 F fun a19 q20 => (seeInts .i64 a19 F fun xs_m_1_1 => (seeCons q20 F fun a21 q22 => (seeInts .i64 a21 F fun xs_m_1_2 => (seeNil q22 F (seeNil q15 F (l x i_4 i_5 xs_m_0_0 xs_m_0_1 xs_m_0_2 xs_m_1_0 xs_m_1_1 xs_m_1_2 (fun (u0 : Int) => K (.exit 2) (selE 49 [(0, (.sl 0 (0 : Nat) (none : Option Nat) (none : Option Nat))), (3, (.sl 1 (0 : Nat) (none : Option Nat) (none : Option Nat))), (4, (.I .i64 i_4)), (5, (.I .i64 u0))]) [⟨[.ints .i64 xs_m_0_0, .ints .i64 xs_m_0_1, .ints .i64 xs_m_0_2], 53, true, false⟩, ⟨[.ints .i64 xs_m_1_0, .ints .i64 xs_m_1_1, .ints .i64 xs_m_1_2], 53, false, true⟩])))))))))))))))))))))))))
  | false => False
def WL7_6 (l : YL7_6) (W : Masks) : Masks := fun r =>
  match Nat.beq r 6 with
  | true => some fun x ρ m K => VL7_6 l (match W r with | some lf => lf x ρ m K | none => False) x (tidyE 1 [0, 3, 4, 5] ρ m) (tidyM 1 [0, 3, 4, 5] ρ m) K
  | false => W r
set_option maxRecDepth 100000 in
theorem WL7_6_ok {W : Masks} (hW : LoopsOk Tryz.prog 1 W) : LoopsOk Tryz.prog 1 (WL7_6 GL7_6 W) := by
  intro r lf h
  unfold WL7_6 at h
  split at h
  · cases h
    intro x E0 m0 w0 J hS0 ha hJ ρ m K E a w Q hS hρ hd h hQ
    have fb : (match W r with | some lf => lf x ρ m K | none => False) → (Code.loop x).wp Tryz.prog Q a w := fun h => by
      split at h
      · rename_i lf hlf
        exact hW r lf hlf x hS0 ha hJ ρ m K E a w Q hS hρ hd h hQ
      · cases h
    obtain ⟨E2, hS2, hρ2⟩ := tidy_rel hS0 hS hρ [0, 3, 4, 5]
    rw [ha] at hS2 hρ2
    unfold VL7_6 at h
    split at h
    · rename_i hlen
      replace h := seeV_use h
      rcases h with h | ⟨e1, h⟩
      · exact fb h
      replace h := seeV_use h
      rcases h with h | ⟨e2, h⟩
      · exact fb h
      replace h := seeI_use h
      rcases h with h | ⟨i_4, e3, h⟩
      · exact fb h
      replace h := seeI_use h
      rcases h with h | ⟨i_5, e4, h⟩
      · exact fb h
      replace h := seeCons_use h
      rcases h with h | ⟨a5, q6, eqm, h⟩
      · exact fb h
      replace h := seeBlk_use h
      rcases h with h | ⟨cs7, rfl, h⟩
      · exact fb h
      replace h := seeCons_use h
      rcases h with h | ⟨a8, q9, rfl, h⟩
      · exact fb h
      replace h := seeInts_use h
      rcases h with h | ⟨xs_m_0_0, rfl, h⟩
      · exact fb h
      replace h := seeCons_use h
      rcases h with h | ⟨a10, q11, rfl, h⟩
      · exact fb h
      replace h := seeInts_use h
      rcases h with h | ⟨xs_m_0_1, rfl, h⟩
      · exact fb h
      replace h := seeCons_use h
      rcases h with h | ⟨a12, q13, rfl, h⟩
      · exact fb h
      replace h := seeInts_use h
      rcases h with h | ⟨xs_m_0_2, rfl, h⟩
      · exact fb h
      replace h := seeNil_use h
      rcases h with h | ⟨rfl, h⟩
      · exact fb h
      replace h := seeCons_use h
      rcases h with h | ⟨a14, q15, rfl, h⟩
      · exact fb h
      replace h := seeBlk_use h
      rcases h with h | ⟨cs16, rfl, h⟩
      · exact fb h
      replace h := seeCons_use h
      rcases h with h | ⟨a17, q18, rfl, h⟩
      · exact fb h
      replace h := seeInts_use h
      rcases h with h | ⟨xs_m_1_0, rfl, h⟩
      · exact fb h
      replace h := seeCons_use h
      rcases h with h | ⟨a19, q20, rfl, h⟩
      · exact fb h
      replace h := seeInts_use h
      rcases h with h | ⟨xs_m_1_1, rfl, h⟩
      · exact fb h
      replace h := seeCons_use h
      rcases h with h | ⟨a21, q22, rfl, h⟩
      · exact fb h
      replace h := seeInts_use h
      rcases h with h | ⟨xs_m_1_2, rfl, h⟩
      · exact fb h
      replace h := seeNil_use h
      rcases h with h | ⟨rfl, h⟩
      · exact fb h
      replace h := seeNil_use h
      rcases h with h | ⟨rfl, h⟩
      · exact fb h
      obtain ⟨rfl, n, h⟩ := h
      exact loop_use named C0_ok (LoopsOk.none _ _) (RL7_6_ok  K n _ _ _ _ _ _ _ _) h hS0 ha hJ hlen ⟨e1, e2, e3, e4, trivial⟩ (eqm ▸ hS2) hρ2 hd hQ
    · cases h
  · exact hW r lf h
abbrev YL7_3 : Type := Code → Int → List Int → List Int → List Int → List Int → List Int → List Int → (List Int → List Int → List Int → Prop) → Prop
set_option maxHeartbeats 4000000 in
set_option maxRecDepth 100000 in
def HL7_3  (l7_6 : YL7_6) (rec : Int → List Int → List Int → List Int → Prop) (i_4 : Int) (xs_m_0_0 : List Int) (xs_m_0_1 : List Int) (xs_m_0_2 : List Int) (xs_m_1_0 : List Int) (xs_m_1_1 : List Int) (xs_m_1_2 : List Int) (k1 : List Int → List Int → List Int → Prop) : Prop :=
  (bif (decide (i_4 < ((((List.length xs_m_0_0) - (0 : Nat)) : Nat) : Int))) then (l7_6 XL7_6 i_4 ((((List.length xs_m_1_0) - (0 : Nat)) : Nat) : Int) xs_m_0_0 xs_m_0_1 xs_m_0_2 xs_m_1_0 xs_m_1_1 xs_m_1_2 (fun (n2 : Int) => (bif ((decide ((0 : Int) ≤ n2)) && (decide ((Int.toNat n2) ≤ ((List.length xs_m_1_0) - (0 : Nat))))) then (bif ((decide ((((0 : Nat) + (Int.toNat n2)) * (24 : Nat)) ≤ (140737488355328 : Nat))) && (decide (((0 : Nat) + (Int.toNat n2)) ≤ (140737488355328 : Nat)))) then (bif ((decide ((0 : Int) ≤ i_4)) && (decide (i_4 < ((((List.length xs_m_0_0) - (0 : Nat)) : Nat) : Int)))) then (bif ((decide (((((List.length (List.take (Int.toNat n2) xs_m_1_0)) - (0 : Nat)) + (1 : Nat)) * (24 : Nat)) ≤ (140737488355328 : Nat))) && (decide ((((List.length (List.take (Int.toNat n2) xs_m_1_0)) - (0 : Nat)) + (1 : Nat)) ≤ (140737488355328 : Nat)))) then (bif ((decide ((0 : Int) ≤ n2)) && (decide ((Int.toNat n2) ≤ ((List.length xs_m_1_0) - (0 : Nat))))) then (bif ((decide (((((List.length ((List.take (Int.toNat n2) xs_m_1_0) ++ ([(List.getD xs_m_0_0 (Int.toNat i_4) (0 : Int))] : List Int))) - (0 : Nat)) + ((List.length xs_m_1_0) - (Int.toNat n2))) * (24 : Nat)) ≤ (140737488355328 : Nat))) && (decide ((((List.length ((List.take (Int.toNat n2) xs_m_1_0) ++ ([(List.getD xs_m_0_0 (Int.toNat i_4) (0 : Int))] : List Int))) - (0 : Nat)) + ((List.length xs_m_1_0) - (Int.toNat n2))) ≤ (140737488355328 : Nat)))) then (rec (IntKind.wrap .i64 (i_4 + (1 : Int))) (((List.take (Int.toNat n2) xs_m_1_0) ++ ([(List.getD xs_m_0_0 (Int.toNat i_4) (0 : Int))] : List Int)) ++ (List.drop (Int.toNat n2) xs_m_1_0)) (((List.take (Int.toNat n2) xs_m_1_1) ++ ([(List.getD xs_m_0_1 (Int.toNat i_4) (0 : Int))] : List Int)) ++ (List.drop (Int.toNat n2) xs_m_1_1)) (((List.take (Int.toNat n2) xs_m_1_2) ++ ([(List.getD xs_m_0_2 (Int.toNat i_4) (0 : Int))] : List Int)) ++ (List.drop (Int.toNat n2) xs_m_1_2))) else False) else False) else False) else False) else False) else False))) else (k1 xs_m_1_0 xs_m_1_1 xs_m_1_2))
def RL7_3  (l7_6 : YL7_6) : Nat → Int → List Int → List Int → List Int → List Int → List Int → List Int → (List Int → List Int → List Int → Prop) → Prop
  | 0, _, _, _, _, _, _, _, _ => False
  | n + 1, i_4, xs_m_0_0, xs_m_0_1, xs_m_0_2, xs_m_1_0, xs_m_1_1, xs_m_1_2, k1 => HL7_3  l7_6 (fun (i_4 : Int) (xs_m_1_0 : List Int) (xs_m_1_1 : List Int) (xs_m_1_2 : List Int) => RL7_3  l7_6 n i_4 xs_m_0_0 xs_m_0_1 xs_m_0_2 xs_m_1_0 xs_m_1_1 xs_m_1_2 k1) i_4 xs_m_0_0 xs_m_0_1 xs_m_0_2 xs_m_1_0 xs_m_1_1 xs_m_1_2 k1
noncomputable def XL7_3 : Code := sub [true, true, false, true, false, false] (bodyOf Tryz.prog 7)
theorem HL7_3_ok  (l7_6 : YL7_6) (n : Nat) (i_4 : Int) (xs_m_0_0 : List Int) (xs_m_0_1 : List Int) (xs_m_0_2 : List Int) (xs_m_1_0 : List Int) (xs_m_1_1 : List Int) (xs_m_1_2 : List Int) (K : Ex → Env → Mem → Prop) : cround 1 [0, 3, 4] [3] (fun ρ m K => cexec Tryz.prog C0 (WL7_6 l7_6 (fun _ => none)) 1 1000 XL7_3 ρ m K) (n + 1) (selE 49 [(0, (.sl 0 (0 : Nat) (none : Option Nat) (none : Option Nat))), (3, (.sl 1 (0 : Nat) (none : Option Nat) (none : Option Nat))), (4, (.I .i64 i_4))]) [⟨[.ints .i64 xs_m_0_0, .ints .i64 xs_m_0_1, .ints .i64 xs_m_0_2], 53, true, false⟩, ⟨[.ints .i64 xs_m_1_0, .ints .i64 xs_m_1_1, .ints .i64 xs_m_1_2], 53, false, true⟩] K =
    HL7_3  l7_6 (fun (i_4 : Int) (xs_m_1_0 : List Int) (xs_m_1_1 : List Int) (xs_m_1_2 : List Int) => cround 1 [0, 3, 4] [3] (fun ρ m K => cexec Tryz.prog C0 (WL7_6 l7_6 (fun _ => none)) 1 1000 XL7_3 ρ m K) n (selE 49 [(0, (.sl 0 (0 : Nat) (none : Option Nat) (none : Option Nat))), (3, (.sl 1 (0 : Nat) (none : Option Nat) (none : Option Nat))), (4, (.I .i64 i_4))]) [⟨[.ints .i64 xs_m_0_0, .ints .i64 xs_m_0_1, .ints .i64 xs_m_0_2], 53, true, false⟩, ⟨[.ints .i64 xs_m_1_0, .ints .i64 xs_m_1_1, .ints .i64 xs_m_1_2], 53, false, true⟩] K) i_4 xs_m_0_0 xs_m_0_1 xs_m_0_2 xs_m_1_0 xs_m_1_1 xs_m_1_2 (fun (u0 : List Int) (u1 : List Int) (u2 : List Int) => K (.exit 0) (selE 49 [(3, (.sl 1 (0 : Nat) (none : Option Nat) (none : Option Nat)))]) [⟨[.ints .i64 xs_m_0_0, .ints .i64 xs_m_0_1, .ints .i64 xs_m_0_2], 53, true, false⟩, ⟨[.ints .i64 u0, .ints .i64 u1, .ints .i64 u2], 53, false, true⟩]) := by kernel_rfl
theorem RL7_3_ok  (l7_6 : YL7_6) (K : Ex → Env → Mem → Prop) : ∀ (n : Nat) (i_4 : Int) (xs_m_0_0 : List Int) (xs_m_0_1 : List Int) (xs_m_0_2 : List Int) (xs_m_1_0 : List Int) (xs_m_1_1 : List Int) (xs_m_1_2 : List Int), cround 1 [0, 3, 4] [3] (fun ρ m K => cexec Tryz.prog C0 (WL7_6 l7_6 (fun _ => none)) 1 1000 XL7_3 ρ m K) n (selE 49 [(0, (.sl 0 (0 : Nat) (none : Option Nat) (none : Option Nat))), (3, (.sl 1 (0 : Nat) (none : Option Nat) (none : Option Nat))), (4, (.I .i64 i_4))]) [⟨[.ints .i64 xs_m_0_0, .ints .i64 xs_m_0_1, .ints .i64 xs_m_0_2], 53, true, false⟩, ⟨[.ints .i64 xs_m_1_0, .ints .i64 xs_m_1_1, .ints .i64 xs_m_1_2], 53, false, true⟩] K = RL7_3  l7_6 n i_4 xs_m_0_0 xs_m_0_1 xs_m_0_2 xs_m_1_0 xs_m_1_1 xs_m_1_2 (fun (u0 : List Int) (u1 : List Int) (u2 : List Int) => K (.exit 0) (selE 49 [(3, (.sl 1 (0 : Nat) (none : Option Nat) (none : Option Nat)))]) [⟨[.ints .i64 xs_m_0_0, .ints .i64 xs_m_0_1, .ints .i64 xs_m_0_2], 53, true, false⟩, ⟨[.ints .i64 u0, .ints .i64 u1, .ints .i64 u2], 53, false, true⟩])
  | 0, i_4, xs_m_0_0, xs_m_0_1, xs_m_0_2, xs_m_1_0, xs_m_1_1, xs_m_1_2 => rfl
  | n + 1, i_4, xs_m_0_0, xs_m_0_1, xs_m_0_2, xs_m_1_0, xs_m_1_1, xs_m_1_2 => by
    have ih := RL7_3_ok  l7_6 K n
    rw [HL7_3_ok  l7_6 n i_4 xs_m_0_0 xs_m_0_1 xs_m_0_2 xs_m_1_0 xs_m_1_1 xs_m_1_2 K]
    show HL7_3  l7_6 _ i_4 xs_m_0_0 xs_m_0_1 xs_m_0_2 xs_m_1_0 xs_m_1_1 xs_m_1_2 (fun (u0 : List Int) (u1 : List Int) (u2 : List Int) => K (.exit 0) (selE 49 [(3, (.sl 1 (0 : Nat) (none : Option Nat) (none : Option Nat)))]) [⟨[.ints .i64 xs_m_0_0, .ints .i64 xs_m_0_1, .ints .i64 xs_m_0_2], 53, true, false⟩, ⟨[.ints .i64 u0, .ints .i64 u1, .ints .i64 u2], 53, false, true⟩]) = HL7_3  l7_6 _ i_4 xs_m_0_0 xs_m_0_1 xs_m_0_2 xs_m_1_0 xs_m_1_1 xs_m_1_2 (fun (u0 : List Int) (u1 : List Int) (u2 : List Int) => K (.exit 0) (selE 49 [(3, (.sl 1 (0 : Nat) (none : Option Nat) (none : Option Nat)))]) [⟨[.ints .i64 xs_m_0_0, .ints .i64 xs_m_0_1, .ints .i64 xs_m_0_2], 53, true, false⟩, ⟨[.ints .i64 u0, .ints .i64 u1, .ints .i64 u2], 53, false, true⟩])
    refine congrArg (fun r => HL7_3  l7_6 r i_4 xs_m_0_0 xs_m_0_1 xs_m_0_2 xs_m_1_0 xs_m_1_1 xs_m_1_2 (fun (u0 : List Int) (u1 : List Int) (u2 : List Int) => K (.exit 0) (selE 49 [(3, (.sl 1 (0 : Nat) (none : Option Nat) (none : Option Nat)))]) [⟨[.ints .i64 xs_m_0_0, .ints .i64 xs_m_0_1, .ints .i64 xs_m_0_2], 53, true, false⟩, ⟨[.ints .i64 u0, .ints .i64 u1, .ints .i64 u2], 53, false, true⟩])) ?_
    funext i_4 xs_m_1_0 xs_m_1_1 xs_m_1_2
    exact ih i_4 xs_m_0_0 xs_m_0_1 xs_m_0_2 xs_m_1_0 xs_m_1_1 xs_m_1_2
def GL7_3 : YL7_3 := fun x i_4 xs_m_0_0 xs_m_0_1 xs_m_0_2 xs_m_1_0 xs_m_1_1 xs_m_1_2 k1 => x = XL7_3 ∧ ∃ n, RL7_3  GL7_6 n i_4 xs_m_0_0 xs_m_0_1 xs_m_0_2 xs_m_1_0 xs_m_1_1 xs_m_1_2 k1
def FL7_3 : List Fil := [.slot 3 ⟨[.ints .i64 ([] : List Int), .ints .i64 ([] : List Int), .ints .i64 ([] : List Int)], 53, false, true⟩]
def VL7_3 (l : YL7_3) (F : Prop) (x : Code) (ρ : Env) (m : Mem) (K : Ex → Env → Mem → Prop) : Prop :=
  match ρ.has (49 - 1) with
  | true => (seeV (.sl 0 (0 : Nat) (none : Option Nat) (none : Option Nat)) (ρ.get 0) F (seeV (.sl 1 (0 : Nat) (none : Option Nat) (none : Option Nat)) (ρ.get 3) F (seeI .i64 (ρ.get 4) F fun i_4 => (seeCons m F fun a4 q5 => (seeBlk 53 true false a4 F fun cs6 => (seeCons cs6 F fun a7 q8 => (seeInts .i64 a7 F fun xs_m_0_0 => (seeCons q8 F fun a9 q10 => (seeInts .i64 a9 F fun xs_m_0_1 => (seeCons q10 F fun a11 q12 => (seeInts .i64 a11 F fun xs_m_0_2 => (seeNil q12 F (seeCons q5 F fun a13 q14 => (seeBlk 53 false true a13 F fun cs15 => (seeCons cs15 F fun a16 q17 => (seeInts .i64 a16 F fun xs_m_1_0 => (seeCons q17 F fun a18 q19 => (seeInts .i64 a18 F fun xs_m_1_1 => (seeCons q19 F fun a20 q21 => (seeInts .i64 a20 F fun xs_m_1_2 => (seeNil q21 F (seeNil q14 F (l x i_4 xs_m_0_0 xs_m_0_1 xs_m_0_2 xs_m_1_0 xs_m_1_1 xs_m_1_2 (fun (u0 : List Int) (u1 : List Int) (u2 : List Int) => K (.exit 0) (selE 49 [(3, (.sl 1 (0 : Nat) (none : Option Nat) (none : Option Nat)))]) [⟨[.ints .i64 xs_m_0_0, .ints .i64 xs_m_0_1, .ints .i64 xs_m_0_2], 53, true, false⟩, ⟨[.ints .i64 u0, .ints .i64 u1, .ints .i64 u2], 53, false, true⟩]))))))))))))))))))))))))
  | false => False
def WL7_3 (l : YL7_3) (W : Masks) : Masks := fun r =>
  match Nat.beq r 3 with
  | true => some fun x ρ m K => VL7_3 l (match W r with | some lf => lf x ρ m K | none => False) x (tidyE 1 [0, 3, 4] (fil FL7_3 ρ m).1 (fil FL7_3 ρ m).2) (tidyM 1 [0, 3, 4] (fil FL7_3 ρ m).1 (fil FL7_3 ρ m).2) K
  | false => W r
set_option maxRecDepth 100000 in
theorem WL7_3_ok {W : Masks} (hW : LoopsOk Tryz.prog 1 W) : LoopsOk Tryz.prog 1 (WL7_3 GL7_3 W) := by
  intro r lf h
  unfold WL7_3 at h
  split at h
  · cases h
    intro x E0 m0 w0 J hS0 ha hJ ρ m K E a w Q hS hρ hd h hQ
    have fb : (match W r with | some lf => lf x ρ m K | none => False) → (Code.loop x).wp Tryz.prog Q a w := fun h => by
      split at h
      · rename_i lf hlf
        exact hW r lf hlf x hS0 ha hJ ρ m K E a w Q hS hρ hd h hQ
      · cases h
    obtain ⟨E1, hS1, hρ1⟩ := fil_step hS hρ FL7_3
    obtain ⟨E2, hS2, hρ2⟩ := tidy_rel hS0 hS1 hρ1 [0, 3, 4]
    rw [ha] at hS2 hρ2
    unfold VL7_3 at h
    split at h
    · rename_i hlen
      replace h := seeV_use h
      rcases h with h | ⟨e1, h⟩
      · exact fb h
      replace h := seeV_use h
      rcases h with h | ⟨e2, h⟩
      · exact fb h
      replace h := seeI_use h
      rcases h with h | ⟨i_4, e3, h⟩
      · exact fb h
      replace h := seeCons_use h
      rcases h with h | ⟨a4, q5, eqm, h⟩
      · exact fb h
      replace h := seeBlk_use h
      rcases h with h | ⟨cs6, rfl, h⟩
      · exact fb h
      replace h := seeCons_use h
      rcases h with h | ⟨a7, q8, rfl, h⟩
      · exact fb h
      replace h := seeInts_use h
      rcases h with h | ⟨xs_m_0_0, rfl, h⟩
      · exact fb h
      replace h := seeCons_use h
      rcases h with h | ⟨a9, q10, rfl, h⟩
      · exact fb h
      replace h := seeInts_use h
      rcases h with h | ⟨xs_m_0_1, rfl, h⟩
      · exact fb h
      replace h := seeCons_use h
      rcases h with h | ⟨a11, q12, rfl, h⟩
      · exact fb h
      replace h := seeInts_use h
      rcases h with h | ⟨xs_m_0_2, rfl, h⟩
      · exact fb h
      replace h := seeNil_use h
      rcases h with h | ⟨rfl, h⟩
      · exact fb h
      replace h := seeCons_use h
      rcases h with h | ⟨a13, q14, rfl, h⟩
      · exact fb h
      replace h := seeBlk_use h
      rcases h with h | ⟨cs15, rfl, h⟩
      · exact fb h
      replace h := seeCons_use h
      rcases h with h | ⟨a16, q17, rfl, h⟩
      · exact fb h
      replace h := seeInts_use h
      rcases h with h | ⟨xs_m_1_0, rfl, h⟩
      · exact fb h
      replace h := seeCons_use h
      rcases h with h | ⟨a18, q19, rfl, h⟩
      · exact fb h
      replace h := seeInts_use h
      rcases h with h | ⟨xs_m_1_1, rfl, h⟩
      · exact fb h
      replace h := seeCons_use h
      rcases h with h | ⟨a20, q21, rfl, h⟩
      · exact fb h
      replace h := seeInts_use h
      rcases h with h | ⟨xs_m_1_2, rfl, h⟩
      · exact fb h
      replace h := seeNil_use h
      rcases h with h | ⟨rfl, h⟩
      · exact fb h
      replace h := seeNil_use h
      rcases h with h | ⟨rfl, h⟩
      · exact fb h
      obtain ⟨rfl, n, h⟩ := h
      exact loop_use named C0_ok (WL7_6_ok (LoopsOk.none _ _)) (RL7_3_ok  GL7_6 K n _ _ _ _ _ _ _) h hS0 ha hJ hlen ⟨e1, e2, e3, trivial⟩ (eqm ▸ hS2) hρ2 hd hQ
    · cases h
  · exact hW r lf h
theorem at7 : Tryz.prog.funcs[7]? = some (fnOf Tryz.prog 7) := by kernel_rfl
abbrev Y7 : Type := List Int → List Int → List Int → (List Int → List Int → List Int → Prop) → Prop
set_option maxHeartbeats 4000000 in
set_option maxRecDepth 100000 in
def F7  (l7_3 : YL7_3) (xs : List Int) (ts : List Int) (ns : List Int) (k1 : List Int → List Int → List Int → Prop) : Prop :=
  (l7_3 XL7_3 (0 : Int) xs ts ns ([] : List Int) ([] : List Int) ([] : List Int) (fun (xs1 : List Int) (xs2 : List Int) (xs3 : List Int) => (k1 xs1 xs2 xs3)))
theorem F7_ok  (l7_3 : YL7_3) (xs : List Int) (ts : List Int) (ns : List Int) (K : V → Mem → Prop) : cbody Tryz.prog C0 (WL7_3 l7_3 (fun _ => none)) 1000 (fnOf Tryz.prog 7) [(.sl 0 (0 : Nat) (none : Option Nat) (none : Option Nat))] [⟨[.ints .i64 xs, .ints .i64 ts, .ints .i64 ns], 53, true, false⟩] K =
    F7  l7_3 xs ts ns (fun (u0 : List Int) (u1 : List Int) (u2 : List Int) => K (.sl 1 (0 : Nat) (none : Option Nat) (none : Option Nat)) [⟨[.ints .i64 xs, .ints .i64 ts, .ints .i64 ns], 53, true, false⟩, ⟨[.ints .i64 u0, .ints .i64 u1, .ints .i64 u2], 53, false, true⟩]) := by kernel_rfl
end r
/-! ### The reference's sort -/
theorem lt7 (x w : R) : ltR x w = (bif !((f2 x == 8) == (f2 w == 8)) then (f2 x == 8) else decide (f1 x < f1 w)) := by
  have hr : ∀ y : R, rk y = if f2 y = 8 then 0 else 1 := fun y => rfl
  have h1' : ∀ y : R, y.1 = f1 y := fun _ => rfl
  rw [Bool.eq_iff_iff, ltR_iff, hr, hr, h1', h1']
  have q : ∀ y : R, (f2 y = 8 ∧ (f2 y == 8) = true) ∨ (f2 y ≠ 8 ∧ (f2 y == 8) = false) := fun y => by by_cases h : f2 y = 8 <;> simp [h]
  rcases q x with ⟨a1, a2⟩ | ⟨a1, a2⟩ <;> rcases q w with ⟨b1, b2⟩ | ⟨b1, b2⟩ <;> rw [a2, b2] <;> simp [a1, b1]
theorem in7 {L L0 L1 out : List R} {x : R} (hL : L = L0 ++ x :: L1) (ho : out.length ≤ 1048576) (k1 : Int → Prop) (hk : ∀ P Q : List R, out = P ++ Q → (∀ q ∈ Q, ltR x q = true) → (P = [] ∨ ∃ P0 w, P = P0 ++ [w] ∧ ltR x w = false) → k1 ((P.length : Nat) : Int)) :
    ∀ (n : Nat) (P Q : List R), P.length = n → out = P ++ Q → (∀ q ∈ Q, ltR x q = true) → r.RL7_6 (n + 1) ((L0.length : Nat) : Int) ((P.length : Nat) : Int) (L.map f1) (L.map f2) (L.map f3) (out.map f1) (out.map f2) (out.map f3) k1
  | 0, P, Q, hn, e, hq => by
    obtain rfl := List.eq_nil_of_length_eq_zero hn
    show r.HL7_6 _ _ _ _ _ _ _ _ _ _
    unfold r.HL7_6
    rw [decide_eq_false (by simp : ¬ ((([] : List R).length : Nat) : Int) > 0)]
    exact hk [] Q e hq (.inl rfl)
  | n + 1, P, Q, hn, e, hq => by
    rcases List.eq_nil_or_concat P with rfl | ⟨P0, w, rfl⟩
    · cases hn
    rw [List.concat_eq_append] at *
    have hl : (P0 ++ [w]).length = P0.length + 1 := by simp
    have hl2 : out.length = P0.length + 1 + Q.length := by rw [e]; simp; omega
    have hLl : L.length = L0.length + (L1.length + 1) := by rw [hL]; simp
    have ep : IntKind.wrap .i64 ((((P0 ++ [w]).length : Nat) : Int) - 1) = ((P0.length : Nat) : Int) := by rw [hl, w64 (by omega) (by omega)]; omega
    have e' : out = P0 ++ w :: Q := by rw [e]; simp
    have ih := in7 hL ho k1 hk n P0 (w :: Q) (by omega) e'
    show r.HL7_6 _ _ _ _ _ _ _ _ _ _
    unfold r.HL7_6
    rw [ep, inb (L := L) (by omega), inb (L := out) (by omega), decide_eq_true (by rw [hl]; omega : (((P0 ++ [w]).length : Nat) : Int) > 0)]
    generalize hg1 : List.getD (L.map f1) (Int.toNat ((L0.length : Nat) : Int)) 0 = v1
    generalize hg2 : List.getD (L.map f2) (Int.toNat ((L0.length : Nat) : Int)) 0 = v2
    generalize hg4 : List.getD (out.map f1) (Int.toNat ((P0.length : Nat) : Int)) 0 = w1
    generalize hg5 : List.getD (out.map f2) (Int.toNat ((P0.length : Nat) : Int)) 0 = w2
    obtain rfl : v1 = f1 x := by rw [← hg1, Int.toNat_natCast]; exact gI hL rfl
    obtain rfl : v2 = f2 x := by rw [← hg2, Int.toNat_natCast]; exact gI hL rfl
    obtain rfl : w1 = f1 w := by rw [← hg4, Int.toNat_natCast]; exact gI e' rfl
    obtain rfl : w2 = f2 w := by rw [← hg5, Int.toNat_natCast]; exact gI e' rfl
    have hlt := lt7 x w
    have yes : ltR x w = true → r.RL7_6 (n + 1) ((L0.length : Nat) : Int) ((P0.length : Nat) : Int) (L.map f1) (L.map f2) (L.map f3) (out.map f1) (out.map f2) (out.map f3) k1 := fun h => ih (fun q hq' => by
      rcases List.mem_cons.1 hq' with rfl | hq'
      · exact h
      · exact hq q hq')
    have no : ltR x w = false → k1 (((P0 ++ [w]).length : Nat) : Int) := fun h => hk (P0 ++ [w]) Q e hq (.inr ⟨P0, w, rfl, h⟩)
    simp only [cond_true]
    generalize (f2 x == 8) = c1 at hlt ⊢
    generalize (f2 w == 8) = c2 at hlt ⊢
    generalize decide (f1 x < f1 w) = c3 at hlt ⊢
    cases c1 <;> cases c2 <;> cases c3 <;> first | exact yes hlt | exact no hlt
theorem srt_ins {P Q : List R} {x : R} (hS : Srt ltR (P ++ Q)) (hq : ∀ q ∈ Q, ltR x q = true) (hp : P = [] ∨ ∃ P0 w, P = P0 ++ [w] ∧ ltR x w = false) : Srt ltR (P ++ ([x] ++ Q)) := by
  obtain ⟨h1, h2, h3⟩ := srt_app.1 hS
  have hx : ∀ p ∈ P, ltR x p = false := by
    rcases hp with rfl | ⟨P0, w, rfl, hw⟩
    · simp
    · intro p hp
      rcases List.mem_append.1 hp with hp | hp
      · exact ordR.neg _ _ _ hw ((srt_app.1 h1).2.2 p hp w (by simp))
      · rw [List.mem_singleton.1 hp]; exact hw
  refine srt_app.2 ⟨h1, srt_app.2 ⟨List.pairwise_singleton _ _, h2, fun a ha b hb => ?_⟩, fun a ha b hb => ?_⟩
  · rw [List.mem_singleton.1 ha]; exact ordR.asym (hq b hb)
  · rcases List.mem_append.1 hb with hb | hb
    · rw [List.mem_singleton.1 hb]; exact hx a ha
    · exact h3 a ha b hb
theorem out7 (L : List R) (hs : L.length ≤ 1048576) (k1 : KK) (hk : ∀ s', Srt ltR s' → Same ltR L s' → put3 k1 s') : ∀ (T A S : List R), L = A ++ T → Srt ltR S → Same ltR A S →
    r.RL7_3 r.GL7_6 (T.length + 1) ((A.length : Nat) : Int) (L.map f1) (L.map f2) (L.map f3) (S.map f1) (S.map f2) (S.map f3) k1
  | [], A, S, e, hS, hM => by
    rw [List.append_nil] at e
    subst e
    show r.HL7_3 _ _ _ _ _ _ _ _ _ _
    unfold r.HL7_3
    rw [decide_eq_false (by simp : ¬ ((L.length : Nat) : Int) < (((List.length (L.map f1) - (0 : Nat) : Nat)) : Int))]
    exact hk S hS hM
  | x :: T, A, S, e, hS, hM => by
    have hl : L.length = A.length + (T.length + 1) := by rw [e]; simp
    have hSl : S.length = A.length := (hM.perm_length ordR).symm
    have ei : IntKind.wrap .i64 (((A.length : Nat) : Int) + 1) = (((A ++ [x]).length : Nat) : Int) := by rw [w64 (by omega) (by omega)]; simp
    show r.HL7_3 _ _ _ _ _ _ _ _ _ _
    unfold r.HL7_3
    rw [decide_eq_true (by simp; omega : ((A.length : Nat) : Int) < (((List.length (L.map f1) - (0 : Nat) : Nat)) : Int)), ei]
    simp only [cond_true]
    have e0 : ((((List.length (S.map f1)) - (0 : Nat)) : Nat) : Int) = ((S.length : Nat) : Int) := by simp
    rw [e0]
    refine ⟨rfl, S.length + 1, in7 (out := S) e (by omega) _ (fun P Q eS hq hp => ?_) S.length S [] rfl (by simp) (by simp)⟩
    have hPQ : S.length = P.length + Q.length := by rw [eS]; simp
    generalize hg1 : List.getD (L.map f1) (Int.toNat ((A.length : Nat) : Int)) 0 = v1
    generalize hg2 : List.getD (L.map f2) (Int.toNat ((A.length : Nat) : Int)) 0 = v2
    generalize hg3 : List.getD (L.map f3) (Int.toNat ((A.length : Nat) : Int)) 0 = v3
    obtain rfl : v1 = f1 x := by rw [← hg1, Int.toNat_natCast]; exact gI e rfl
    obtain rfl : v2 = f2 x := by rw [← hg2, Int.toNat_natCast]; exact gI e rfl
    obtain rfl : v3 = f3 x := by rw [← hg3, Int.toNat_natCast]; exact gI e rfl
    rw [Int.toNat_natCast]
    have et : ∀ f : R → Int, List.take P.length (S.map f) = P.map f := fun f => by rw [eS, List.map_append, List.take_left' (by simp)]
    have ed : ∀ f : R → Int, List.drop P.length (S.map f) = Q.map f := fun f => by rw [eS, List.map_append, List.drop_left' (by simp)]
    rw [et, et, et, ed, ed, ed]
    rw [decide_eq_true (Int.natCast_nonneg _ : (0 : Int) ≤ ((P.length : Nat) : Int)), decide_eq_true (by simp; omega : P.length ≤ List.length (S.map f1) - 0), decide_eq_true (by omega : (0 + P.length) * 24 ≤ 140737488355328), decide_eq_true (by omega : 0 + P.length ≤ 140737488355328),
      decide_eq_true (Int.natCast_nonneg _ : (0 : Int) ≤ ((A.length : Nat) : Int)),
      decide_eq_true (by simp; omega : (List.length (P.map f1) - 0 + 1) * 24 ≤ 140737488355328), decide_eq_true (by simp; omega : List.length (P.map f1) - 0 + 1 ≤ 140737488355328),
      decide_eq_true (by simp; omega : (List.length (P.map f1 ++ ([f1 x] : List Int)) - 0 + (List.length (S.map f1) - P.length)) * 24 ≤ 140737488355328), decide_eq_true (by simp; omega : List.length (P.map f1 ++ ([f1 x] : List Int)) - 0 + (List.length (S.map f1) - P.length) ≤ 140737488355328)]
    simp only [cond_true, Bool.and_self]
    have em : ∀ f : R → Int, P.map f ++ [f x] ++ Q.map f = (P ++ ([x] ++ Q)).map f := fun f => by simp
    rw [em f1, em f2, em f3]
    refine out7 L hs k1 hk T (A ++ [x]) (P ++ ([x] ++ Q)) (by rw [e]; simp) (srt_ins (eS ▸ hS) hq hp) ?_
    have h1 : Same ltR (A ++ [x]) (S ++ [x]) := hM.app (Same.refl _)
    rw [eS, List.append_assoc] at h1
    exact h1.trans ((Same.refl P).app (Same.swap ordR (fun a ha b hb => by rw [List.mem_singleton.1 hb]; exact hq a ha)))
def rsS (xs ts ns : List Int) (k : KK) : Prop := ∃ rs : List R, is3 rs xs ts ns ∧ sm rs.length ∧ ∀ s', Srt ltR s' → Same ltR rs s' → put3 k s'
theorem h7 {xs ts ns : List Int} {k : KK} (h : rsS xs ts ns k) : r.F7 r.GL7_3 xs ts ns k := by
  obtain ⟨rs, ⟨rfl, rfl, rfl⟩, hs, hk⟩ := h
  exact ⟨rfl, rs.length + 1, out7 rs hs k hk rs [] [] rfl List.Pairwise.nil (Same.refl _)⟩
def P7 : Prim := fun args m K =>
  match args, m with
  | [.sl 0 0 none none], [⟨[.ints .i64 xs, .ints .i64 ts, .ints .i64 ns], e, true, false⟩] =>
    (match Nat.beq e 53 with | true => rsS xs ts ns (fun x t n => K (.sl 1 0 none none) [⟨[.ints .i64 xs, .ints .i64 ts, .ints .i64 ns], 53, true, false⟩, ⟨[.ints .i64 x, .ints .i64 t, .ints .i64 n], 53, false, true⟩]) | false => False)
  | _, _ => False
theorem P7_ok : PrimOk Tryz.prog 7 P7 := by
  intro args m K E w cargs hS ha h
  unfold P7 at h
  split at h
  · rename_i xs ts ns e
    split at h
    · rename_i he
      obtain rfl := Nat.eq_of_beq_eq_true he
      exact cbody_use named C0_ok r.at7 (l := 1) rfl (r.WL7_3_ok (LoopsOk.none _ _)) (r.F7_ok r.GL7_3 xs ts ns K) hS ha (h7 h)
    · cases h
  · cases h
end Go.Proofs.YtgflbmcmkjkmmaaGreat.so
