import Derived.Test.YtgflbmcmkjkmmaaGreatSo8
set_option linter.unusedVariables false
set_option linter.unusedSimpArgs false
set_option maxHeartbeats 4000000
set_option maxRecDepth 100000
namespace Go.Proofs.YtgflbmcmkjkmmaaGreat.so
open Go Go.Ab Go.So
def prims8 : Prims := fun f =>
  match Nat.beq f 5 with
  | true => some P5
  | false =>
  match Nat.beq f 6 with
  | true => some P6
  | false =>
  match Nat.beq f 19 with
  | true => some P19
  | false =>
  match Nat.beq f 20 with
  | true => some P20
  | false =>
  match Nat.beq f 8 with
  | true => some P8
  | false =>
  match Nat.beq f 10 with
  | true => some P10
  | false =>
  match Nat.beq f 12 with
  | true => some P12
  | false =>
  match Nat.beq f 18 with
  | true => some P18
  | false => prims1 f
theorem prims8_ok : PrimsOk Tryz.prog prims8 := by
  intro f g hg
  unfold prims8 at hg
  split at hg
  · rename_i hf
    obtain rfl := Nat.eq_of_beq_eq_true hf
    cases hg
    exact P5_ok
  · skip
    split at hg
    · rename_i hf
      obtain rfl := Nat.eq_of_beq_eq_true hf
      cases hg
      exact P6_ok
    · skip
      split at hg
      · rename_i hf
        obtain rfl := Nat.eq_of_beq_eq_true hf
        cases hg
        exact P19_ok
      · skip
        split at hg
        · rename_i hf
          obtain rfl := Nat.eq_of_beq_eq_true hf
          cases hg
          exact P20_ok
        · skip
          split at hg
          · rename_i hf
            obtain rfl := Nat.eq_of_beq_eq_true hf
            cases hg
            exact P8_ok
          · skip
            split at hg
            · rename_i hf
              obtain rfl := Nat.eq_of_beq_eq_true hf
              cases hg
              exact P10_ok
            · skip
              split at hg
              · rename_i hf
                obtain rfl := Nat.eq_of_beq_eq_true hf
                cases hg
                exact P12_ok
              · skip
                split at hg
                · rename_i hf
                  obtain rfl := Nat.eq_of_beq_eq_true hf
                  cases hg
                  exact P18_ok
                · skip
                  exact prims1_ok f g hg
def C8 : CC := call Tryz.prog prims8 1000
theorem C8_ok : CallsOk Tryz.prog C8 := call_sound named prims8_ok 1000
def prims9 : Prims := fun f =>
  match Nat.beq f 18 with
  | true => some P18
  | false => prims0 f
theorem prims9_ok : PrimsOk Tryz.prog prims9 := by
  intro f g hg
  unfold prims9 at hg
  split at hg
  · rename_i hf
    obtain rfl := Nat.eq_of_beq_eq_true hf
    cases hg
    exact P18_ok
  · skip
    exact prims0_ok f g hg
def C9 : CC := call Tryz.prog prims9 1000
theorem C9_ok : CallsOk Tryz.prog C9 := call_sound named prims9_ok 1000
abbrev YL4_6 : Type := Code → Int → List Int → List Int → List Int → List Int → List Int → List Int → List Int → List Int → List Int → (Prop) → (Prop) → Prop
set_option maxHeartbeats 4000000 in
set_option maxRecDepth 100000 in
def HL4_6  (rec : Int → Prop) (i_5 : Int) (xs_m_0_0 : List Int) (xs_m_0_1 : List Int) (xs_m_0_2 : List Int) (xs_m_1_0 : List Int) (xs_m_1_1 : List Int) (xs_m_1_2 : List Int) (xs_m_2_0 : List Int) (xs_m_2_1 : List Int) (xs_m_2_2 : List Int) (k1 : Prop) (k2 : Prop) : Prop :=
  (bif (decide (i_5 < ((((List.length xs_m_2_0) - (0 : Nat)) : Nat) : Int))) then (bif ((decide ((0 : Int) ≤ i_5)) && (decide (i_5 < ((((List.length xs_m_2_0) - (0 : Nat)) : Nat) : Int)))) then (bif ((decide ((0 : Int) ≤ i_5)) && (decide (i_5 < ((((List.length xs_m_2_0) - (0 : Nat)) : Nat) : Int)))) then (cntS xs_m_2_0 xs_m_2_1 xs_m_2_2 (List.getD xs_m_2_0 (Int.toNat i_5) (0 : Int)) (List.getD xs_m_2_1 (Int.toNat i_5) (0 : Int)) (List.getD xs_m_2_2 (Int.toNat i_5) (0 : Int)) (fun (sc3 : Int) => (bif ((((List.getD xs_m_2_0 (Int.toNat i_5) (0 : Int)) == (List.getD xs_m_2_0 (Int.toNat i_5) (0 : Int))) && (((List.getD xs_m_2_1 (Int.toNat i_5) (0 : Int)) == (List.getD xs_m_2_1 (Int.toNat i_5) (0 : Int))) && (((List.getD xs_m_2_2 (Int.toNat i_5) (0 : Int)) == (List.getD xs_m_2_2 (Int.toNat i_5) (0 : Int))) && true))) && ((((decide ((0 : Int) ≤ i_5)) && (decide (i_5 < ((((List.length xs_m_2_0) - (0 : Nat)) : Nat) : Int)))) && (((Int.toNat i_5) == (Int.toNat i_5)) && true)) && ((i_5 == i_5) && true))) then (cntS xs_m_1_0 xs_m_1_1 xs_m_1_2 (List.getD xs_m_2_0 (Int.toNat i_5) (0 : Int)) (List.getD xs_m_2_1 (Int.toNat i_5) (0 : Int)) (List.getD xs_m_2_2 (Int.toNat i_5) (0 : Int)) (fun (sc4 : Int) => (bif (sc3 != sc4) then (k1) else (bif (decide (i_5 > (0 : Int))) then (bif ((decide ((0 : Int) ≤ (IntKind.wrap .i64 (i_5 - (1 : Int))))) && (decide ((IntKind.wrap .i64 (i_5 - (1 : Int))) < ((((List.length xs_m_2_0) - (0 : Nat)) : Nat) : Int)))) then (bif ((List.getD xs_m_2_1 (Int.toNat (IntKind.wrap .i64 (i_5 - (1 : Int)))) (0 : Int)) != (8 : Int)) then (bif ((decide ((0 : Int) ≤ i_5)) && (decide (i_5 < ((((List.length xs_m_2_0) - (0 : Nat)) : Nat) : Int)))) then (bif ((List.getD xs_m_2_1 (Int.toNat i_5) (0 : Int)) == (8 : Int)) then (k1) else (bif (decide (i_5 > (0 : Int))) then (bif ((decide ((0 : Int) ≤ (IntKind.wrap .i64 (i_5 - (1 : Int))))) && (decide ((IntKind.wrap .i64 (i_5 - (1 : Int))) < ((((List.length xs_m_2_0) - (0 : Nat)) : Nat) : Int)))) then (bif ((decide ((0 : Int) ≤ i_5)) && (decide (i_5 < ((((List.length xs_m_2_0) - (0 : Nat)) : Nat) : Int)))) then (bif ((List.getD xs_m_2_1 (Int.toNat (IntKind.wrap .i64 (i_5 - (1 : Int)))) (0 : Int)) == (List.getD xs_m_2_1 (Int.toNat i_5) (0 : Int))) then (bif ((decide ((0 : Int) ≤ (IntKind.wrap .i64 (i_5 - (1 : Int))))) && (decide ((IntKind.wrap .i64 (i_5 - (1 : Int))) < ((((List.length xs_m_2_0) - (0 : Nat)) : Nat) : Int)))) then (bif ((decide ((0 : Int) ≤ i_5)) && (decide (i_5 < ((((List.length xs_m_2_0) - (0 : Nat)) : Nat) : Int)))) then (bif (decide ((List.getD xs_m_2_0 (Int.toNat (IntKind.wrap .i64 (i_5 - (1 : Int)))) (0 : Int)) > (List.getD xs_m_2_0 (Int.toNat i_5) (0 : Int)))) then (k1) else (rec (IntKind.wrap .i64 (i_5 + (1 : Int))))) else False) else False) else (rec (IntKind.wrap .i64 (i_5 + (1 : Int))))) else False) else False) else (rec (IntKind.wrap .i64 (i_5 + (1 : Int)))))) else False) else (bif (decide (i_5 > (0 : Int))) then (bif ((decide ((0 : Int) ≤ (IntKind.wrap .i64 (i_5 - (1 : Int))))) && (decide ((IntKind.wrap .i64 (i_5 - (1 : Int))) < ((((List.length xs_m_2_0) - (0 : Nat)) : Nat) : Int)))) then (bif ((decide ((0 : Int) ≤ i_5)) && (decide (i_5 < ((((List.length xs_m_2_0) - (0 : Nat)) : Nat) : Int)))) then (bif ((List.getD xs_m_2_1 (Int.toNat (IntKind.wrap .i64 (i_5 - (1 : Int)))) (0 : Int)) == (List.getD xs_m_2_1 (Int.toNat i_5) (0 : Int))) then (bif ((decide ((0 : Int) ≤ (IntKind.wrap .i64 (i_5 - (1 : Int))))) && (decide ((IntKind.wrap .i64 (i_5 - (1 : Int))) < ((((List.length xs_m_2_0) - (0 : Nat)) : Nat) : Int)))) then (bif ((decide ((0 : Int) ≤ i_5)) && (decide (i_5 < ((((List.length xs_m_2_0) - (0 : Nat)) : Nat) : Int)))) then (bif (decide ((List.getD xs_m_2_0 (Int.toNat (IntKind.wrap .i64 (i_5 - (1 : Int)))) (0 : Int)) > (List.getD xs_m_2_0 (Int.toNat i_5) (0 : Int)))) then (k1) else (rec (IntKind.wrap .i64 (i_5 + (1 : Int))))) else False) else False) else (rec (IntKind.wrap .i64 (i_5 + (1 : Int))))) else False) else False) else (rec (IntKind.wrap .i64 (i_5 + (1 : Int)))))) else False) else (bif (decide (i_5 > (0 : Int))) then (bif ((decide ((0 : Int) ≤ (IntKind.wrap .i64 (i_5 - (1 : Int))))) && (decide ((IntKind.wrap .i64 (i_5 - (1 : Int))) < ((((List.length xs_m_2_0) - (0 : Nat)) : Nat) : Int)))) then (bif ((decide ((0 : Int) ≤ i_5)) && (decide (i_5 < ((((List.length xs_m_2_0) - (0 : Nat)) : Nat) : Int)))) then (bif ((List.getD xs_m_2_1 (Int.toNat (IntKind.wrap .i64 (i_5 - (1 : Int)))) (0 : Int)) == (List.getD xs_m_2_1 (Int.toNat i_5) (0 : Int))) then (bif ((decide ((0 : Int) ≤ (IntKind.wrap .i64 (i_5 - (1 : Int))))) && (decide ((IntKind.wrap .i64 (i_5 - (1 : Int))) < ((((List.length xs_m_2_0) - (0 : Nat)) : Nat) : Int)))) then (bif ((decide ((0 : Int) ≤ i_5)) && (decide (i_5 < ((((List.length xs_m_2_0) - (0 : Nat)) : Nat) : Int)))) then (bif (decide ((List.getD xs_m_2_0 (Int.toNat (IntKind.wrap .i64 (i_5 - (1 : Int)))) (0 : Int)) > (List.getD xs_m_2_0 (Int.toNat i_5) (0 : Int)))) then (k1) else (rec (IntKind.wrap .i64 (i_5 + (1 : Int))))) else False) else False) else (rec (IntKind.wrap .i64 (i_5 + (1 : Int))))) else False) else False) else (rec (IntKind.wrap .i64 (i_5 + (1 : Int))))))))) else False))) else False) else False) else (k2))
def RL4_6  : Nat → Int → List Int → List Int → List Int → List Int → List Int → List Int → List Int → List Int → List Int → (Prop) → (Prop) → Prop
  | 0, _, _, _, _, _, _, _, _, _, _, _, _ => False
  | n + 1, i_5, xs_m_0_0, xs_m_0_1, xs_m_0_2, xs_m_1_0, xs_m_1_1, xs_m_1_2, xs_m_2_0, xs_m_2_1, xs_m_2_2, k1, k2 => HL4_6  (fun (i_5 : Int) => RL4_6  n i_5 xs_m_0_0 xs_m_0_1 xs_m_0_2 xs_m_1_0 xs_m_1_1 xs_m_1_2 xs_m_2_0 xs_m_2_1 xs_m_2_2 k1 k2) i_5 xs_m_0_0 xs_m_0_1 xs_m_0_2 xs_m_1_0 xs_m_1_1 xs_m_1_2 xs_m_2_0 xs_m_2_1 xs_m_2_2 k1 k2
noncomputable def XL4_6 : Code := sub [true, true, true, true, false, true, false, false] (bodyOf Tryz.prog 4)
theorem HL4_6_ok  (n : Nat) (i_5 : Int) (xs_m_0_0 : List Int) (xs_m_0_1 : List Int) (xs_m_0_2 : List Int) (xs_m_1_0 : List Int) (xs_m_1_1 : List Int) (xs_m_1_2 : List Int) (xs_m_2_0 : List Int) (xs_m_2_1 : List Int) (xs_m_2_2 : List Int) (K : Ex → Env → Mem → Prop) : cround 1 [0, 3, 4, 5] [0, 2, 3] (fun ρ m K => cexec Tryz.prog C8 (fun _ => none) 1 1000 XL4_6 ρ m K) (n + 1) (selE 136 [(0, (.sl 0 (0 : Nat) (none : Option Nat) (none : Option Nat))), (3, (.sl 1 (0 : Nat) (none : Option Nat) (none : Option Nat))), (4, (.sl 2 (0 : Nat) (none : Option Nat) (none : Option Nat))), (5, (.I .i64 i_5))]) [⟨[.ints .i64 xs_m_0_0, .ints .i64 xs_m_0_1, .ints .i64 xs_m_0_2], 53, true, false⟩, ⟨[.ints .i64 xs_m_1_0, .ints .i64 xs_m_1_1, .ints .i64 xs_m_1_2], 47, false, true⟩, ⟨[.ints .i64 xs_m_2_0, .ints .i64 xs_m_2_1, .ints .i64 xs_m_2_2], 47, false, true⟩] K =
    HL4_6  (fun (i_5 : Int) => cround 1 [0, 3, 4, 5] [0, 2, 3] (fun ρ m K => cexec Tryz.prog C8 (fun _ => none) 1 1000 XL4_6 ρ m K) n (selE 136 [(0, (.sl 0 (0 : Nat) (none : Option Nat) (none : Option Nat))), (3, (.sl 1 (0 : Nat) (none : Option Nat) (none : Option Nat))), (4, (.sl 2 (0 : Nat) (none : Option Nat) (none : Option Nat))), (5, (.I .i64 i_5))]) [⟨[.ints .i64 xs_m_0_0, .ints .i64 xs_m_0_1, .ints .i64 xs_m_0_2], 53, true, false⟩, ⟨[.ints .i64 xs_m_1_0, .ints .i64 xs_m_1_1, .ints .i64 xs_m_1_2], 47, false, true⟩, ⟨[.ints .i64 xs_m_2_0, .ints .i64 xs_m_2_1, .ints .i64 xs_m_2_2], 47, false, true⟩] K) i_5 xs_m_0_0 xs_m_0_1 xs_m_0_2 xs_m_1_0 xs_m_1_1 xs_m_1_2 xs_m_2_0 xs_m_2_1 xs_m_2_2 (K .ret (selE 136 [(0, (.sl 0 (0 : Nat) (none : Option Nat) (none : Option Nat))), (2, (.B false)), (3, (.sl 1 (0 : Nat) (none : Option Nat) (none : Option Nat)))]) [⟨[.ints .i64 xs_m_0_0, .ints .i64 xs_m_0_1, .ints .i64 xs_m_0_2], 53, true, false⟩, ⟨[.ints .i64 xs_m_1_0, .ints .i64 xs_m_1_1, .ints .i64 xs_m_1_2], 47, false, true⟩]) (K (.exit 0) (selE 136 [(0, (.sl 0 (0 : Nat) (none : Option Nat) (none : Option Nat))), (2, .undef), (3, (.sl 1 (0 : Nat) (none : Option Nat) (none : Option Nat)))]) [⟨[.ints .i64 xs_m_0_0, .ints .i64 xs_m_0_1, .ints .i64 xs_m_0_2], 53, true, false⟩, ⟨[.ints .i64 xs_m_1_0, .ints .i64 xs_m_1_1, .ints .i64 xs_m_1_2], 47, false, true⟩]) := by kernel_rfl
theorem RL4_6_ok  (K : Ex → Env → Mem → Prop) : ∀ (n : Nat) (i_5 : Int) (xs_m_0_0 : List Int) (xs_m_0_1 : List Int) (xs_m_0_2 : List Int) (xs_m_1_0 : List Int) (xs_m_1_1 : List Int) (xs_m_1_2 : List Int) (xs_m_2_0 : List Int) (xs_m_2_1 : List Int) (xs_m_2_2 : List Int), cround 1 [0, 3, 4, 5] [0, 2, 3] (fun ρ m K => cexec Tryz.prog C8 (fun _ => none) 1 1000 XL4_6 ρ m K) n (selE 136 [(0, (.sl 0 (0 : Nat) (none : Option Nat) (none : Option Nat))), (3, (.sl 1 (0 : Nat) (none : Option Nat) (none : Option Nat))), (4, (.sl 2 (0 : Nat) (none : Option Nat) (none : Option Nat))), (5, (.I .i64 i_5))]) [⟨[.ints .i64 xs_m_0_0, .ints .i64 xs_m_0_1, .ints .i64 xs_m_0_2], 53, true, false⟩, ⟨[.ints .i64 xs_m_1_0, .ints .i64 xs_m_1_1, .ints .i64 xs_m_1_2], 47, false, true⟩, ⟨[.ints .i64 xs_m_2_0, .ints .i64 xs_m_2_1, .ints .i64 xs_m_2_2], 47, false, true⟩] K = RL4_6  n i_5 xs_m_0_0 xs_m_0_1 xs_m_0_2 xs_m_1_0 xs_m_1_1 xs_m_1_2 xs_m_2_0 xs_m_2_1 xs_m_2_2 (K .ret (selE 136 [(0, (.sl 0 (0 : Nat) (none : Option Nat) (none : Option Nat))), (2, (.B false)), (3, (.sl 1 (0 : Nat) (none : Option Nat) (none : Option Nat)))]) [⟨[.ints .i64 xs_m_0_0, .ints .i64 xs_m_0_1, .ints .i64 xs_m_0_2], 53, true, false⟩, ⟨[.ints .i64 xs_m_1_0, .ints .i64 xs_m_1_1, .ints .i64 xs_m_1_2], 47, false, true⟩]) (K (.exit 0) (selE 136 [(0, (.sl 0 (0 : Nat) (none : Option Nat) (none : Option Nat))), (2, .undef), (3, (.sl 1 (0 : Nat) (none : Option Nat) (none : Option Nat)))]) [⟨[.ints .i64 xs_m_0_0, .ints .i64 xs_m_0_1, .ints .i64 xs_m_0_2], 53, true, false⟩, ⟨[.ints .i64 xs_m_1_0, .ints .i64 xs_m_1_1, .ints .i64 xs_m_1_2], 47, false, true⟩])
  | 0, i_5, xs_m_0_0, xs_m_0_1, xs_m_0_2, xs_m_1_0, xs_m_1_1, xs_m_1_2, xs_m_2_0, xs_m_2_1, xs_m_2_2 => rfl
  | n + 1, i_5, xs_m_0_0, xs_m_0_1, xs_m_0_2, xs_m_1_0, xs_m_1_1, xs_m_1_2, xs_m_2_0, xs_m_2_1, xs_m_2_2 => by
    have ih := RL4_6_ok  K n
    rw [HL4_6_ok  n i_5 xs_m_0_0 xs_m_0_1 xs_m_0_2 xs_m_1_0 xs_m_1_1 xs_m_1_2 xs_m_2_0 xs_m_2_1 xs_m_2_2 K]
    show HL4_6  _ i_5 xs_m_0_0 xs_m_0_1 xs_m_0_2 xs_m_1_0 xs_m_1_1 xs_m_1_2 xs_m_2_0 xs_m_2_1 xs_m_2_2 (K .ret (selE 136 [(0, (.sl 0 (0 : Nat) (none : Option Nat) (none : Option Nat))), (2, (.B false)), (3, (.sl 1 (0 : Nat) (none : Option Nat) (none : Option Nat)))]) [⟨[.ints .i64 xs_m_0_0, .ints .i64 xs_m_0_1, .ints .i64 xs_m_0_2], 53, true, false⟩, ⟨[.ints .i64 xs_m_1_0, .ints .i64 xs_m_1_1, .ints .i64 xs_m_1_2], 47, false, true⟩]) (K (.exit 0) (selE 136 [(0, (.sl 0 (0 : Nat) (none : Option Nat) (none : Option Nat))), (2, .undef), (3, (.sl 1 (0 : Nat) (none : Option Nat) (none : Option Nat)))]) [⟨[.ints .i64 xs_m_0_0, .ints .i64 xs_m_0_1, .ints .i64 xs_m_0_2], 53, true, false⟩, ⟨[.ints .i64 xs_m_1_0, .ints .i64 xs_m_1_1, .ints .i64 xs_m_1_2], 47, false, true⟩]) = HL4_6  _ i_5 xs_m_0_0 xs_m_0_1 xs_m_0_2 xs_m_1_0 xs_m_1_1 xs_m_1_2 xs_m_2_0 xs_m_2_1 xs_m_2_2 (K .ret (selE 136 [(0, (.sl 0 (0 : Nat) (none : Option Nat) (none : Option Nat))), (2, (.B false)), (3, (.sl 1 (0 : Nat) (none : Option Nat) (none : Option Nat)))]) [⟨[.ints .i64 xs_m_0_0, .ints .i64 xs_m_0_1, .ints .i64 xs_m_0_2], 53, true, false⟩, ⟨[.ints .i64 xs_m_1_0, .ints .i64 xs_m_1_1, .ints .i64 xs_m_1_2], 47, false, true⟩]) (K (.exit 0) (selE 136 [(0, (.sl 0 (0 : Nat) (none : Option Nat) (none : Option Nat))), (2, .undef), (3, (.sl 1 (0 : Nat) (none : Option Nat) (none : Option Nat)))]) [⟨[.ints .i64 xs_m_0_0, .ints .i64 xs_m_0_1, .ints .i64 xs_m_0_2], 53, true, false⟩, ⟨[.ints .i64 xs_m_1_0, .ints .i64 xs_m_1_1, .ints .i64 xs_m_1_2], 47, false, true⟩])
    refine congrArg (fun r => HL4_6  r i_5 xs_m_0_0 xs_m_0_1 xs_m_0_2 xs_m_1_0 xs_m_1_1 xs_m_1_2 xs_m_2_0 xs_m_2_1 xs_m_2_2 (K .ret (selE 136 [(0, (.sl 0 (0 : Nat) (none : Option Nat) (none : Option Nat))), (2, (.B false)), (3, (.sl 1 (0 : Nat) (none : Option Nat) (none : Option Nat)))]) [⟨[.ints .i64 xs_m_0_0, .ints .i64 xs_m_0_1, .ints .i64 xs_m_0_2], 53, true, false⟩, ⟨[.ints .i64 xs_m_1_0, .ints .i64 xs_m_1_1, .ints .i64 xs_m_1_2], 47, false, true⟩]) (K (.exit 0) (selE 136 [(0, (.sl 0 (0 : Nat) (none : Option Nat) (none : Option Nat))), (2, .undef), (3, (.sl 1 (0 : Nat) (none : Option Nat) (none : Option Nat)))]) [⟨[.ints .i64 xs_m_0_0, .ints .i64 xs_m_0_1, .ints .i64 xs_m_0_2], 53, true, false⟩, ⟨[.ints .i64 xs_m_1_0, .ints .i64 xs_m_1_1, .ints .i64 xs_m_1_2], 47, false, true⟩])) ?_
    funext i_5
    exact ih i_5 xs_m_0_0 xs_m_0_1 xs_m_0_2 xs_m_1_0 xs_m_1_1 xs_m_1_2 xs_m_2_0 xs_m_2_1 xs_m_2_2
def GL4_6 : YL4_6 := fun x i_5 xs_m_0_0 xs_m_0_1 xs_m_0_2 xs_m_1_0 xs_m_1_1 xs_m_1_2 xs_m_2_0 xs_m_2_1 xs_m_2_2 k1 k2 => x = XL4_6 ∧ ∃ n, RL4_6  n i_5 xs_m_0_0 xs_m_0_1 xs_m_0_2 xs_m_1_0 xs_m_1_1 xs_m_1_2 xs_m_2_0 xs_m_2_1 xs_m_2_2 k1 k2
def VL4_6 (l : YL4_6) (F : Prop) (x : Code) (ρ : Env) (m : Mem) (K : Ex → Env → Mem → Prop) : Prop :=
  match ρ.has (136 - 1) with
  | true => (seeV (.sl 0 (0 : Nat) (none : Option Nat) (none : Option Nat)) (ρ.get 0) F (seeV (.sl 1 (0 : Nat) (none : Option Nat) (none : Option Nat)) (ρ.get 3) F (seeV (.sl 2 (0 : Nat) (none : Option Nat) (none : Option Nat)) (ρ.get 4) F (seeI .i64 (ρ.get 5) F fun i_5 => (seeCons m F fun a5 q6 => (seeBlk 53 true false a5 F fun cs7 => (seeCons cs7 F fun a8 q9 => (seeInts .i64 a8 F fun xs_m_0_0 => (seeCons q9 F fun a10 q11 => (seeInts .i64 a10 F fun xs_m_0_1 => (seeCons q11 F fun a12 q13 => (seeInts .i64 a12 F fun xs_m_0_2 => (seeNil q13 F (seeCons q6 F fun a14 q15 => (seeBlk 47 false true a14 F fun cs16 => (seeCons cs16 F fun a17 q18 => (seeInts .i64 a17 F fun xs_m_1_0 => (seeCons q18 F fun a19 q20 => (seeInts .i64 a19 F fun xs_m_1_1 => (seeCons q20 F fun a21 q22 => (seeInts .i64 a21 F fun xs_m_1_2 => (seeNil q22 F (seeCons q15 F fun a23 q24 => (seeBlk 47 false true a23 F fun cs25 => (seeCons cs25 F fun a26 q27 => (seeInts .i64 a26 F fun xs_m_2_0 => (seeCons q27 F fun a28 q29 => (seeInts .i64 a28 F fun xs_m_2_1 => (seeCons q29 F fun a30 q31 => (seeInts .i64 a30 F fun xs_m_2_2 => (seeNil q31 F (seeNil q24 F (l x i_5 xs_m_0_0 xs_m_0_1 xs_m_0_2 xs_m_1_0 xs_m_1_1 xs_m_1_2 xs_m_2_0 xs_m_2_1 xs_m_2_2 (K .ret (selE 136 [(0, (.sl 0 (0 : Nat) (none : Option Nat) (none : Option Nat))), (2, (.B false)), (3, (.sl 1 (0 : Nat) (none : Option Nat) (none : Option Nat)))]) [⟨[.ints .i64 xs_m_0_0, .ints .i64 xs_m_0_1, .ints .i64 xs_m_0_2], 53, true, false⟩, ⟨[.ints .i64 xs_m_1_0, .ints .i64 xs_m_1_1, .ints .i64 xs_m_1_2], 47, false, true⟩]) (K (.exit 0) (selE 136 [(0, (.sl 0 (0 : Nat) (none : Option Nat) (none : Option Nat))), (2, .undef), (3, (.sl 1 (0 : Nat) (none : Option Nat) (none : Option Nat)))]) [⟨[.ints .i64 xs_m_0_0, .ints .i64 xs_m_0_1, .ints .i64 xs_m_0_2], 53, true, false⟩, ⟨[.ints .i64 xs_m_1_0, .ints .i64 xs_m_1_1, .ints .i64 xs_m_1_2], 47, false, true⟩]))))))))))))))))))))))))))))))))))
  | false => False
def WL4_6 (l : YL4_6) (W : Masks) : Masks := fun r =>
  match Nat.beq r 6 with
  | true => some fun x ρ m K => VL4_6 l (match W r with | some lf => lf x ρ m K | none => False) x (tidyE 1 [0, 3, 4, 5] ρ m) (tidyM 1 [0, 3, 4, 5] ρ m) K
  | false => W r
set_option maxRecDepth 100000 in
theorem WL4_6_ok {W : Masks} (hW : LoopsOk Tryz.prog 1 W) : LoopsOk Tryz.prog 1 (WL4_6 GL4_6 W) := by
  intro r lf h
  unfold WL4_6 at h
  split at h
  · cases h
    intro x E0 m0 w0 J hS0 ha hJ ρ m K E a w Q hS hρ hd h hQ
    have fb : (match W r with | some lf => lf x ρ m K | none => False) → (Code.loop x).wp Tryz.prog Q a w := fun h => by
      split at h
      · rename_i lf hlf
        exact hW r lf hlf x hS0 ha hJ ρ m K E a w Q hS hρ hd h hQ
      · cases h
    obtain ⟨E2, hS2, hρ2⟩ := tidy_rel hS0 hS hρ [0, 3, 4, 5]
    rw [ha] at hS2 hρ2
    unfold VL4_6 at h
    split at h
    · rename_i hlen
      replace h := seeV_use h
      rcases h with h | ⟨e1, h⟩
      · exact fb h
      replace h := seeV_use h
      rcases h with h | ⟨e2, h⟩
      · exact fb h
      replace h := seeV_use h
      rcases h with h | ⟨e3, h⟩
      · exact fb h
      replace h := seeI_use h
      rcases h with h | ⟨i_5, e4, h⟩
      · exact fb h
      replace h := seeCons_use h
      rcases h with h | ⟨a5, q6, eqm, h⟩
      · exact fb h
      replace h := seeBlk_use h
      rcases h with h | ⟨cs7, rfl, h⟩
      · exact fb h
      replace h := seeCons_use h
      rcases h with h | ⟨a8, q9, rfl, h⟩
      · exact fb h
      replace h := seeInts_use h
      rcases h with h | ⟨xs_m_0_0, rfl, h⟩
      · exact fb h
      replace h := seeCons_use h
      rcases h with h | ⟨a10, q11, rfl, h⟩
      · exact fb h
      replace h := seeInts_use h
      rcases h with h | ⟨xs_m_0_1, rfl, h⟩
      · exact fb h
      replace h := seeCons_use h
      rcases h with h | ⟨a12, q13, rfl, h⟩
      · exact fb h
      replace h := seeInts_use h
      rcases h with h | ⟨xs_m_0_2, rfl, h⟩
      · exact fb h
      replace h := seeNil_use h
      rcases h with h | ⟨rfl, h⟩
      · exact fb h
      replace h := seeCons_use h
      rcases h with h | ⟨a14, q15, rfl, h⟩
      · exact fb h
      replace h := seeBlk_use h
      rcases h with h | ⟨cs16, rfl, h⟩
      · exact fb h
      replace h := seeCons_use h
      rcases h with h | ⟨a17, q18, rfl, h⟩
      · exact fb h
      replace h := seeInts_use h
      rcases h with h | ⟨xs_m_1_0, rfl, h⟩
      · exact fb h
      replace h := seeCons_use h
      rcases h with h | ⟨a19, q20, rfl, h⟩
      · exact fb h
      replace h := seeInts_use h
      rcases h with h | ⟨xs_m_1_1, rfl, h⟩
      · exact fb h
      replace h := seeCons_use h
      rcases h with h | ⟨a21, q22, rfl, h⟩
      · exact fb h
      replace h := seeInts_use h
      rcases h with h | ⟨xs_m_1_2, rfl, h⟩
      · exact fb h
      replace h := seeNil_use h
      rcases h with h | ⟨rfl, h⟩
      · exact fb h
      replace h := seeCons_use h
      rcases h with h | ⟨a23, q24, rfl, h⟩
      · exact fb h
      replace h := seeBlk_use h
      rcases h with h | ⟨cs25, rfl, h⟩
      · exact fb h
      replace h := seeCons_use h
      rcases h with h | ⟨a26, q27, rfl, h⟩
      · exact fb h
      replace h := seeInts_use h
      rcases h with h | ⟨xs_m_2_0, rfl, h⟩
      · exact fb h
      replace h := seeCons_use h
      rcases h with h | ⟨a28, q29, rfl, h⟩
      · exact fb h
      replace h := seeInts_use h
      rcases h with h | ⟨xs_m_2_1, rfl, h⟩
      · exact fb h
      replace h := seeCons_use h
      rcases h with h | ⟨a30, q31, rfl, h⟩
      · exact fb h
      replace h := seeInts_use h
      rcases h with h | ⟨xs_m_2_2, rfl, h⟩
      · exact fb h
      replace h := seeNil_use h
      rcases h with h | ⟨rfl, h⟩
      · exact fb h
      replace h := seeNil_use h
      rcases h with h | ⟨rfl, h⟩
      · exact fb h
      obtain ⟨rfl, n, h⟩ := h
      exact loop_use named C8_ok (LoopsOk.none _ _) (RL4_6_ok  K n _ _ _ _ _ _ _ _ _ _) h hS0 ha hJ hlen ⟨e1, e2, e3, e4, trivial⟩ (eqm ▸ hS2) hρ2 hd hQ
    · cases h
  · exact hW r lf h
theorem at4 : Tryz.prog.funcs[4]? = some (fnOf Tryz.prog 4) := by kernel_rfl
abbrev Y4 : Type := List Int → List Int → List Int → (Prop) → (Prop) → Prop
set_option maxHeartbeats 4000000 in
set_option maxRecDepth 100000 in
def F4  (l4_6 : YL4_6) (xs : List Int) (ts : List Int) (ns : List Int) (k1 : Prop) (k2 : Prop) : Prop :=
  (recS xs ts ns (srtS xs ts ns (fun (sx1 : List Int) (st2 : List Int) (sn3 : List Int) => (bif (((((List.length sx1) - (0 : Nat)) : Nat) : Int) != ((((List.length xs) - (0 : Nat)) : Nat) : Int)) then (k1) else (srtS sx1 st2 sn3 (fun (sx4 : List Int) (st5 : List Int) (sn6 : List Int) => (samS sx4 st5 sn6 sx1 st2 sn3 (fun (sb7 : Bool) => (bif (!sb7) then (k1) else (l4_6 XL4_6 (0 : Int) xs ts ns xs ts ns sx1 st2 sn3 ((k1)) ((wrtS xs ts ns (fun (we8 : Int) => (bif (we8 != (0 : Int)) then (k2) else False)) (fun (wb9 : List Int) => (rdS wb9 (fun (sx10 : List Int) (st11 : List Int) (sn12 : List Int) => (samS sx10 st11 sn12 xs ts ns (fun (sb13 : Bool) => (bif sb13 then (bif (((((List.length wb9) - (0 : Nat)) : Nat) : Int) == (IntKind.wrap .i64 ((24 : Int) * ((((List.length xs) - (0 : Nat)) : Nat) : Int)))) then (k2) else (k1)) else (k1)))))))))))))))))))
theorem F4_ok  (l4_6 : YL4_6) (xs : List Int) (ts : List Int) (ns : List Int) (K : V → Mem → Prop) : cbody Tryz.prog C8 (WL4_6 l4_6 (fun _ => none)) 1000 (fnOf Tryz.prog 4) [(.sl 0 (0 : Nat) (none : Option Nat) (none : Option Nat))] [⟨[.ints .i64 xs, .ints .i64 ts, .ints .i64 ns], 53, true, false⟩] K =
    F4  l4_6 xs ts ns (K (.B false) [⟨[.ints .i64 xs, .ints .i64 ts, .ints .i64 ns], 53, true, false⟩]) (K (.B true) [⟨[.ints .i64 xs, .ints .i64 ts, .ints .i64 ns], 53, true, false⟩]) := by kernel_rfl
/-! ### The law -/
theorem lp_in (L s : List R) (k1 k2 : Prop) (hS : Srt ltR s) (hM : Same ltR L s) (hs : sm s.length) (hL : sm L.length) (hk : k2) : ∀ (T A : List R), s = A ++ T →
    RL4_6 (T.length + 1) ((A.length : Nat) : Int) (L.map f1) (L.map f2) (L.map f3) (L.map f1) (L.map f2) (L.map f3) (s.map f1) (s.map f2) (s.map f3) k1 k2
  | [], A, e => by
    subst e
    show HL4_6 _ _ _ _ _ _ _ _ _ _ _ _ _
    unfold HL4_6
    rw [decide_eq_false (by simp : ¬ ((A.length : Nat) : Int) < (((List.length ((A ++ ([] : List R)).map f1) - (0 : Nat) : Nat)) : Int))]
    exact hk
  | x :: T, A, e => by
    have hs1 : s.length = A.length + (T.length + 1) := by rw [e]; simp
    have hs2 : s.length ≤ 1048576 := hs
    have ei : IntKind.wrap .i64 (((A.length : Nat) : Int) + 1) = (((A ++ [x]).length : Nat) : Int) := by rw [w64 (by omega) (by omega)]; simp
    have ih := lp_in L s k1 k2 hS hM hs hL hk T (A ++ [x]) (by rw [e]; simp)
    have gx : ∀ f : R → Int, List.getD (s.map f) A.length 0 = f x := fun f => gI e rfl
    show HL4_6 _ _ _ _ _ _ _ _ _ _ _ _ _
    unfold HL4_6
    rw [ei]
    generalize hg1 : List.getD (s.map f1) (Int.toNat ((A.length : Nat) : Int)) 0 = v1
    generalize hg2 : List.getD (s.map f2) (Int.toNat ((A.length : Nat) : Int)) 0 = v2
    generalize hg3 : List.getD (s.map f3) (Int.toNat ((A.length : Nat) : Int)) 0 = v3
    obtain rfl : v1 = f1 x := by rw [← hg1, Int.toNat_natCast]; exact gx f1
    obtain rfl : v2 = f2 x := by rw [← hg2, Int.toNat_natCast]; exact gx f2
    obtain rfl : v3 = f3 x := by rw [← hg3, Int.toNat_natCast]; exact gx f3
    rw [decide_eq_true (by simp; omega : ((A.length : Nat) : Int) < (((List.length (s.map f1) - (0 : Nat) : Nat)) : Int)), decide_eq_true (Int.natCast_nonneg A.length : (0 : Int) ≤ ((A.length : Nat) : Int))]
    simp only [Bool.and_self, cond_true, beq_self_eq_true, Bool.and_true]
    refine ⟨s, ⟨rfl, rfl, rfl⟩, hs, ?_⟩
    refine ⟨L, ⟨rfl, rfl, rfl⟩, hL, ?_⟩
    have hc : ((s.count x : Nat) : Int) = ((L.count x : Nat) : Int) := by rw [hM.count ordR]
    have hx : ((f1 x, f2 x, f3 x) : R) = x := rfl
    dsimp only
    rw [hx, hc]
    simp only [bne_self_eq_false, cond_false]
    rcases List.eq_nil_or_concat A with rfl | ⟨A', w, rfl⟩
    · rw [decide_eq_false (by simp : ¬ ((([] : List R).length : Nat) : Int) > 0)]
      simp only [cond_false]
      exact ih
    · rw [List.concat_eq_append] at *
      have hA' : (A' ++ [w]).length = A'.length + 1 := by simp
      rw [hA'] at hs1
      have ep : IntKind.wrap .i64 ((((A' ++ [w]).length : Nat) : Int) - 1) = ((A'.length : Nat) : Int) := by rw [hA', w64 (by omega) (by omega)]; omega
      have hw : ltR x w = false := by
        rw [e] at hS
        exact (srt_app.1 hS).2.2 w (by simp) x (by simp)
      have gw : ∀ f : R → Int, List.getD (s.map f) A'.length 0 = f w := fun f => gI (A := A') (B := x :: T) (by rw [e]; simp) rfl
      rw [ep]
      generalize hg4 : List.getD (s.map f1) (Int.toNat ((A'.length : Nat) : Int)) 0 = w1
      generalize hg5 : List.getD (s.map f2) (Int.toNat ((A'.length : Nat) : Int)) 0 = w2
      obtain rfl : w1 = f1 w := by rw [← hg4, Int.toNat_natCast]; exact gw f1
      obtain rfl : w2 = f2 w := by rw [← hg5, Int.toNat_natCast]; exact gw f2
      rw [inb (by omega), decide_eq_true (by rw [hA']; omega : (((A' ++ [w]).length : Nat) : Int) > 0)]
      simp only [cond_true]
      rw [ltR_not] at hw
      have q : ∀ y : R, rk y = if f2 y = 8 then 0 else 1 := fun y => rfl
      have p1 : ∀ y : R, y.1 = f1 y := fun y => rfl
      rw [q, q, p1, p1] at hw
      by_cases c1 : f2 w = 8
      · rw [(by simpa using c1 : (f2 w != 8) = false)]
        simp only [cond_false]
        by_cases c2 : f2 w = f2 x
        · rw [(by simpa using c2 : (f2 w == f2 x) = true)]
          have c3 : ¬ f1 w > f1 x := by intro h; apply hw; rw [if_pos c1, if_pos (c2 ▸ c1)]; right; exact ⟨rfl, h⟩
          rw [decide_eq_false c3]
          exact ih
        · rw [(by simpa using c2 : (f2 w == f2 x) = false)]
          exact ih
      · rw [(by simpa using c1 : (f2 w != 8) = true)]
        have c4 : ¬ f2 x = 8 := by intro h; apply hw; rw [if_pos h, if_neg c1]; left; decide
        rw [(by simpa using c4 : (f2 x == 8) = false)]
        simp only [cond_true, cond_false]
        by_cases c2 : f2 w = f2 x
        · rw [(by simpa using c2 : (f2 w == f2 x) = true)]
          have c3 : ¬ f1 w > f1 x := by intro h; apply hw; rw [if_neg c1, if_neg c4]; right; exact ⟨rfl, h⟩
          rw [decide_eq_false c3]
          exact ih
        · rw [(by simpa using c2 : (f2 w == f2 x) = false)]
          exact ih
theorem law4 {rs : List R} (hne : rs ≠ []) (hs : sm rs.length) {kf kt : Prop} (hk : kt) : F4 GL4_6 (rs.map f1) (rs.map f2) (rs.map f3) kf kt := by
  have hs' : rs.length ≤ 1048576 := hs
  unfold F4
  refine ⟨rs, ⟨rfl, rfl, rfl⟩, hs, rs, ⟨rfl, rfl, rfl⟩, hs, hne, fun s1 h1 m1 => ?_⟩
  have l1 : s1.length = rs.length := (m1.perm_length ordR).symm
  have hs1 : sm s1.length := by rw [l1]; exact hs
  unfold put3
  dsimp only
  rw [(by simp; omega : ((((List.length (s1.map f1) - (0 : Nat) : Nat)) : Int) != (((List.length (rs.map f1) - (0 : Nat) : Nat)) : Int)) = false)]
  refine ⟨s1, ⟨rfl, rfl, rfl⟩, hs1, (by intro h; rw [h] at l1; exact hne (List.eq_nil_of_length_eq_zero l1.symm)), fun s2 h2 m2 => ?_⟩
  obtain rfl : s2 = s1 := unique ordR h2 h1 m2.symm
  refine ⟨s2, s2, ⟨rfl, rfl, rfl⟩, ⟨rfl, rfl, rfl⟩, hs1, hs1, ?_⟩
  rw [decide_eq_true rfl]
  refine ⟨rfl, s2.length + 1, lp_in rs s2 _ _ h1 m1 hs1 hs ?_ s2 [] rfl⟩
  refine ⟨rs, ⟨rfl, rfl, rfl⟩, hs, fun _ c hc => ?_, fun hok => ?_⟩
  · dsimp only
    rw [(by simpa using hc : (c != 0) = true)]
    exact hk
  · refine ⟨rs, rfl, hok, ?_⟩
    refine ⟨rs, rs, ⟨rfl, rfl, rfl⟩, ⟨rfl, rfl, rfl⟩, hs, hs, ?_⟩
    have e : ((((List.length (rs.flatMap encR) - (0 : Nat) : Nat)) : Int) == IntKind.wrap .i64 ((24 : Int) * (((List.length (rs.map f1) - (0 : Nat) : Nat)) : Int))) = true := by
      rw [enc_len, w64 (by simp; omega) (by simp; omega)]; simp
    dsimp only
    rw [decide_eq_true rfl, e]
    exact hk
theorem empty_run (K : V → Mem → Prop) : cbody Tryz.prog C9 (fun _ => none) 1000 (fnOf Tryz.prog 4) [.sl 0 0 none none] [⟨[.ints .i64 [], .ints .i64 [], .ints .i64 []], 53, true, false⟩] K = K (.B true) [⟨[.ints .i64 [], .ints .i64 [], .ints .i64 []], 53, true, false⟩] := by kernel_rfl
theorem cols_of : ∀ (xs ts ns : List Int), ts.length = xs.length → ns.length = xs.length → ∃ rs : List R, rs.length = xs.length ∧ is3 rs xs ts ns
  | [], [], [], _, _ => ⟨[], rfl, rfl, rfl, rfl⟩
  | x :: xs, t :: ts, n :: ns, h1, h2 => by
    obtain ⟨rs, hl, rfl, rfl, rfl⟩ := cols_of xs ts ns (by simpa using h1) (by simpa using h2)
    exact ⟨(x, t, n) :: rs, by simp, rfl, rfl, rfl⟩
end Go.Proofs.YtgflbmcmkjkmmaaGreat.so
