import Derived.Test.YtgflbmcmkjkmmaaGreatSo3
set_option linter.unusedVariables false
set_option linter.unusedSimpArgs false
set_option maxHeartbeats 4000000
set_option maxRecDepth 100000
namespace Go.Proofs.YtgflbmcmkjkmmaaGreat.so
open Go Go.Ab Go.So
def prims4 : Prims := fun f =>
  match Nat.beq f 99 with
  | true => some (p2 insS)
  | false =>
  match Nat.beq f 100 with
  | true => some (p3 mrgS)
  | false => prims1 f
theorem prims4_ok : PrimsOk Tryz.prog prims4 := by
  intro f g hg
  unfold prims4 at hg
  split at hg
  · rename_i hf
    obtain rfl := Nat.eq_of_beq_eq_true hf
    cases hg
    exact P99_ok
  · skip
    split at hg
    · rename_i hf
      obtain rfl := Nat.eq_of_beq_eq_true hf
      cases hg
      exact P100_ok
    · skip
      exact prims1_ok f g hg
def C4 : CC := call Tryz.prog prims4 1000
theorem C4_ok : CallsOk Tryz.prog C4 := call_sound named prims4_ok 1000
abbrev YL62_2 : Type := Code → Int → Int → Int → List Int → List Int → List Int → (Int → List Int → List Int → List Int → Prop) → Prop
set_option maxHeartbeats 4000000 in
set_option maxRecDepth 100000 in
def HL62_2  (rec : Int → Int → List Int → List Int → List Int → Prop) (i_1 : Int) (i_7 : Int) (i_8 : Int) (xs_m_0_0 : List Int) (xs_m_0_1 : List Int) (xs_m_0_2 : List Int) (k1 : Int → List Int → List Int → List Int → Prop) : Prop :=
  (bif (decide (i_8 ≤ i_1)) then (insS i_7 i_8 xs_m_0_0 xs_m_0_1 xs_m_0_2 (fun (sx4 : List Int) (st5 : List Int) (sn6 : List Int) => (rec i_8 (IntKind.wrap .i64 (i_8 + (20 : Int))) sx4 st5 sn6))) else (k1 i_7 xs_m_0_0 xs_m_0_1 xs_m_0_2))
def RL62_2  : Nat → Int → Int → Int → List Int → List Int → List Int → (Int → List Int → List Int → List Int → Prop) → Prop
  | 0, _, _, _, _, _, _, _ => False
  | n + 1, i_1, i_7, i_8, xs_m_0_0, xs_m_0_1, xs_m_0_2, k1 => HL62_2  (fun (i_7 : Int) (i_8 : Int) (xs_m_0_0 : List Int) (xs_m_0_1 : List Int) (xs_m_0_2 : List Int) => RL62_2  n i_1 i_7 i_8 xs_m_0_0 xs_m_0_1 xs_m_0_2 k1) i_1 i_7 i_8 xs_m_0_0 xs_m_0_1 xs_m_0_2 k1
noncomputable def XL62_2 : Code := sub [true, true, false, false, false] (bodyOf Tryz.prog 62)
theorem HL62_2_ok  (n : Nat) (i_1 : Int) (i_7 : Int) (i_8 : Int) (xs_m_0_0 : List Int) (xs_m_0_1 : List Int) (xs_m_0_2 : List Int) (K : Ex → Env → Mem → Prop) : cround 2 [0, 1, 2, 6, 7, 8] [0, 1, 2, 6, 7] (fun ρ m K => cexec Tryz.prog C4 (fun _ => none) 2 1000 XL62_2 ρ m K) (n + 1) (selE 63 [(0, (.sl 0 (0 : Nat) (none : Option Nat) (none : Option Nat))), (1, (.I .i64 i_1)), (2, (.fn (.func 23) [] [(.ptr 1 (0 : Nat) 0)])), (6, (.I .i64 (20 : Int))), (7, (.I .i64 i_7)), (8, (.I .i64 i_8))]) [⟨[.ints .i64 xs_m_0_0, .ints .i64 xs_m_0_1, .ints .i64 xs_m_0_2], 47, false, false⟩, ⟨[.vals [(.fn (.func 21) [] [])]], 54, false, false⟩] K =
    HL62_2  (fun (i_7 : Int) (i_8 : Int) (xs_m_0_0 : List Int) (xs_m_0_1 : List Int) (xs_m_0_2 : List Int) => cround 2 [0, 1, 2, 6, 7, 8] [0, 1, 2, 6, 7] (fun ρ m K => cexec Tryz.prog C4 (fun _ => none) 2 1000 XL62_2 ρ m K) n (selE 63 [(0, (.sl 0 (0 : Nat) (none : Option Nat) (none : Option Nat))), (1, (.I .i64 i_1)), (2, (.fn (.func 23) [] [(.ptr 1 (0 : Nat) 0)])), (6, (.I .i64 (20 : Int))), (7, (.I .i64 i_7)), (8, (.I .i64 i_8))]) [⟨[.ints .i64 xs_m_0_0, .ints .i64 xs_m_0_1, .ints .i64 xs_m_0_2], 47, false, false⟩, ⟨[.vals [(.fn (.func 21) [] [])]], 54, false, false⟩] K) i_1 i_7 i_8 xs_m_0_0 xs_m_0_1 xs_m_0_2 (fun (u0 : Int) (u1 : List Int) (u2 : List Int) (u3 : List Int) => K (.exit 0) (selE 63 [(0, (.sl 0 (0 : Nat) (none : Option Nat) (none : Option Nat))), (1, (.I .i64 i_1)), (2, (.fn (.func 23) [] [(.ptr 1 (0 : Nat) 0)])), (6, (.I .i64 (20 : Int))), (7, (.I .i64 u0))]) [⟨[.ints .i64 u1, .ints .i64 u2, .ints .i64 u3], 47, false, false⟩, ⟨[.vals [(.fn (.func 21) [] [])]], 54, false, false⟩]) := by kernel_rfl
theorem RL62_2_ok  (K : Ex → Env → Mem → Prop) : ∀ (n : Nat) (i_1 : Int) (i_7 : Int) (i_8 : Int) (xs_m_0_0 : List Int) (xs_m_0_1 : List Int) (xs_m_0_2 : List Int), cround 2 [0, 1, 2, 6, 7, 8] [0, 1, 2, 6, 7] (fun ρ m K => cexec Tryz.prog C4 (fun _ => none) 2 1000 XL62_2 ρ m K) n (selE 63 [(0, (.sl 0 (0 : Nat) (none : Option Nat) (none : Option Nat))), (1, (.I .i64 i_1)), (2, (.fn (.func 23) [] [(.ptr 1 (0 : Nat) 0)])), (6, (.I .i64 (20 : Int))), (7, (.I .i64 i_7)), (8, (.I .i64 i_8))]) [⟨[.ints .i64 xs_m_0_0, .ints .i64 xs_m_0_1, .ints .i64 xs_m_0_2], 47, false, false⟩, ⟨[.vals [(.fn (.func 21) [] [])]], 54, false, false⟩] K = RL62_2  n i_1 i_7 i_8 xs_m_0_0 xs_m_0_1 xs_m_0_2 (fun (u0 : Int) (u1 : List Int) (u2 : List Int) (u3 : List Int) => K (.exit 0) (selE 63 [(0, (.sl 0 (0 : Nat) (none : Option Nat) (none : Option Nat))), (1, (.I .i64 i_1)), (2, (.fn (.func 23) [] [(.ptr 1 (0 : Nat) 0)])), (6, (.I .i64 (20 : Int))), (7, (.I .i64 u0))]) [⟨[.ints .i64 u1, .ints .i64 u2, .ints .i64 u3], 47, false, false⟩, ⟨[.vals [(.fn (.func 21) [] [])]], 54, false, false⟩])
  | 0, i_1, i_7, i_8, xs_m_0_0, xs_m_0_1, xs_m_0_2 => rfl
  | n + 1, i_1, i_7, i_8, xs_m_0_0, xs_m_0_1, xs_m_0_2 => by
    have ih := RL62_2_ok  K n
    rw [HL62_2_ok  n i_1 i_7 i_8 xs_m_0_0 xs_m_0_1 xs_m_0_2 K]
    show HL62_2  _ i_1 i_7 i_8 xs_m_0_0 xs_m_0_1 xs_m_0_2 (fun (u0 : Int) (u1 : List Int) (u2 : List Int) (u3 : List Int) => K (.exit 0) (selE 63 [(0, (.sl 0 (0 : Nat) (none : Option Nat) (none : Option Nat))), (1, (.I .i64 i_1)), (2, (.fn (.func 23) [] [(.ptr 1 (0 : Nat) 0)])), (6, (.I .i64 (20 : Int))), (7, (.I .i64 u0))]) [⟨[.ints .i64 u1, .ints .i64 u2, .ints .i64 u3], 47, false, false⟩, ⟨[.vals [(.fn (.func 21) [] [])]], 54, false, false⟩]) = HL62_2  _ i_1 i_7 i_8 xs_m_0_0 xs_m_0_1 xs_m_0_2 (fun (u0 : Int) (u1 : List Int) (u2 : List Int) (u3 : List Int) => K (.exit 0) (selE 63 [(0, (.sl 0 (0 : Nat) (none : Option Nat) (none : Option Nat))), (1, (.I .i64 i_1)), (2, (.fn (.func 23) [] [(.ptr 1 (0 : Nat) 0)])), (6, (.I .i64 (20 : Int))), (7, (.I .i64 u0))]) [⟨[.ints .i64 u1, .ints .i64 u2, .ints .i64 u3], 47, false, false⟩, ⟨[.vals [(.fn (.func 21) [] [])]], 54, false, false⟩])
    refine congrArg (fun r => HL62_2  r i_1 i_7 i_8 xs_m_0_0 xs_m_0_1 xs_m_0_2 (fun (u0 : Int) (u1 : List Int) (u2 : List Int) (u3 : List Int) => K (.exit 0) (selE 63 [(0, (.sl 0 (0 : Nat) (none : Option Nat) (none : Option Nat))), (1, (.I .i64 i_1)), (2, (.fn (.func 23) [] [(.ptr 1 (0 : Nat) 0)])), (6, (.I .i64 (20 : Int))), (7, (.I .i64 u0))]) [⟨[.ints .i64 u1, .ints .i64 u2, .ints .i64 u3], 47, false, false⟩, ⟨[.vals [(.fn (.func 21) [] [])]], 54, false, false⟩])) ?_
    funext i_7 i_8 xs_m_0_0 xs_m_0_1 xs_m_0_2
    exact ih i_1 i_7 i_8 xs_m_0_0 xs_m_0_1 xs_m_0_2
def GL62_2 : YL62_2 := fun x i_1 i_7 i_8 xs_m_0_0 xs_m_0_1 xs_m_0_2 k1 => x = XL62_2 ∧ ∃ n, RL62_2  n i_1 i_7 i_8 xs_m_0_0 xs_m_0_1 xs_m_0_2 k1
def VL62_2 (l : YL62_2) (F : Prop) (x : Code) (ρ : Env) (m : Mem) (K : Ex → Env → Mem → Prop) : Prop :=
  match ρ.has (63 - 1) with
  | true => (seeV (.sl 0 (0 : Nat) (none : Option Nat) (none : Option Nat)) (ρ.get 0) F (seeI .i64 (ρ.get 1) F fun i_1 => (seeV (.fn (.func 23) [] [(.ptr 1 (0 : Nat) 0)]) (ρ.get 2) F (seeV (.I .i64 (20 : Int)) (ρ.get 6) F (seeI .i64 (ρ.get 7) F fun i_7 => (seeI .i64 (ρ.get 8) F fun i_8 => (seeCons m F fun a7 q8 => (seeBlk 47 false false a7 F fun cs9 => (seeCons cs9 F fun a10 q11 => (seeInts .i64 a10 F fun xs_m_0_0 => (seeCons q11 F fun a12 q13 => (seeInts .i64 a12 F fun xs_m_0_1 => (seeCons q13 F fun a14 q15 => (seeInts .i64 a14 F fun xs_m_0_2 => (seeNil q15 F (seeCons q8 F fun a16 q17 => (seeBlk 54 false false a16 F fun cs18 => (seeCons cs18 F fun a19 q20 => (seeVals a19 F fun xs21 => (seeCons xs21 F fun a22 q23 => (seeV (.fn (.func 21) [] []) a22 F (seeNil q23 F (seeNil q20 F (seeNil q17 F (l x i_1 i_7 i_8 xs_m_0_0 xs_m_0_1 xs_m_0_2 (fun (u0 : Int) (u1 : List Int) (u2 : List Int) (u3 : List Int) => K (.exit 0) (selE 63 [(0, (.sl 0 (0 : Nat) (none : Option Nat) (none : Option Nat))), (1, (.I .i64 i_1)), (2, (.fn (.func 23) [] [(.ptr 1 (0 : Nat) 0)])), (6, (.I .i64 (20 : Int))), (7, (.I .i64 u0))]) [⟨[.ints .i64 u1, .ints .i64 u2, .ints .i64 u3], 47, false, false⟩, ⟨[.vals [(.fn (.func 21) [] [])]], 54, false, false⟩]))))))))))))))))))))))))))
  | false => False
def WL62_2 (l : YL62_2) (W : Masks) : Masks := fun r =>
  match Nat.beq r 2 with
  | true => some fun x ρ m K => VL62_2 l (match W r with | some lf => lf x ρ m K | none => False) x (tidyE 2 [0, 1, 2, 6, 7, 8] ρ m) (tidyM 2 [0, 1, 2, 6, 7, 8] ρ m) K
  | false => W r
set_option maxRecDepth 100000 in
theorem WL62_2_ok {W : Masks} (hW : LoopsOk Tryz.prog 2 W) : LoopsOk Tryz.prog 2 (WL62_2 GL62_2 W) := by
  intro r lf h
  unfold WL62_2 at h
  split at h
  · cases h
    intro x E0 m0 w0 J hS0 ha hJ ρ m K E a w Q hS hρ hd h hQ
    have fb : (match W r with | some lf => lf x ρ m K | none => False) → (Code.loop x).wp Tryz.prog Q a w := fun h => by
      split at h
      · rename_i lf hlf
        exact hW r lf hlf x hS0 ha hJ ρ m K E a w Q hS hρ hd h hQ
      · cases h
    obtain ⟨E2, hS2, hρ2⟩ := tidy_rel hS0 hS hρ [0, 1, 2, 6, 7, 8]
    rw [ha] at hS2 hρ2
    unfold VL62_2 at h
    split at h
    · rename_i hlen
      replace h := seeV_use h
      rcases h with h | ⟨e1, h⟩
      · exact fb h
      replace h := seeI_use h
      rcases h with h | ⟨i_1, e2, h⟩
      · exact fb h
      replace h := seeV_use h
      rcases h with h | ⟨e3, h⟩
      · exact fb h
      replace h := seeV_use h
      rcases h with h | ⟨e4, h⟩
      · exact fb h
      replace h := seeI_use h
      rcases h with h | ⟨i_7, e5, h⟩
      · exact fb h
      replace h := seeI_use h
      rcases h with h | ⟨i_8, e6, h⟩
      · exact fb h
      replace h := seeCons_use h
      rcases h with h | ⟨a7, q8, eqm, h⟩
      · exact fb h
      replace h := seeBlk_use h
      rcases h with h | ⟨cs9, rfl, h⟩
      · exact fb h
      replace h := seeCons_use h
      rcases h with h | ⟨a10, q11, rfl, h⟩
      · exact fb h
      replace h := seeInts_use h
      rcases h with h | ⟨xs_m_0_0, rfl, h⟩
      · exact fb h
      replace h := seeCons_use h
      rcases h with h | ⟨a12, q13, rfl, h⟩
      · exact fb h
      replace h := seeInts_use h
      rcases h with h | ⟨xs_m_0_1, rfl, h⟩
      · exact fb h
      replace h := seeCons_use h
      rcases h with h | ⟨a14, q15, rfl, h⟩
      · exact fb h
      replace h := seeInts_use h
      rcases h with h | ⟨xs_m_0_2, rfl, h⟩
      · exact fb h
      replace h := seeNil_use h
      rcases h with h | ⟨rfl, h⟩
      · exact fb h
      replace h := seeCons_use h
      rcases h with h | ⟨a16, q17, rfl, h⟩
      · exact fb h
      replace h := seeBlk_use h
      rcases h with h | ⟨cs18, rfl, h⟩
      · exact fb h
      replace h := seeCons_use h
      rcases h with h | ⟨a19, q20, rfl, h⟩
      · exact fb h
      replace h := seeVals_use h
      rcases h with h | ⟨xs21, rfl, h⟩
      · exact fb h
      replace h := seeCons_use h
      rcases h with h | ⟨a22, q23, rfl, h⟩
      · exact fb h
      replace h := seeV_use h
      rcases h with h | ⟨rfl, h⟩
      · exact fb h
      replace h := seeNil_use h
      rcases h with h | ⟨rfl, h⟩
      · exact fb h
      replace h := seeNil_use h
      rcases h with h | ⟨rfl, h⟩
      · exact fb h
      replace h := seeNil_use h
      rcases h with h | ⟨rfl, h⟩
      · exact fb h
      obtain ⟨rfl, n, h⟩ := h
      exact loop_use named C4_ok (LoopsOk.none _ _) (RL62_2_ok  K n _ _ _ _ _ _) h hS0 ha hJ hlen ⟨e1, e2, e3, e4, e5, e6, trivial⟩ (eqm ▸ hS2) hρ2 hd hQ
    · cases h
  · exact hW r lf h
abbrev YL62_9 : Type := Code → Int → Int → Int → Int → List Int → List Int → List Int → (Int → List Int → List Int → List Int → Prop) → Prop
set_option maxHeartbeats 4000000 in
set_option maxRecDepth 100000 in
def HL62_9  (rec : Int → Int → List Int → List Int → List Int → Prop) (i_1 : Int) (i_6 : Int) (i_7 : Int) (i_8 : Int) (xs_m_0_0 : List Int) (xs_m_0_1 : List Int) (xs_m_0_2 : List Int) (k1 : Int → List Int → List Int → List Int → Prop) : Prop :=
  (bif (decide (i_8 ≤ i_1)) then (mrgS i_7 (IntKind.wrap .i64 (i_7 + i_6)) i_8 xs_m_0_0 xs_m_0_1 xs_m_0_2 (fun (sx4 : List Int) (st5 : List Int) (sn6 : List Int) => (rec i_8 (IntKind.wrap .i64 (i_8 + (IntKind.wrap .i64 ((2 : Int) * i_6)))) sx4 st5 sn6))) else (k1 i_7 xs_m_0_0 xs_m_0_1 xs_m_0_2))
def RL62_9  : Nat → Int → Int → Int → Int → List Int → List Int → List Int → (Int → List Int → List Int → List Int → Prop) → Prop
  | 0, _, _, _, _, _, _, _, _ => False
  | n + 1, i_1, i_6, i_7, i_8, xs_m_0_0, xs_m_0_1, xs_m_0_2, k1 => HL62_9  (fun (i_7 : Int) (i_8 : Int) (xs_m_0_0 : List Int) (xs_m_0_1 : List Int) (xs_m_0_2 : List Int) => RL62_9  n i_1 i_6 i_7 i_8 xs_m_0_0 xs_m_0_1 xs_m_0_2 k1) i_1 i_6 i_7 i_8 xs_m_0_0 xs_m_0_1 xs_m_0_2 k1
noncomputable def XL62_9 : Code := sub [true, true, true, true, false, false, true, false, true, false, false, false] (bodyOf Tryz.prog 62)
theorem HL62_9_ok  (n : Nat) (i_1 : Int) (i_6 : Int) (i_7 : Int) (i_8 : Int) (xs_m_0_0 : List Int) (xs_m_0_1 : List Int) (xs_m_0_2 : List Int) (K : Ex → Env → Mem → Prop) : cround 2 [0, 1, 2, 6, 7, 8] [0, 1, 2, 6, 7] (fun ρ m K => cexec Tryz.prog C4 (fun _ => none) 2 1000 XL62_9 ρ m K) (n + 1) (selE 63 [(0, (.sl 0 (0 : Nat) (none : Option Nat) (none : Option Nat))), (1, (.I .i64 i_1)), (2, (.fn (.func 23) [] [(.ptr 1 (0 : Nat) 0)])), (6, (.I .i64 i_6)), (7, (.I .i64 i_7)), (8, (.I .i64 i_8))]) [⟨[.ints .i64 xs_m_0_0, .ints .i64 xs_m_0_1, .ints .i64 xs_m_0_2], 47, false, false⟩, ⟨[.vals [(.fn (.func 21) [] [])]], 54, false, false⟩] K =
    HL62_9  (fun (i_7 : Int) (i_8 : Int) (xs_m_0_0 : List Int) (xs_m_0_1 : List Int) (xs_m_0_2 : List Int) => cround 2 [0, 1, 2, 6, 7, 8] [0, 1, 2, 6, 7] (fun ρ m K => cexec Tryz.prog C4 (fun _ => none) 2 1000 XL62_9 ρ m K) n (selE 63 [(0, (.sl 0 (0 : Nat) (none : Option Nat) (none : Option Nat))), (1, (.I .i64 i_1)), (2, (.fn (.func 23) [] [(.ptr 1 (0 : Nat) 0)])), (6, (.I .i64 i_6)), (7, (.I .i64 i_7)), (8, (.I .i64 i_8))]) [⟨[.ints .i64 xs_m_0_0, .ints .i64 xs_m_0_1, .ints .i64 xs_m_0_2], 47, false, false⟩, ⟨[.vals [(.fn (.func 21) [] [])]], 54, false, false⟩] K) i_1 i_6 i_7 i_8 xs_m_0_0 xs_m_0_1 xs_m_0_2 (fun (u0 : Int) (u1 : List Int) (u2 : List Int) (u3 : List Int) => K (.exit 4) (selE 63 [(0, (.sl 0 (0 : Nat) (none : Option Nat) (none : Option Nat))), (1, (.I .i64 i_1)), (2, (.fn (.func 23) [] [(.ptr 1 (0 : Nat) 0)])), (6, (.I .i64 i_6)), (7, (.I .i64 u0))]) [⟨[.ints .i64 u1, .ints .i64 u2, .ints .i64 u3], 47, false, false⟩, ⟨[.vals [(.fn (.func 21) [] [])]], 54, false, false⟩]) := by kernel_rfl
theorem RL62_9_ok  (K : Ex → Env → Mem → Prop) : ∀ (n : Nat) (i_1 : Int) (i_6 : Int) (i_7 : Int) (i_8 : Int) (xs_m_0_0 : List Int) (xs_m_0_1 : List Int) (xs_m_0_2 : List Int), cround 2 [0, 1, 2, 6, 7, 8] [0, 1, 2, 6, 7] (fun ρ m K => cexec Tryz.prog C4 (fun _ => none) 2 1000 XL62_9 ρ m K) n (selE 63 [(0, (.sl 0 (0 : Nat) (none : Option Nat) (none : Option Nat))), (1, (.I .i64 i_1)), (2, (.fn (.func 23) [] [(.ptr 1 (0 : Nat) 0)])), (6, (.I .i64 i_6)), (7, (.I .i64 i_7)), (8, (.I .i64 i_8))]) [⟨[.ints .i64 xs_m_0_0, .ints .i64 xs_m_0_1, .ints .i64 xs_m_0_2], 47, false, false⟩, ⟨[.vals [(.fn (.func 21) [] [])]], 54, false, false⟩] K = RL62_9  n i_1 i_6 i_7 i_8 xs_m_0_0 xs_m_0_1 xs_m_0_2 (fun (u0 : Int) (u1 : List Int) (u2 : List Int) (u3 : List Int) => K (.exit 4) (selE 63 [(0, (.sl 0 (0 : Nat) (none : Option Nat) (none : Option Nat))), (1, (.I .i64 i_1)), (2, (.fn (.func 23) [] [(.ptr 1 (0 : Nat) 0)])), (6, (.I .i64 i_6)), (7, (.I .i64 u0))]) [⟨[.ints .i64 u1, .ints .i64 u2, .ints .i64 u3], 47, false, false⟩, ⟨[.vals [(.fn (.func 21) [] [])]], 54, false, false⟩])
  | 0, i_1, i_6, i_7, i_8, xs_m_0_0, xs_m_0_1, xs_m_0_2 => rfl
  | n + 1, i_1, i_6, i_7, i_8, xs_m_0_0, xs_m_0_1, xs_m_0_2 => by
    have ih := RL62_9_ok  K n
    rw [HL62_9_ok  n i_1 i_6 i_7 i_8 xs_m_0_0 xs_m_0_1 xs_m_0_2 K]
    show HL62_9  _ i_1 i_6 i_7 i_8 xs_m_0_0 xs_m_0_1 xs_m_0_2 (fun (u0 : Int) (u1 : List Int) (u2 : List Int) (u3 : List Int) => K (.exit 4) (selE 63 [(0, (.sl 0 (0 : Nat) (none : Option Nat) (none : Option Nat))), (1, (.I .i64 i_1)), (2, (.fn (.func 23) [] [(.ptr 1 (0 : Nat) 0)])), (6, (.I .i64 i_6)), (7, (.I .i64 u0))]) [⟨[.ints .i64 u1, .ints .i64 u2, .ints .i64 u3], 47, false, false⟩, ⟨[.vals [(.fn (.func 21) [] [])]], 54, false, false⟩]) = HL62_9  _ i_1 i_6 i_7 i_8 xs_m_0_0 xs_m_0_1 xs_m_0_2 (fun (u0 : Int) (u1 : List Int) (u2 : List Int) (u3 : List Int) => K (.exit 4) (selE 63 [(0, (.sl 0 (0 : Nat) (none : Option Nat) (none : Option Nat))), (1, (.I .i64 i_1)), (2, (.fn (.func 23) [] [(.ptr 1 (0 : Nat) 0)])), (6, (.I .i64 i_6)), (7, (.I .i64 u0))]) [⟨[.ints .i64 u1, .ints .i64 u2, .ints .i64 u3], 47, false, false⟩, ⟨[.vals [(.fn (.func 21) [] [])]], 54, false, false⟩])
    refine congrArg (fun r => HL62_9  r i_1 i_6 i_7 i_8 xs_m_0_0 xs_m_0_1 xs_m_0_2 (fun (u0 : Int) (u1 : List Int) (u2 : List Int) (u3 : List Int) => K (.exit 4) (selE 63 [(0, (.sl 0 (0 : Nat) (none : Option Nat) (none : Option Nat))), (1, (.I .i64 i_1)), (2, (.fn (.func 23) [] [(.ptr 1 (0 : Nat) 0)])), (6, (.I .i64 i_6)), (7, (.I .i64 u0))]) [⟨[.ints .i64 u1, .ints .i64 u2, .ints .i64 u3], 47, false, false⟩, ⟨[.vals [(.fn (.func 21) [] [])]], 54, false, false⟩])) ?_
    funext i_7 i_8 xs_m_0_0 xs_m_0_1 xs_m_0_2
    exact ih i_1 i_6 i_7 i_8 xs_m_0_0 xs_m_0_1 xs_m_0_2
def GL62_9 : YL62_9 := fun x i_1 i_6 i_7 i_8 xs_m_0_0 xs_m_0_1 xs_m_0_2 k1 => x = XL62_9 ∧ ∃ n, RL62_9  n i_1 i_6 i_7 i_8 xs_m_0_0 xs_m_0_1 xs_m_0_2 k1
def VL62_9 (l : YL62_9) (F : Prop) (x : Code) (ρ : Env) (m : Mem) (K : Ex → Env → Mem → Prop) : Prop :=
  match ρ.has (63 - 1) with
  | true => (seeV (.sl 0 (0 : Nat) (none : Option Nat) (none : Option Nat)) (ρ.get 0) F (seeI .i64 (ρ.get 1) F fun i_1 => (seeV (.fn (.func 23) [] [(.ptr 1 (0 : Nat) 0)]) (ρ.get 2) F (seeI .i64 (ρ.get 6) F fun i_6 => (seeI .i64 (ρ.get 7) F fun i_7 => (seeI .i64 (ρ.get 8) F fun i_8 => (seeCons m F fun a7 q8 => (seeBlk 47 false false a7 F fun cs9 => (seeCons cs9 F fun a10 q11 => (seeInts .i64 a10 F fun xs_m_0_0 => (seeCons q11 F fun a12 q13 => (seeInts .i64 a12 F fun xs_m_0_1 => (seeCons q13 F fun a14 q15 => (seeInts .i64 a14 F fun xs_m_0_2 => (seeNil q15 F (seeCons q8 F fun a16 q17 => (seeBlk 54 false false a16 F fun cs18 => (seeCons cs18 F fun a19 q20 => (seeVals a19 F fun xs21 => (seeCons xs21 F fun a22 q23 => (seeV (.fn (.func 21) [] []) a22 F (seeNil q23 F (seeNil q20 F (seeNil q17 F (l x i_1 i_6 i_7 i_8 xs_m_0_0 xs_m_0_1 xs_m_0_2 (fun (u0 : Int) (u1 : List Int) (u2 : List Int) (u3 : List Int) => K (.exit 4) (selE 63 [(0, (.sl 0 (0 : Nat) (none : Option Nat) (none : Option Nat))), (1, (.I .i64 i_1)), (2, (.fn (.func 23) [] [(.ptr 1 (0 : Nat) 0)])), (6, (.I .i64 i_6)), (7, (.I .i64 u0))]) [⟨[.ints .i64 u1, .ints .i64 u2, .ints .i64 u3], 47, false, false⟩, ⟨[.vals [(.fn (.func 21) [] [])]], 54, false, false⟩]))))))))))))))))))))))))))
  | false => False
def WL62_9 (l : YL62_9) (W : Masks) : Masks := fun r =>
  match Nat.beq r 9 with
  | true => some fun x ρ m K => VL62_9 l (match W r with | some lf => lf x ρ m K | none => False) x (tidyE 2 [0, 1, 2, 6, 7, 8] ρ m) (tidyM 2 [0, 1, 2, 6, 7, 8] ρ m) K
  | false => W r
set_option maxRecDepth 100000 in
theorem WL62_9_ok {W : Masks} (hW : LoopsOk Tryz.prog 2 W) : LoopsOk Tryz.prog 2 (WL62_9 GL62_9 W) := by
  intro r lf h
  unfold WL62_9 at h
  split at h
  · cases h
    intro x E0 m0 w0 J hS0 ha hJ ρ m K E a w Q hS hρ hd h hQ
    have fb : (match W r with | some lf => lf x ρ m K | none => False) → (Code.loop x).wp Tryz.prog Q a w := fun h => by
      split at h
      · rename_i lf hlf
        exact hW r lf hlf x hS0 ha hJ ρ m K E a w Q hS hρ hd h hQ
      · cases h
    obtain ⟨E2, hS2, hρ2⟩ := tidy_rel hS0 hS hρ [0, 1, 2, 6, 7, 8]
    rw [ha] at hS2 hρ2
    unfold VL62_9 at h
    split at h
    · rename_i hlen
      replace h := seeV_use h
      rcases h with h | ⟨e1, h⟩
      · exact fb h
      replace h := seeI_use h
      rcases h with h | ⟨i_1, e2, h⟩
      · exact fb h
      replace h := seeV_use h
      rcases h with h | ⟨e3, h⟩
      · exact fb h
      replace h := seeI_use h
      rcases h with h | ⟨i_6, e4, h⟩
      · exact fb h
      replace h := seeI_use h
      rcases h with h | ⟨i_7, e5, h⟩
      · exact fb h
      replace h := seeI_use h
      rcases h with h | ⟨i_8, e6, h⟩
      · exact fb h
      replace h := seeCons_use h
      rcases h with h | ⟨a7, q8, eqm, h⟩
      · exact fb h
      replace h := seeBlk_use h
      rcases h with h | ⟨cs9, rfl, h⟩
      · exact fb h
      replace h := seeCons_use h
      rcases h with h | ⟨a10, q11, rfl, h⟩
      · exact fb h
      replace h := seeInts_use h
      rcases h with h | ⟨xs_m_0_0, rfl, h⟩
      · exact fb h
      replace h := seeCons_use h
      rcases h with h | ⟨a12, q13, rfl, h⟩
      · exact fb h
      replace h := seeInts_use h
      rcases h with h | ⟨xs_m_0_1, rfl, h⟩
      · exact fb h
      replace h := seeCons_use h
      rcases h with h | ⟨a14, q15, rfl, h⟩
      · exact fb h
      replace h := seeInts_use h
      rcases h with h | ⟨xs_m_0_2, rfl, h⟩
      · exact fb h
      replace h := seeNil_use h
      rcases h with h | ⟨rfl, h⟩
      · exact fb h
      replace h := seeCons_use h
      rcases h with h | ⟨a16, q17, rfl, h⟩
      · exact fb h
      replace h := seeBlk_use h
      rcases h with h | ⟨cs18, rfl, h⟩
      · exact fb h
      replace h := seeCons_use h
      rcases h with h | ⟨a19, q20, rfl, h⟩
      · exact fb h
      replace h := seeVals_use h
      rcases h with h | ⟨xs21, rfl, h⟩
      · exact fb h
      replace h := seeCons_use h
      rcases h with h | ⟨a22, q23, rfl, h⟩
      · exact fb h
      replace h := seeV_use h
      rcases h with h | ⟨rfl, h⟩
      · exact fb h
      replace h := seeNil_use h
      rcases h with h | ⟨rfl, h⟩
      · exact fb h
      replace h := seeNil_use h
      rcases h with h | ⟨rfl, h⟩
      · exact fb h
      replace h := seeNil_use h
      rcases h with h | ⟨rfl, h⟩
      · exact fb h
      obtain ⟨rfl, n, h⟩ := h
      exact loop_use named C4_ok (LoopsOk.none _ _) (RL62_9_ok  K n _ _ _ _ _ _ _) h hS0 ha hJ hlen ⟨e1, e2, e3, e4, e5, e6, trivial⟩ (eqm ▸ hS2) hρ2 hd hQ
    · cases h
  · exact hW r lf h
abbrev YL62_7 : Type := Code → Int → Int → List Int → List Int → List Int → (List Int → List Int → List Int → Prop) → Prop
set_option maxHeartbeats 4000000 in
set_option maxRecDepth 100000 in
def HL62_7  (l62_9 : YL62_9) (rec : Int → List Int → List Int → List Int → Prop) (i_1 : Int) (i_6 : Int) (xs_m_0_0 : List Int) (xs_m_0_1 : List Int) (xs_m_0_2 : List Int) (k1 : List Int → List Int → List Int → Prop) : Prop :=
  (bif (decide (i_6 < i_1)) then (l62_9 XL62_9 i_1 i_6 (0 : Int) (IntKind.wrap .i64 ((2 : Int) * i_6)) xs_m_0_0 xs_m_0_1 xs_m_0_2 (fun (n8 : Int) (xs9 : List Int) (xs10 : List Int) (xs11 : List Int) => (bif (decide ((IntKind.wrap .i64 (n8 + i_6)) < i_1)) then (mrgS n8 (IntKind.wrap .i64 (n8 + i_6)) i_1 xs9 xs10 xs11 (fun (sx12 : List Int) (st13 : List Int) (sn14 : List Int) => (rec (IntKind.wrap .i64 (i_6 * (2 : Int))) sx12 st13 sn14))) else (rec (IntKind.wrap .i64 (i_6 * (2 : Int))) xs9 xs10 xs11)))) else (k1 xs_m_0_0 xs_m_0_1 xs_m_0_2))
def RL62_7  (l62_9 : YL62_9) : Nat → Int → Int → List Int → List Int → List Int → (List Int → List Int → List Int → Prop) → Prop
  | 0, _, _, _, _, _, _ => False
  | n + 1, i_1, i_6, xs_m_0_0, xs_m_0_1, xs_m_0_2, k1 => HL62_7  l62_9 (fun (i_6 : Int) (xs_m_0_0 : List Int) (xs_m_0_1 : List Int) (xs_m_0_2 : List Int) => RL62_7  l62_9 n i_1 i_6 xs_m_0_0 xs_m_0_1 xs_m_0_2 k1) i_1 i_6 xs_m_0_0 xs_m_0_1 xs_m_0_2 k1
noncomputable def XL62_7 : Code := sub [true, true, true, true, false, false] (bodyOf Tryz.prog 62)
theorem HL62_7_ok  (l62_9 : YL62_9) (n : Nat) (i_1 : Int) (i_6 : Int) (xs_m_0_0 : List Int) (xs_m_0_1 : List Int) (xs_m_0_2 : List Int) (K : Ex → Env → Mem → Prop) : cround 2 [0, 1, 2, 6] [] (fun ρ m K => cexec Tryz.prog C4 (WL62_9 l62_9 (fun _ => none)) 2 1000 XL62_7 ρ m K) (n + 1) (selE 63 [(0, (.sl 0 (0 : Nat) (none : Option Nat) (none : Option Nat))), (1, (.I .i64 i_1)), (2, (.fn (.func 23) [] [(.ptr 1 (0 : Nat) 0)])), (6, (.I .i64 i_6))]) [⟨[.ints .i64 xs_m_0_0, .ints .i64 xs_m_0_1, .ints .i64 xs_m_0_2], 47, false, false⟩, ⟨[.vals [(.fn (.func 21) [] [])]], 54, false, false⟩] K =
    HL62_7  l62_9 (fun (i_6 : Int) (xs_m_0_0 : List Int) (xs_m_0_1 : List Int) (xs_m_0_2 : List Int) => cround 2 [0, 1, 2, 6] [] (fun ρ m K => cexec Tryz.prog C4 (WL62_9 l62_9 (fun _ => none)) 2 1000 XL62_7 ρ m K) n (selE 63 [(0, (.sl 0 (0 : Nat) (none : Option Nat) (none : Option Nat))), (1, (.I .i64 i_1)), (2, (.fn (.func 23) [] [(.ptr 1 (0 : Nat) 0)])), (6, (.I .i64 i_6))]) [⟨[.ints .i64 xs_m_0_0, .ints .i64 xs_m_0_1, .ints .i64 xs_m_0_2], 47, false, false⟩, ⟨[.vals [(.fn (.func 21) [] [])]], 54, false, false⟩] K) i_1 i_6 xs_m_0_0 xs_m_0_1 xs_m_0_2 (fun (u0 : List Int) (u1 : List Int) (u2 : List Int) => K (.exit 2) (selE 63 []) [⟨[.ints .i64 u0, .ints .i64 u1, .ints .i64 u2], 47, false, false⟩, ⟨[.vals [(.fn (.func 21) [] [])]], 54, false, false⟩]) := by kernel_rfl
theorem RL62_7_ok  (l62_9 : YL62_9) (K : Ex → Env → Mem → Prop) : ∀ (n : Nat) (i_1 : Int) (i_6 : Int) (xs_m_0_0 : List Int) (xs_m_0_1 : List Int) (xs_m_0_2 : List Int), cround 2 [0, 1, 2, 6] [] (fun ρ m K => cexec Tryz.prog C4 (WL62_9 l62_9 (fun _ => none)) 2 1000 XL62_7 ρ m K) n (selE 63 [(0, (.sl 0 (0 : Nat) (none : Option Nat) (none : Option Nat))), (1, (.I .i64 i_1)), (2, (.fn (.func 23) [] [(.ptr 1 (0 : Nat) 0)])), (6, (.I .i64 i_6))]) [⟨[.ints .i64 xs_m_0_0, .ints .i64 xs_m_0_1, .ints .i64 xs_m_0_2], 47, false, false⟩, ⟨[.vals [(.fn (.func 21) [] [])]], 54, false, false⟩] K = RL62_7  l62_9 n i_1 i_6 xs_m_0_0 xs_m_0_1 xs_m_0_2 (fun (u0 : List Int) (u1 : List Int) (u2 : List Int) => K (.exit 2) (selE 63 []) [⟨[.ints .i64 u0, .ints .i64 u1, .ints .i64 u2], 47, false, false⟩, ⟨[.vals [(.fn (.func 21) [] [])]], 54, false, false⟩])
  | 0, i_1, i_6, xs_m_0_0, xs_m_0_1, xs_m_0_2 => rfl
  | n + 1, i_1, i_6, xs_m_0_0, xs_m_0_1, xs_m_0_2 => by
    have ih := RL62_7_ok  l62_9 K n
    rw [HL62_7_ok  l62_9 n i_1 i_6 xs_m_0_0 xs_m_0_1 xs_m_0_2 K]
    show HL62_7  l62_9 _ i_1 i_6 xs_m_0_0 xs_m_0_1 xs_m_0_2 (fun (u0 : List Int) (u1 : List Int) (u2 : List Int) => K (.exit 2) (selE 63 []) [⟨[.ints .i64 u0, .ints .i64 u1, .ints .i64 u2], 47, false, false⟩, ⟨[.vals [(.fn (.func 21) [] [])]], 54, false, false⟩]) = HL62_7  l62_9 _ i_1 i_6 xs_m_0_0 xs_m_0_1 xs_m_0_2 (fun (u0 : List Int) (u1 : List Int) (u2 : List Int) => K (.exit 2) (selE 63 []) [⟨[.ints .i64 u0, .ints .i64 u1, .ints .i64 u2], 47, false, false⟩, ⟨[.vals [(.fn (.func 21) [] [])]], 54, false, false⟩])
    refine congrArg (fun r => HL62_7  l62_9 r i_1 i_6 xs_m_0_0 xs_m_0_1 xs_m_0_2 (fun (u0 : List Int) (u1 : List Int) (u2 : List Int) => K (.exit 2) (selE 63 []) [⟨[.ints .i64 u0, .ints .i64 u1, .ints .i64 u2], 47, false, false⟩, ⟨[.vals [(.fn (.func 21) [] [])]], 54, false, false⟩])) ?_
    funext i_6 xs_m_0_0 xs_m_0_1 xs_m_0_2
    exact ih i_1 i_6 xs_m_0_0 xs_m_0_1 xs_m_0_2
def GL62_7 : YL62_7 := fun x i_1 i_6 xs_m_0_0 xs_m_0_1 xs_m_0_2 k1 => x = XL62_7 ∧ ∃ n, RL62_7  GL62_9 n i_1 i_6 xs_m_0_0 xs_m_0_1 xs_m_0_2 k1
def VL62_7 (l : YL62_7) (F : Prop) (x : Code) (ρ : Env) (m : Mem) (K : Ex → Env → Mem → Prop) : Prop :=
  match ρ.has (63 - 1) with
  | true => (seeV (.sl 0 (0 : Nat) (none : Option Nat) (none : Option Nat)) (ρ.get 0) F (seeI .i64 (ρ.get 1) F fun i_1 => (seeV (.fn (.func 23) [] [(.ptr 1 (0 : Nat) 0)]) (ρ.get 2) F (seeI .i64 (ρ.get 6) F fun i_6 => (seeCons m F fun a5 q6 => (seeBlk 47 false false a5 F fun cs7 => (seeCons cs7 F fun a8 q9 => (seeInts .i64 a8 F fun xs_m_0_0 => (seeCons q9 F fun a10 q11 => (seeInts .i64 a10 F fun xs_m_0_1 => (seeCons q11 F fun a12 q13 => (seeInts .i64 a12 F fun xs_m_0_2 => (seeNil q13 F (seeCons q6 F fun a14 q15 => (seeBlk 54 false false a14 F fun cs16 => (seeCons cs16 F fun a17 q18 => (seeVals a17 F fun xs19 => (seeCons xs19 F fun a20 q21 => (seeV (.fn (.func 21) [] []) a20 F (seeNil q21 F (seeNil q18 F (seeNil q15 F (l x i_1 i_6 xs_m_0_0 xs_m_0_1 xs_m_0_2 (fun (u0 : List Int) (u1 : List Int) (u2 : List Int) => K (.exit 2) (selE 63 []) [⟨[.ints .i64 u0, .ints .i64 u1, .ints .i64 u2], 47, false, false⟩, ⟨[.vals [(.fn (.func 21) [] [])]], 54, false, false⟩]))))))))))))))))))))))))
  | false => False
def WL62_7 (l : YL62_7) (W : Masks) : Masks := fun r =>
  match Nat.beq r 7 with
  | true => some fun x ρ m K => VL62_7 l (match W r with | some lf => lf x ρ m K | none => False) x (tidyE 2 [0, 1, 2, 6] ρ m) (tidyM 2 [0, 1, 2, 6] ρ m) K
  | false => W r
set_option maxRecDepth 100000 in
theorem WL62_7_ok {W : Masks} (hW : LoopsOk Tryz.prog 2 W) : LoopsOk Tryz.prog 2 (WL62_7 GL62_7 W) := by
  intro r lf h
  unfold WL62_7 at h
  split at h
  · cases h
    intro x E0 m0 w0 J hS0 ha hJ ρ m K E a w Q hS hρ hd h hQ
    have fb : (match W r with | some lf => lf x ρ m K | none => False) → (Code.loop x).wp Tryz.prog Q a w := fun h => by
      split at h
      · rename_i lf hlf
        exact hW r lf hlf x hS0 ha hJ ρ m K E a w Q hS hρ hd h hQ
      · cases h
    obtain ⟨E2, hS2, hρ2⟩ := tidy_rel hS0 hS hρ [0, 1, 2, 6]
    rw [ha] at hS2 hρ2
    unfold VL62_7 at h
    split at h
    · rename_i hlen
      replace h := seeV_use h
      rcases h with h | ⟨e1, h⟩
      · exact fb h
      replace h := seeI_use h
      rcases h with h | ⟨i_1, e2, h⟩
      · exact fb h
      replace h := seeV_use h
      rcases h with h | ⟨e3, h⟩
      · exact fb h
      replace h := seeI_use h
      rcases h with h | ⟨i_6, e4, h⟩
      · exact fb h
      replace h := seeCons_use h
      rcases h with h | ⟨a5, q6, eqm, h⟩
      · exact fb h
      replace h := seeBlk_use h
      rcases h with h | ⟨cs7, rfl, h⟩
      · exact fb h
      replace h := seeCons_use h
      rcases h with h | ⟨a8, q9, rfl, h⟩
      · exact fb h
      replace h := seeInts_use h
      rcases h with h | ⟨xs_m_0_0, rfl, h⟩
      · exact fb h
      replace h := seeCons_use h
      rcases h with h | ⟨a10, q11, rfl, h⟩
      · exact fb h
      replace h := seeInts_use h
      rcases h with h | ⟨xs_m_0_1, rfl, h⟩
      · exact fb h
      replace h := seeCons_use h
      rcases h with h | ⟨a12, q13, rfl, h⟩
      · exact fb h
      replace h := seeInts_use h
      rcases h with h | ⟨xs_m_0_2, rfl, h⟩
      · exact fb h
      replace h := seeNil_use h
      rcases h with h | ⟨rfl, h⟩
      · exact fb h
      replace h := seeCons_use h
      rcases h with h | ⟨a14, q15, rfl, h⟩
      · exact fb h
      replace h := seeBlk_use h
      rcases h with h | ⟨cs16, rfl, h⟩
      · exact fb h
      replace h := seeCons_use h
      rcases h with h | ⟨a17, q18, rfl, h⟩
      · exact fb h
      replace h := seeVals_use h
      rcases h with h | ⟨xs19, rfl, h⟩
      · exact fb h
      replace h := seeCons_use h
      rcases h with h | ⟨a20, q21, rfl, h⟩
      · exact fb h
      replace h := seeV_use h
      rcases h with h | ⟨rfl, h⟩
      · exact fb h
      replace h := seeNil_use h
      rcases h with h | ⟨rfl, h⟩
      · exact fb h
      replace h := seeNil_use h
      rcases h with h | ⟨rfl, h⟩
      · exact fb h
      replace h := seeNil_use h
      rcases h with h | ⟨rfl, h⟩
      · exact fb h
      obtain ⟨rfl, n, h⟩ := h
      exact loop_use named C4_ok (WL62_9_ok (LoopsOk.none _ _)) (RL62_7_ok  GL62_9 K n _ _ _ _ _) h hS0 ha hJ hlen ⟨e1, e2, e3, e4, trivial⟩ (eqm ▸ hS2) hρ2 hd hQ
    · cases h
  · exact hW r lf h
theorem at62 : Tryz.prog.funcs[62]? = some (fnOf Tryz.prog 62) := by kernel_rfl
abbrev Y62 : Type := Int → List Int → List Int → List Int → (List Int → List Int → List Int → Prop) → Prop
set_option maxHeartbeats 4000000 in
set_option maxRecDepth 100000 in
def F62  (l62_2 : YL62_2) (l62_7 : YL62_7) (a : Int) (xs : List Int) (ts : List Int) (ns : List Int) (k1 : List Int → List Int → List Int → Prop) : Prop :=
  (l62_2 XL62_2 a (0 : Int) (20 : Int) xs ts ns (fun (n1 : Int) (xs2 : List Int) (xs3 : List Int) (xs4 : List Int) => (insS n1 a xs2 xs3 xs4 (fun (sx5 : List Int) (st6 : List Int) (sn7 : List Int) => (l62_7 XL62_7 a (20 : Int) sx5 st6 sn7 (fun (xs8 : List Int) (xs9 : List Int) (xs10 : List Int) => (k1 xs8 xs9 xs10)))))))
theorem F62_ok  (l62_2 : YL62_2) (l62_7 : YL62_7) (a : Int) (xs : List Int) (ts : List Int) (ns : List Int) (K : V → Mem → Prop) : cbody Tryz.prog C4 (WL62_2 l62_2 (WL62_7 l62_7 (fun _ => none))) 1000 (fnOf Tryz.prog 62) [(.sl 0 (0 : Nat) (none : Option Nat) (none : Option Nat)), (.I .i64 a), (.fn (.func 23) [] [(.ptr 1 (0 : Nat) 0)])] [⟨[.ints .i64 xs, .ints .i64 ts, .ints .i64 ns], 47, false, false⟩, ⟨[.vals [(.fn (.func 21) [] [])]], 54, false, false⟩] K =
    F62  l62_2 l62_7 a xs ts ns (fun (u0 : List Int) (u1 : List Int) (u2 : List Int) => K (.tup []) [⟨[.ints .i64 u0, .ints .i64 u1, .ints .i64 u2], 47, false, false⟩, ⟨[.vals [(.fn (.func 21) [] [])]], 54, false, false⟩]) := by kernel_rfl
/-! ### Blocks that are sorted, and twice as great ones -/
inductive Runs (bs : Nat) : List R → Prop
  | last (l : List R) : Srt ltR l → l.length ≤ bs → Runs bs l
  | cons (l rest : List R) : Srt ltR l → l.length = bs → Runs bs rest → Runs bs (l ++ rest)
theorem runs_one {bs : Nat} {T : List R} (h : Runs bs T) (hl : T.length ≤ bs) : Srt ltR T := by
  cases h with
  | last _ h1 _ => exact h1
  | cons l rest h1 h2 h3 =>
    have : rest = [] := List.eq_nil_of_length_eq_zero (by simp at hl; omega)
    subst this; simpa using h1
theorem runs_cut {bs : Nat} {T : List R} (h : Runs bs T) (hl : bs < T.length) : ∃ u r, T = u ++ r ∧ Srt ltR u ∧ u.length = bs ∧ Runs bs r := by
  cases h with
  | last _ _ h2 => omega
  | cons l rest h1 h2 h3 => exact ⟨l, rest, rfl, h1, h2, h3⟩
theorem runs_split2 {bs : Nat} {T : List R} (h : Runs bs T) (h0 : 0 < bs) (hl : 2 * bs ≤ T.length) : ∃ u v r, T = u ++ (v ++ r) ∧ Srt ltR u ∧ Srt ltR v ∧ u.length = bs ∧ v.length = bs ∧ Runs bs r := by
  obtain ⟨u, r, rfl, h1, h2, h3⟩ := runs_cut h (by omega)
  simp at hl
  cases h3 with
  | last _ g1 g2 => exact ⟨u, r, [], by simp, h1, g1, h2, by omega, .last [] List.Pairwise.nil (by simp)⟩
  | cons l rest g1 g2 g3 => exact ⟨u, l, rest, rfl, h1, g1, h2, g2, g3⟩
theorem runs_two {bs : Nat} {T : List R} (h : Runs bs T) (hl : bs < T.length) (hl2 : T.length < 2 * bs) : ∃ u v, T = u ++ v ∧ Srt ltR u ∧ Srt ltR v ∧ u.length = bs ∧ v ≠ [] := by
  obtain ⟨u, r, rfl, h1, h2, h3⟩ := runs_cut h hl
  simp at hl hl2
  exact ⟨u, r, rfl, h1, runs_one h3 (by omega), h2, by intro h; subst h; simp at hl; omega⟩
theorem blk_in (N : Nat) (k : KK) : ∀ (n : Nat) (P T : List R), T.length ≤ n → small (P ++ T).length → N = (P ++ T).length → (∀ Z, Runs 20 Z → Same ltR T Z → put3 k (P ++ Z)) →
    RL62_2 (n + 1) ((N : Nat) : Int) ((P.length : Nat) : Int) ((P.length + 20 : Nat) : Int) ((P ++ T).map f1) ((P ++ T).map f2) ((P ++ T).map f3) (fun n1 xs ts ns => insS n1 ((N : Nat) : Int) xs ts ns k) := by
  intro n
  induction n with
  | zero =>
    intro P T hn hs hN hk
    obtain rfl := List.eq_nil_of_length_eq_zero (Nat.le_zero.1 hn)
    show HL62_2 _ _ _ _ _ _ _ _
    unfold HL62_2
    rw [decide_eq_false (by simp at hN; omega : ¬ ((P.length + 20 : Nat) : Int) ≤ ((N : Nat) : Int))]
    refine ⟨P, [], [], ⟨by simp, by simp, by simp⟩, by simpa using hs, rfl, by simp at hN ⊢; omega, fun s' h1 h2 => ?_⟩
    have := hk s' (.last s' h1 (by have := h2.perm_length ordR; simp at this; omega)) h2
    simpa using this
  | succ n ih =>
    intro P T hn hs hN hk
    have hs' : P.length + T.length ≤ 1152921504606846976 := by have := hs; unfold small at this; simpa using this
    have hN' : N = P.length + T.length := by simpa using hN
    show HL62_2 _ _ _ _ _ _ _ _
    unfold HL62_2
    by_cases hb : 20 ≤ T.length
    · rw [decide_eq_true (by omega : ((P.length + 20 : Nat) : Int) ≤ ((N : Nat) : Int))]
      have hT : T = T.take 20 ++ T.drop 20 := (List.take_append_drop _ _).symm
      have l1 : (T.take 20).length = 20 := by simp; omega
      generalize T.take 20 = T1 at hT l1
      generalize T.drop 20 = T2 at hT
      subst hT
      refine ⟨P, T1, T2, ⟨rfl, rfl, rfl⟩, hs, rfl, by omega, fun s' h1 h2 => ?_⟩
      have l2 : s'.length = 20 := by have := h2.perm_length ordR; omega
      have e : IntKind.wrap .i64 (((P.length + 20 : Nat) : Int) + 20) = (((P ++ s').length + 20 : Nat) : Int) := by rw [w64 (by omega) (by omega)]; simp; omega
      have e2 : ((P.length + 20 : Nat) : Int) = (((P ++ s').length : Nat) : Int) := by simp; omega
      have e3 : P ++ (s' ++ T2) = (P ++ s') ++ T2 := by simp
      unfold put3
      rw [e, e2, e3]
      simp only [List.length_append] at hn hN'
      exact ih (P ++ s') T2 (by omega) (by unfold small; simp at hs' ⊢; omega) (by simp; omega) (fun Z z1 z2 => by
        have := hk (s' ++ Z) (.cons s' Z h1 l2 z1) (h2.app z2)
        simpa using this)
    · rw [decide_eq_false (by omega : ¬ ((P.length + 20 : Nat) : Int) ≤ ((N : Nat) : Int))]
      refine ⟨P, T, [], ⟨by simp, by simp, by simp⟩, by simpa using hs, rfl, by omega, fun s' h1 h2 => ?_⟩
      have := hk s' (.last s' h1 (by have := h2.perm_length ordR; omega)) h2
      simpa using this
theorem mrg_in (N bs : Nat) (h0 : 0 < bs) (hbs : bs ≤ 2305843009213693952) (k : KK) : ∀ (n : Nat) (P T : List R), T.length ≤ n → small (P ++ T).length → N = (P ++ T).length → Runs bs T → (∀ Z, Runs (2 * bs) Z → Same ltR T Z → put3 k (P ++ Z)) →
    RL62_9 (n + 1) ((N : Nat) : Int) ((bs : Nat) : Int) ((P.length : Nat) : Int) ((P.length + 2 * bs : Nat) : Int) ((P ++ T).map f1) ((P ++ T).map f2) ((P ++ T).map f3)
      (fun n8 xs ts ns => bif (decide ((IntKind.wrap .i64 (n8 + ((bs : Nat) : Int))) < ((N : Nat) : Int))) then (mrgS n8 (IntKind.wrap .i64 (n8 + ((bs : Nat) : Int))) ((N : Nat) : Int) xs ts ns (fun a b c => k a b c)) else (k xs ts ns)) := by
  intro n P T hn hs hN hr hk
  have hs' : P.length + T.length ≤ 1152921504606846976 := by have := hs; unfold small at this; simpa using this
  have hN' : N = P.length + T.length := by simpa using hN
  have ea : IntKind.wrap .i64 (((P.length : Nat) : Int) + ((bs : Nat) : Int)) = ((P.length + bs : Nat) : Int) := by rw [w64 (by omega) (by omega)]; omega
  by_cases hb : 2 * bs ≤ T.length
  · cases n with
    | zero => omega
    | succ n =>
      show HL62_9 _ _ _ _ _ _ _ _ _
      unfold HL62_9
      rw [decide_eq_true (by omega : ((P.length + 2 * bs : Nat) : Int) ≤ ((N : Nat) : Int)), ea]
      obtain ⟨u, v, r, rfl, h1, h2, l1, l2, h3⟩ := runs_split2 hr h0 hb
      refine ⟨u.length + v.length, P, u, v, r, ⟨rfl, rfl, rfl⟩, hs, rfl, by omega, by omega, by intro h; subst h; simp at l1; omega, by intro h; subst h; simp at l2; omega, Nat.le_refl _, h1, h2, fun s' q1 q2 => ?_⟩
      have l3 : s'.length = 2 * bs := by have := q2.perm_length ordR; simp at this; omega
      have e2b : IntKind.wrap .i64 ((2 : Int) * ((bs : Nat) : Int)) = ((2 * bs : Nat) : Int) := by rw [w64 (by omega) (by omega)]; omega
      have e : IntKind.wrap .i64 (((P.length + 2 * bs : Nat) : Int) + ((2 * bs : Nat) : Int)) = (((P ++ s').length + 2 * bs : Nat) : Int) := by rw [w64 (by omega) (by omega)]; simp; omega
      have e2 : ((P.length + 2 * bs : Nat) : Int) = (((P ++ s').length : Nat) : Int) := by simp; omega
      have e3 : P ++ (s' ++ r) = (P ++ s') ++ r := by simp
      simp only [List.length_append] at hn hN'
      unfold put3
      rw [e2b, e, e2, e3]
      exact mrg_in N bs h0 hbs k n (P ++ s') r (by omega) (by unfold small; simp at hs' ⊢; omega) (by simp; omega) h3 (fun Z z1 z2 => by
        have := hk (s' ++ Z) (.cons s' Z q1 l3 z1) (by have := q2.app z2; simpa using this)
        simpa using this)
  · have hx : RL62_9 (n + 1) ((N : Nat) : Int) ((bs : Nat) : Int) ((P.length : Nat) : Int) ((P.length + 2 * bs : Nat) : Int) ((P ++ T).map f1) ((P ++ T).map f2) ((P ++ T).map f3)
      (fun n8 xs ts ns => bif (decide ((IntKind.wrap .i64 (n8 + ((bs : Nat) : Int))) < ((N : Nat) : Int))) then (mrgS n8 (IntKind.wrap .i64 (n8 + ((bs : Nat) : Int))) ((N : Nat) : Int) xs ts ns (fun a b c => k a b c)) else (k xs ts ns)) = (bif (decide ((IntKind.wrap .i64 (((P.length : Nat) : Int) + ((bs : Nat) : Int))) < ((N : Nat) : Int))) then (mrgS ((P.length : Nat) : Int) (IntKind.wrap .i64 (((P.length : Nat) : Int) + ((bs : Nat) : Int))) ((N : Nat) : Int) ((P ++ T).map f1) ((P ++ T).map f2) ((P ++ T).map f3) (fun a b c => k a b c)) else (k ((P ++ T).map f1) ((P ++ T).map f2) ((P ++ T).map f3))) := by
      show HL62_9 _ _ _ _ _ _ _ _ _ = _
      unfold HL62_9
      rw [decide_eq_false (by omega : ¬ ((P.length + 2 * bs : Nat) : Int) ≤ ((N : Nat) : Int))]
      rfl
    rw [hx, ea]
    by_cases hc : bs < T.length
    · rw [decide_eq_true (by omega : ((P.length + bs : Nat) : Int) < ((N : Nat) : Int))]
      obtain ⟨u, v, rfl, h1, h2, l1, hv⟩ := runs_two hr hc (by omega)
      simp only [List.length_append] at hN'
      refine ⟨u.length + v.length, P, u, v, [], ⟨by simp, by simp, by simp⟩, by simpa using hs, rfl, by omega, by omega, by intro h; subst h; simp at l1; omega, hv, Nat.le_refl _, h1, h2, fun s' q1 q2 => ?_⟩
      have := hk s' (.last s' q1 (by have := q2.perm_length ordR; simp at this; simp at hb; omega)) q2
      simpa using this
    · rw [decide_eq_false (by omega : ¬ ((P.length + bs : Nat) : Int) < ((N : Nat) : Int))]
      exact hk T (.last T (runs_one hr (by omega)) (by omega)) (Same.refl _)
theorem dbl_in (N : Nat) (L0 : List R) (k : KK) (hk : ∀ Z, Srt ltR Z → Same ltR L0 Z → put3 k Z) : ∀ (n bs : Nat) (L : List R), N ≤ bs + n → 0 < bs → bs ≤ 2305843009213693952 → small L.length → N = L.length → Runs bs L → Same ltR L0 L →
    RL62_7 GL62_9 (n + 1) ((N : Nat) : Int) ((bs : Nat) : Int) (L.map f1) (L.map f2) (L.map f3) k := by
  intro n
  induction n with
  | zero =>
    intro bs L hn h0 hb hs hN hr hsm
    show HL62_7 _ _ _ _ _ _ _ _
    unfold HL62_7
    rw [decide_eq_false (by omega : ¬ ((bs : Nat) : Int) < ((N : Nat) : Int))]
    exact hk L (runs_one hr (by omega)) hsm
  | succ n ih =>
    intro bs L hn h0 hb hs hN hr hsm
    show HL62_7 _ _ _ _ _ _ _ _
    unfold HL62_7
    have hs' : L.length ≤ 1152921504606846976 := hs
    by_cases hlt : bs < N
    · rw [decide_eq_true (by omega : ((bs : Nat) : Int) < ((N : Nat) : Int))]
      have e2b : IntKind.wrap .i64 ((2 : Int) * ((bs : Nat) : Int)) = ((([] : List R).length + 2 * bs : Nat) : Int) := by rw [w64 (by omega) (by omega)]; simp
      have eb2 : IntKind.wrap .i64 (((bs : Nat) : Int) * (2 : Int)) = ((2 * bs : Nat) : Int) := by rw [w64 (by omega) (by omega)]; omega
      rw [e2b, eb2]
      refine ⟨rfl, L.length + 1, ?_⟩
      have := mrg_in N bs h0 hb (fun xs ts ns => RL62_7 GL62_9 (n + 1) ((N : Nat) : Int) ((2 * bs : Nat) : Int) xs ts ns k) L.length [] L (Nat.le_refl _) (by simpa using hs) (by simpa using hN) hr (fun Z z1 z2 => by
        have l : Z.length = L.length := (z2.perm_length ordR).symm
        exact ih (2 * bs) Z (by omega) (by omega) (by omega) (by unfold small; omega) (by omega) z1 (hsm.trans z2))
      exact this
    · rw [decide_eq_false (by omega : ¬ ((bs : Nat) : Int) < ((N : Nat) : Int))]
      exact hk L (runs_one hr (by omega)) hsm
theorem h62 {n : Int} {xs ts ns : List Int} {k : KK} (h : stbS n xs ts ns k) : F62 GL62_2 GL62_7 n xs ts ns k := by
  obtain ⟨L, ⟨rfl, rfl, rfl⟩, hs, rfl, hk⟩ := h
  refine ⟨rfl, L.length + 1, ?_⟩
  have := blk_in L.length (fun xs ts ns => GL62_7 XL62_7 ((L.length : Nat) : Int) 20 xs ts ns k) L.length [] L (Nat.le_refl _) (by simpa using hs) (by simp) (fun Z z1 z2 => by
    have l : Z.length = L.length := (z2.perm_length ordR).symm
    have hs' : L.length ≤ 1152921504606846976 := hs
    exact ⟨rfl, L.length + 1, dbl_in L.length L k hk L.length 20 Z (by omega) (by omega) (by omega) (by unfold small; omega) l.symm z1 z2⟩)
  exact this
theorem P62_ok : PrimOk Tryz.prog 62 (p1 stbS) := by
  intro args m K E w cargs hS ha h
  unfold p1 at h
  split at h
  · rename_i a f xs ts ns e b
    split at h
    · rename_i hb
      obtain ⟨rfl, rfl, rfl⟩ := okD_eq hb
      exact cbody_use named C4_ok at62 (l := 2) rfl (WL62_2_ok (WL62_7_ok (LoopsOk.none _ _))) (F62_ok GL62_2 GL62_7 a xs ts ns K) hS ha (h62 h)
    · cases h
  · cases h
end Go.Proofs.YtgflbmcmkjkmmaaGreat.so
