import Derived.Test.YtgflbmcmkjkmmaaGreatSo5
import Derived.Test.YtgflbmcmkjkmmaaGreatAbFil
set_option linter.unusedVariables false
set_option linter.unusedSimpArgs false
set_option maxHeartbeats 4000000
set_option maxRecDepth 100000
namespace Go.Proofs.YtgflbmcmkjkmmaaGreat.so
open Go Go.Ab Go.So
def prims5 : Prims := fun f =>
  match Nat.beq f 62 with
  | true => some (p1 stbS)
  | false => prims1 f
theorem prims5_ok : PrimsOk Tryz.prog prims5 := by
  intro f g hg
  unfold prims5 at hg
  split at hg
  · rename_i hf
    obtain rfl := Nat.eq_of_beq_eq_true hf
    cases hg
    exact P62_ok
  · skip
    exact prims1_ok f g hg
def C5 : CC := call Tryz.prog prims5 1000
theorem C5_ok : CallsOk Tryz.prog C5 := call_sound named prims5_ok 1000
abbrev YL5_3 : Type := Code → Int → List Int → List Int → List Int → List Int → List Int → List Int → (List Int → List Int → List Int → Prop) → Prop
set_option maxHeartbeats 4000000 in
set_option maxRecDepth 100000 in
def HL5_3  (rec : Int → List Int → List Int → List Int → Prop) (i_4 : Int) (xs_m_0_0 : List Int) (xs_m_0_1 : List Int) (xs_m_0_2 : List Int) (xs_m_1_0 : List Int) (xs_m_1_1 : List Int) (xs_m_1_2 : List Int) (k1 : List Int → List Int → List Int → Prop) : Prop :=
  (bif (decide (i_4 < ((((List.length xs_m_0_0) - (0 : Nat)) : Nat) : Int))) then (bif ((decide ((0 : Int) ≤ i_4)) && (decide (i_4 < ((((List.length xs_m_0_0) - (0 : Nat)) : Nat) : Int)))) then (bif ((decide ((0 : Int) ≤ i_4)) && (decide (i_4 < ((((List.length xs_m_0_0) - (0 : Nat)) : Nat) : Int)))) then (bif ((decide ((0 : Int) ≤ i_4)) && (decide (i_4 < ((((List.length xs_m_0_0) - (0 : Nat)) : Nat) : Int)))) then (bif (((([(List.getD xs_m_0_0 (Int.toNat i_4) (0 : Int))] : List Int) == ([(List.getD xs_m_0_0 (Int.toNat i_4) (0 : Int))] : List Int)) && ((([(List.getD xs_m_0_1 (Int.toNat i_4) (0 : Int))] : List Int) == ([(List.getD xs_m_0_1 (Int.toNat i_4) (0 : Int))] : List Int)) && ((([(List.getD xs_m_0_2 (Int.toNat i_4) (0 : Int))] : List Int) == ([(List.getD xs_m_0_2 (Int.toNat i_4) (0 : Int))] : List Int)) && true))) && ((((List.getD xs_m_0_0 (Int.toNat i_4) (0 : Int)) == (List.getD xs_m_0_0 (Int.toNat i_4) (0 : Int))) && (((List.getD xs_m_0_1 (Int.toNat i_4) (0 : Int)) == (List.getD xs_m_0_1 (Int.toNat i_4) (0 : Int))) && (((List.getD xs_m_0_2 (Int.toNat i_4) (0 : Int)) == (List.getD xs_m_0_2 (Int.toNat i_4) (0 : Int))) && true))) && (((List.getD xs_m_0_2 (Int.toNat i_4) (0 : Int)) == (List.getD xs_m_0_2 (Int.toNat i_4) (0 : Int))) && ((((Int.toNat i_4) == (Int.toNat i_4)) && true) && ((((decide ((0 : Int) ≤ i_4)) && (decide (i_4 < ((((List.length xs_m_0_0) - (0 : Nat)) : Nat) : Int)))) && (((Int.toNat i_4) == (Int.toNat i_4)) && true)) && ((i_4 == i_4) && (((List.getD xs_m_0_1 (Int.toNat i_4) (0 : Int)) == (List.getD xs_m_0_1 (Int.toNat i_4) (0 : Int))) && ((((Int.toNat i_4) == (Int.toNat i_4)) && true) && ((((decide ((0 : Int) ≤ i_4)) && (decide (i_4 < ((((List.length xs_m_0_0) - (0 : Nat)) : Nat) : Int)))) && (((Int.toNat i_4) == (Int.toNat i_4)) && true)) && ((i_4 == i_4) && (((List.getD xs_m_0_0 (Int.toNat i_4) (0 : Int)) == (List.getD xs_m_0_0 (Int.toNat i_4) (0 : Int))) && ((((Int.toNat i_4) == (Int.toNat i_4)) && true) && ((((decide ((0 : Int) ≤ i_4)) && (decide (i_4 < ((((List.length xs_m_0_0) - (0 : Nat)) : Nat) : Int)))) && (((Int.toNat i_4) == (Int.toNat i_4)) && true)) && ((i_4 == i_4) && true)))))))))))))) then (bif ((decide (((((List.length xs_m_1_0) - (0 : Nat)) + (1 : Nat)) * (24 : Nat)) ≤ (140737488355328 : Nat))) && (decide ((((List.length xs_m_1_0) - (0 : Nat)) + (1 : Nat)) ≤ (140737488355328 : Nat)))) then (rec (IntKind.wrap .i64 (i_4 + (1 : Int))) (xs_m_1_0 ++ ([(List.getD xs_m_0_0 (Int.toNat i_4) (0 : Int))] : List Int)) (xs_m_1_1 ++ ([(List.getD xs_m_0_1 (Int.toNat i_4) (0 : Int))] : List Int)) (xs_m_1_2 ++ ([(List.getD xs_m_0_2 (Int.toNat i_4) (0 : Int))] : List Int))) else False) else False) else False) else False) else False) else (k1 xs_m_1_0 xs_m_1_1 xs_m_1_2))
def RL5_3  : Nat → Int → List Int → List Int → List Int → List Int → List Int → List Int → (List Int → List Int → List Int → Prop) → Prop
  | 0, _, _, _, _, _, _, _, _ => False
  | n + 1, i_4, xs_m_0_0, xs_m_0_1, xs_m_0_2, xs_m_1_0, xs_m_1_1, xs_m_1_2, k1 => HL5_3  (fun (i_4 : Int) (xs_m_1_0 : List Int) (xs_m_1_1 : List Int) (xs_m_1_2 : List Int) => RL5_3  n i_4 xs_m_0_0 xs_m_0_1 xs_m_0_2 xs_m_1_0 xs_m_1_1 xs_m_1_2 k1) i_4 xs_m_0_0 xs_m_0_1 xs_m_0_2 xs_m_1_0 xs_m_1_1 xs_m_1_2 k1
noncomputable def XL5_3 : Code := sub [true, true, false, true, false, false] (bodyOf Tryz.prog 5)
theorem HL5_3_ok  (n : Nat) (i_4 : Int) (xs_m_0_0 : List Int) (xs_m_0_1 : List Int) (xs_m_0_2 : List Int) (xs_m_1_0 : List Int) (xs_m_1_1 : List Int) (xs_m_1_2 : List Int) (K : Ex → Env → Mem → Prop) : cround 1 [0, 3, 4] [3] (fun ρ m K => cexec Tryz.prog C5 (fun _ => none) 1 1000 XL5_3 ρ m K) (n + 1) (selE 31 [(0, (.sl 0 (0 : Nat) (none : Option Nat) (none : Option Nat))), (3, (.sl 1 (0 : Nat) (none : Option Nat) (none : Option Nat))), (4, (.I .i64 i_4))]) [⟨[.ints .i64 xs_m_0_0, .ints .i64 xs_m_0_1, .ints .i64 xs_m_0_2], 53, true, false⟩, ⟨[.ints .i64 xs_m_1_0, .ints .i64 xs_m_1_1, .ints .i64 xs_m_1_2], 47, false, true⟩] K =
    HL5_3  (fun (i_4 : Int) (xs_m_1_0 : List Int) (xs_m_1_1 : List Int) (xs_m_1_2 : List Int) => cround 1 [0, 3, 4] [3] (fun ρ m K => cexec Tryz.prog C5 (fun _ => none) 1 1000 XL5_3 ρ m K) n (selE 31 [(0, (.sl 0 (0 : Nat) (none : Option Nat) (none : Option Nat))), (3, (.sl 1 (0 : Nat) (none : Option Nat) (none : Option Nat))), (4, (.I .i64 i_4))]) [⟨[.ints .i64 xs_m_0_0, .ints .i64 xs_m_0_1, .ints .i64 xs_m_0_2], 53, true, false⟩, ⟨[.ints .i64 xs_m_1_0, .ints .i64 xs_m_1_1, .ints .i64 xs_m_1_2], 47, false, true⟩] K) i_4 xs_m_0_0 xs_m_0_1 xs_m_0_2 xs_m_1_0 xs_m_1_1 xs_m_1_2 (fun (u0 : List Int) (u1 : List Int) (u2 : List Int) => K (.exit 0) (selE 31 [(3, (.sl 1 (0 : Nat) (none : Option Nat) (none : Option Nat)))]) [⟨[.ints .i64 xs_m_0_0, .ints .i64 xs_m_0_1, .ints .i64 xs_m_0_2], 53, true, false⟩, ⟨[.ints .i64 u0, .ints .i64 u1, .ints .i64 u2], 47, false, true⟩]) := by kernel_rfl
theorem RL5_3_ok  (K : Ex → Env → Mem → Prop) : ∀ (n : Nat) (i_4 : Int) (xs_m_0_0 : List Int) (xs_m_0_1 : List Int) (xs_m_0_2 : List Int) (xs_m_1_0 : List Int) (xs_m_1_1 : List Int) (xs_m_1_2 : List Int), cround 1 [0, 3, 4] [3] (fun ρ m K => cexec Tryz.prog C5 (fun _ => none) 1 1000 XL5_3 ρ m K) n (selE 31 [(0, (.sl 0 (0 : Nat) (none : Option Nat) (none : Option Nat))), (3, (.sl 1 (0 : Nat) (none : Option Nat) (none : Option Nat))), (4, (.I .i64 i_4))]) [⟨[.ints .i64 xs_m_0_0, .ints .i64 xs_m_0_1, .ints .i64 xs_m_0_2], 53, true, false⟩, ⟨[.ints .i64 xs_m_1_0, .ints .i64 xs_m_1_1, .ints .i64 xs_m_1_2], 47, false, true⟩] K = RL5_3  n i_4 xs_m_0_0 xs_m_0_1 xs_m_0_2 xs_m_1_0 xs_m_1_1 xs_m_1_2 (fun (u0 : List Int) (u1 : List Int) (u2 : List Int) => K (.exit 0) (selE 31 [(3, (.sl 1 (0 : Nat) (none : Option Nat) (none : Option Nat)))]) [⟨[.ints .i64 xs_m_0_0, .ints .i64 xs_m_0_1, .ints .i64 xs_m_0_2], 53, true, false⟩, ⟨[.ints .i64 u0, .ints .i64 u1, .ints .i64 u2], 47, false, true⟩])
  | 0, i_4, xs_m_0_0, xs_m_0_1, xs_m_0_2, xs_m_1_0, xs_m_1_1, xs_m_1_2 => rfl
  | n + 1, i_4, xs_m_0_0, xs_m_0_1, xs_m_0_2, xs_m_1_0, xs_m_1_1, xs_m_1_2 => by
    have ih := RL5_3_ok  K n
    rw [HL5_3_ok  n i_4 xs_m_0_0 xs_m_0_1 xs_m_0_2 xs_m_1_0 xs_m_1_1 xs_m_1_2 K]
    show HL5_3  _ i_4 xs_m_0_0 xs_m_0_1 xs_m_0_2 xs_m_1_0 xs_m_1_1 xs_m_1_2 (fun (u0 : List Int) (u1 : List Int) (u2 : List Int) => K (.exit 0) (selE 31 [(3, (.sl 1 (0 : Nat) (none : Option Nat) (none : Option Nat)))]) [⟨[.ints .i64 xs_m_0_0, .ints .i64 xs_m_0_1, .ints .i64 xs_m_0_2], 53, true, false⟩, ⟨[.ints .i64 u0, .ints .i64 u1, .ints .i64 u2], 47, false, true⟩]) = HL5_3  _ i_4 xs_m_0_0 xs_m_0_1 xs_m_0_2 xs_m_1_0 xs_m_1_1 xs_m_1_2 (fun (u0 : List Int) (u1 : List Int) (u2 : List Int) => K (.exit 0) (selE 31 [(3, (.sl 1 (0 : Nat) (none : Option Nat) (none : Option Nat)))]) [⟨[.ints .i64 xs_m_0_0, .ints .i64 xs_m_0_1, .ints .i64 xs_m_0_2], 53, true, false⟩, ⟨[.ints .i64 u0, .ints .i64 u1, .ints .i64 u2], 47, false, true⟩])
    refine congrArg (fun r => HL5_3  r i_4 xs_m_0_0 xs_m_0_1 xs_m_0_2 xs_m_1_0 xs_m_1_1 xs_m_1_2 (fun (u0 : List Int) (u1 : List Int) (u2 : List Int) => K (.exit 0) (selE 31 [(3, (.sl 1 (0 : Nat) (none : Option Nat) (none : Option Nat)))]) [⟨[.ints .i64 xs_m_0_0, .ints .i64 xs_m_0_1, .ints .i64 xs_m_0_2], 53, true, false⟩, ⟨[.ints .i64 u0, .ints .i64 u1, .ints .i64 u2], 47, false, true⟩])) ?_
    funext i_4 xs_m_1_0 xs_m_1_1 xs_m_1_2
    exact ih i_4 xs_m_0_0 xs_m_0_1 xs_m_0_2 xs_m_1_0 xs_m_1_1 xs_m_1_2
def GL5_3 : YL5_3 := fun x i_4 xs_m_0_0 xs_m_0_1 xs_m_0_2 xs_m_1_0 xs_m_1_1 xs_m_1_2 k1 => x = XL5_3 ∧ ∃ n, RL5_3  n i_4 xs_m_0_0 xs_m_0_1 xs_m_0_2 xs_m_1_0 xs_m_1_1 xs_m_1_2 k1
def FL5_3 : List Fil := [.slot 3 ⟨[.ints .i64 ([] : List Int), .ints .i64 ([] : List Int), .ints .i64 ([] : List Int)], 47, false, true⟩]
def VL5_3 (l : YL5_3) (F : Prop) (x : Code) (ρ : Env) (m : Mem) (K : Ex → Env → Mem → Prop) : Prop :=
  match ρ.has (31 - 1) with
  | true => (seeV (.sl 0 (0 : Nat) (none : Option Nat) (none : Option Nat)) (ρ.get 0) F (seeV (.sl 1 (0 : Nat) (none : Option Nat) (none : Option Nat)) (ρ.get 3) F (seeI .i64 (ρ.get 4) F fun i_4 => (seeCons m F fun a4 q5 => (seeBlk 53 true false a4 F fun cs6 => (seeCons cs6 F fun a7 q8 => (seeInts .i64 a7 F fun xs_m_0_0 => (seeCons q8 F fun a9 q10 => (seeInts .i64 a9 F fun xs_m_0_1 => (seeCons q10 F fun a11 q12 => (seeInts .i64 a11 F fun xs_m_0_2 => (seeNil q12 F (seeCons q5 F fun a13 q14 => (seeBlk 47 false true a13 F fun cs15 => (seeCons cs15 F fun a16 q17 => (seeInts .i64 a16 F fun xs_m_1_0 => (seeCons q17 F fun a18 q19 => (seeInts .i64 a18 F fun xs_m_1_1 => (seeCons q19 F fun a20 q21 => (seeInts .i64 a20 F fun xs_m_1_2 => (seeNil q21 F (seeNil q14 F (l x i_4 xs_m_0_0 xs_m_0_1 xs_m_0_2 xs_m_1_0 xs_m_1_1 xs_m_1_2 (fun (u0 : List Int) (u1 : List Int) (u2 : List Int) => K (.exit 0) (selE 31 [(3, (.sl 1 (0 : Nat) (none : Option Nat) (none : Option Nat)))]) [⟨[.ints .i64 xs_m_0_0, .ints .i64 xs_m_0_1, .ints .i64 xs_m_0_2], 53, true, false⟩, ⟨[.ints .i64 u0, .ints .i64 u1, .ints .i64 u2], 47, false, true⟩]))))))))))))))))))))))))
  | false => False
def WL5_3 (l : YL5_3) (W : Masks) : Masks := fun r =>
  match Nat.beq r 3 with
  | true => some fun x ρ m K => VL5_3 l (match W r with | some lf => lf x ρ m K | none => False) x (tidyE 1 [0, 3, 4] (fil FL5_3 ρ m).1 (fil FL5_3 ρ m).2) (tidyM 1 [0, 3, 4] (fil FL5_3 ρ m).1 (fil FL5_3 ρ m).2) K
  | false => W r
set_option maxRecDepth 100000 in
theorem WL5_3_ok {W : Masks} (hW : LoopsOk Tryz.prog 1 W) : LoopsOk Tryz.prog 1 (WL5_3 GL5_3 W) := by
  intro r lf h
  unfold WL5_3 at h
  split at h
  · cases h
    intro x E0 m0 w0 J hS0 ha hJ ρ m K E a w Q hS hρ hd h hQ
    have fb : (match W r with | some lf => lf x ρ m K | none => False) → (Code.loop x).wp Tryz.prog Q a w := fun h => by
      split at h
      · rename_i lf hlf
        exact hW r lf hlf x hS0 ha hJ ρ m K E a w Q hS hρ hd h hQ
      · cases h
    obtain ⟨E1, hS1, hρ1⟩ := fil_step hS hρ FL5_3
    obtain ⟨E2, hS2, hρ2⟩ := tidy_rel hS0 hS1 hρ1 [0, 3, 4]
    rw [ha] at hS2 hρ2
    unfold VL5_3 at h
    split at h
    · rename_i hlen
      replace h := seeV_use h
      rcases h with h | ⟨e1, h⟩
      · exact fb h
      replace h := seeV_use h
      rcases h with h | ⟨e2, h⟩
      · exact fb h
      replace h := seeI_use h
      rcases h with h | ⟨i_4, e3, h⟩
      · exact fb h
      replace h := seeCons_use h
      rcases h with h | ⟨a4, q5, eqm, h⟩
      · exact fb h
      replace h := seeBlk_use h
      rcases h with h | ⟨cs6, rfl, h⟩
      · exact fb h
      replace h := seeCons_use h
      rcases h with h | ⟨a7, q8, rfl, h⟩
      · exact fb h
      replace h := seeInts_use h
      rcases h with h | ⟨xs_m_0_0, rfl, h⟩
      · exact fb h
      replace h := seeCons_use h
      rcases h with h | ⟨a9, q10, rfl, h⟩
      · exact fb h
      replace h := seeInts_use h
      rcases h with h | ⟨xs_m_0_1, rfl, h⟩
      · exact fb h
      replace h := seeCons_use h
      rcases h with h | ⟨a11, q12, rfl, h⟩
      · exact fb h
      replace h := seeInts_use h
      rcases h with h | ⟨xs_m_0_2, rfl, h⟩
      · exact fb h
      replace h := seeNil_use h
      rcases h with h | ⟨rfl, h⟩
      · exact fb h
      replace h := seeCons_use h
      rcases h with h | ⟨a13, q14, rfl, h⟩
      · exact fb h
      replace h := seeBlk_use h
      rcases h with h | ⟨cs15, rfl, h⟩
      · exact fb h
      replace h := seeCons_use h
      rcases h with h | ⟨a16, q17, rfl, h⟩
      · exact fb h
      replace h := seeInts_use h
      rcases h with h | ⟨xs_m_1_0, rfl, h⟩
      · exact fb h
      replace h := seeCons_use h
      rcases h with h | ⟨a18, q19, rfl, h⟩
      · exact fb h
      replace h := seeInts_use h
      rcases h with h | ⟨xs_m_1_1, rfl, h⟩
      · exact fb h
      replace h := seeCons_use h
      rcases h with h | ⟨a20, q21, rfl, h⟩
      · exact fb h
      replace h := seeInts_use h
      rcases h with h | ⟨xs_m_1_2, rfl, h⟩
      · exact fb h
      replace h := seeNil_use h
      rcases h with h | ⟨rfl, h⟩
      · exact fb h
      replace h := seeNil_use h
      rcases h with h | ⟨rfl, h⟩
      · exact fb h
      obtain ⟨rfl, n, h⟩ := h
      exact loop_use named C5_ok (LoopsOk.none _ _) (RL5_3_ok  K n _ _ _ _ _ _ _) h hS0 ha hJ hlen ⟨e1, e2, e3, trivial⟩ (eqm ▸ hS2) hρ2 hd hQ
    · cases h
  · exact hW r lf h
theorem at5 : Tryz.prog.funcs[5]? = some (fnOf Tryz.prog 5) := by kernel_rfl
abbrev Y5 : Type := List Int → List Int → List Int → (List Int → List Int → List Int → Prop) → Prop
set_option maxHeartbeats 4000000 in
set_option maxRecDepth 100000 in
def F5  (l5_3 : YL5_3) (xs : List Int) (ts : List Int) (ns : List Int) (k1 : List Int → List Int → List Int → Prop) : Prop :=
  (l5_3 XL5_3 (0 : Int) xs ts ns ([] : List Int) ([] : List Int) ([] : List Int) (fun (xs1 : List Int) (xs2 : List Int) (xs3 : List Int) => (k1 xs1 xs2 xs3)))
theorem F5_ok  (l5_3 : YL5_3) (xs : List Int) (ts : List Int) (ns : List Int) (K : V → Mem → Prop) : cbody Tryz.prog C5 (WL5_3 l5_3 (fun _ => none)) 1000 (fnOf Tryz.prog 5) [(.sl 0 (0 : Nat) (none : Option Nat) (none : Option Nat))] [⟨[.ints .i64 xs, .ints .i64 ts, .ints .i64 ns], 53, true, false⟩] K =
    F5  l5_3 xs ts ns (fun (u0 : List Int) (u1 : List Int) (u2 : List Int) => K (.sl 1 (0 : Nat) (none : Option Nat) (none : Option Nat)) [⟨[.ints .i64 xs, .ints .i64 ts, .ints .i64 ns], 53, true, false⟩, ⟨[.ints .i64 u0, .ints .i64 u1, .ints .i64 u2], 47, false, true⟩]) := by kernel_rfl
theorem at6 : Tryz.prog.funcs[6]? = some (fnOf Tryz.prog 6) := by kernel_rfl
abbrev Y6 : Type := List Int → List Int → List Int → (List Int → List Int → List Int → Prop) → Prop
set_option maxHeartbeats 4000000 in
set_option maxRecDepth 100000 in
def F6  (xs : List Int) (ts : List Int) (ns : List Int) (k1 : List Int → List Int → List Int → Prop) : Prop :=
  (bif (Nat.blt 0 ((List.length xs) - (0 : Nat))) then (bif ((decide ((((0 : Nat) + ((List.length xs) - (0 : Nat))) * (24 : Nat)) ≤ (140737488355328 : Nat))) && (decide (((0 : Nat) + ((List.length xs) - (0 : Nat))) ≤ (140737488355328 : Nat)))) then (stbS ((((List.length xs) - (0 : Nat)) : Nat) : Int) xs ts ns (fun (sx1 : List Int) (st2 : List Int) (sn3 : List Int) => (k1 sx1 st2 sn3))) else False) else False)
theorem F6_ok  (xs : List Int) (ts : List Int) (ns : List Int) (K : V → Mem → Prop) : cbody Tryz.prog C5 (fun _ => none) 1000 (fnOf Tryz.prog 6) [(.sl 0 (0 : Nat) (none : Option Nat) (none : Option Nat))] [⟨[.ints .i64 xs, .ints .i64 ts, .ints .i64 ns], 47, false, false⟩] K =
    F6  xs ts ns (fun (u0 : List Int) (u1 : List Int) (u2 : List Int) => K (.sl 1 (0 : Nat) (none : Option Nat) (none : Option Nat)) [⟨[.ints .i64 xs, .ints .i64 ts, .ints .i64 ns], 47, false, false⟩, ⟨[.ints .i64 u0, .ints .i64 u1, .ints .i64 u2], 47, false, true⟩]) := by kernel_rfl
abbrev YL19_4 : Type := Code → Int → List Int → List Int → List Int → List Int → List Int → List Int → (Prop) → (Prop) → Prop
set_option maxHeartbeats 4000000 in
set_option maxRecDepth 100000 in
def HL19_4  (rec : Int → Prop) (i_5 : Int) (xs_m_0_0 : List Int) (xs_m_0_1 : List Int) (xs_m_0_2 : List Int) (xs_m_1_0 : List Int) (xs_m_1_1 : List Int) (xs_m_1_2 : List Int) (k1 : Prop) (k2 : Prop) : Prop :=
  (bif (decide (i_5 < ((((List.length xs_m_0_0) - (0 : Nat)) : Nat) : Int))) then (bif ((decide ((0 : Int) ≤ i_5)) && (decide (i_5 < ((((List.length xs_m_0_0) - (0 : Nat)) : Nat) : Int)))) then (bif ((decide ((0 : Int) ≤ i_5)) && (decide (i_5 < ((((List.length xs_m_1_0) - (0 : Nat)) : Nat) : Int)))) then (bif (!(((List.getD xs_m_0_0 (Int.toNat i_5) (0 : Int)) == (List.getD xs_m_1_0 (Int.toNat i_5) (0 : Int))) && (((List.getD xs_m_0_1 (Int.toNat i_5) (0 : Int)) == (List.getD xs_m_1_1 (Int.toNat i_5) (0 : Int))) && (((List.getD xs_m_0_2 (Int.toNat i_5) (0 : Int)) == (List.getD xs_m_1_2 (Int.toNat i_5) (0 : Int))) && true)))) then (k1) else (rec (IntKind.wrap .i64 (i_5 + (1 : Int))))) else False) else False) else (k2))
def RL19_4  : Nat → Int → List Int → List Int → List Int → List Int → List Int → List Int → (Prop) → (Prop) → Prop
  | 0, _, _, _, _, _, _, _, _, _ => False
  | n + 1, i_5, xs_m_0_0, xs_m_0_1, xs_m_0_2, xs_m_1_0, xs_m_1_1, xs_m_1_2, k1, k2 => HL19_4  (fun (i_5 : Int) => RL19_4  n i_5 xs_m_0_0 xs_m_0_1 xs_m_0_2 xs_m_1_0 xs_m_1_1 xs_m_1_2 k1 k2) i_5 xs_m_0_0 xs_m_0_1 xs_m_0_2 xs_m_1_0 xs_m_1_1 xs_m_1_2 k1 k2
noncomputable def XL19_4 : Code := sub [true, true, false, true, false, false] (bodyOf Tryz.prog 19)
theorem HL19_4_ok  (n : Nat) (i_5 : Int) (xs_m_0_0 : List Int) (xs_m_0_1 : List Int) (xs_m_0_2 : List Int) (xs_m_1_0 : List Int) (xs_m_1_1 : List Int) (xs_m_1_2 : List Int) (K : Ex → Env → Mem → Prop) : cround 2 [0, 1, 5] [4] (fun ρ m K => cexec Tryz.prog C5 (fun _ => none) 2 1000 XL19_4 ρ m K) (n + 1) (selE 26 [(0, (.sl 0 (0 : Nat) (none : Option Nat) (none : Option Nat))), (1, (.sl 1 (0 : Nat) (none : Option Nat) (none : Option Nat))), (5, (.I .i64 i_5))]) [⟨[.ints .i64 xs_m_0_0, .ints .i64 xs_m_0_1, .ints .i64 xs_m_0_2], 47, false, false⟩, ⟨[.ints .i64 xs_m_1_0, .ints .i64 xs_m_1_1, .ints .i64 xs_m_1_2], 47, false, false⟩] K =
    HL19_4  (fun (i_5 : Int) => cround 2 [0, 1, 5] [4] (fun ρ m K => cexec Tryz.prog C5 (fun _ => none) 2 1000 XL19_4 ρ m K) n (selE 26 [(0, (.sl 0 (0 : Nat) (none : Option Nat) (none : Option Nat))), (1, (.sl 1 (0 : Nat) (none : Option Nat) (none : Option Nat))), (5, (.I .i64 i_5))]) [⟨[.ints .i64 xs_m_0_0, .ints .i64 xs_m_0_1, .ints .i64 xs_m_0_2], 47, false, false⟩, ⟨[.ints .i64 xs_m_1_0, .ints .i64 xs_m_1_1, .ints .i64 xs_m_1_2], 47, false, false⟩] K) i_5 xs_m_0_0 xs_m_0_1 xs_m_0_2 xs_m_1_0 xs_m_1_1 xs_m_1_2 (K .ret (selE 26 [(4, (.B false))]) [⟨[.ints .i64 xs_m_0_0, .ints .i64 xs_m_0_1, .ints .i64 xs_m_0_2], 47, false, false⟩, ⟨[.ints .i64 xs_m_1_0, .ints .i64 xs_m_1_1, .ints .i64 xs_m_1_2], 47, false, false⟩]) (K (.exit 0) (selE 26 [(4, .undef)]) [⟨[.ints .i64 xs_m_0_0, .ints .i64 xs_m_0_1, .ints .i64 xs_m_0_2], 47, false, false⟩, ⟨[.ints .i64 xs_m_1_0, .ints .i64 xs_m_1_1, .ints .i64 xs_m_1_2], 47, false, false⟩]) := by kernel_rfl
theorem RL19_4_ok  (K : Ex → Env → Mem → Prop) : ∀ (n : Nat) (i_5 : Int) (xs_m_0_0 : List Int) (xs_m_0_1 : List Int) (xs_m_0_2 : List Int) (xs_m_1_0 : List Int) (xs_m_1_1 : List Int) (xs_m_1_2 : List Int), cround 2 [0, 1, 5] [4] (fun ρ m K => cexec Tryz.prog C5 (fun _ => none) 2 1000 XL19_4 ρ m K) n (selE 26 [(0, (.sl 0 (0 : Nat) (none : Option Nat) (none : Option Nat))), (1, (.sl 1 (0 : Nat) (none : Option Nat) (none : Option Nat))), (5, (.I .i64 i_5))]) [⟨[.ints .i64 xs_m_0_0, .ints .i64 xs_m_0_1, .ints .i64 xs_m_0_2], 47, false, false⟩, ⟨[.ints .i64 xs_m_1_0, .ints .i64 xs_m_1_1, .ints .i64 xs_m_1_2], 47, false, false⟩] K = RL19_4  n i_5 xs_m_0_0 xs_m_0_1 xs_m_0_2 xs_m_1_0 xs_m_1_1 xs_m_1_2 (K .ret (selE 26 [(4, (.B false))]) [⟨[.ints .i64 xs_m_0_0, .ints .i64 xs_m_0_1, .ints .i64 xs_m_0_2], 47, false, false⟩, ⟨[.ints .i64 xs_m_1_0, .ints .i64 xs_m_1_1, .ints .i64 xs_m_1_2], 47, false, false⟩]) (K (.exit 0) (selE 26 [(4, .undef)]) [⟨[.ints .i64 xs_m_0_0, .ints .i64 xs_m_0_1, .ints .i64 xs_m_0_2], 47, false, false⟩, ⟨[.ints .i64 xs_m_1_0, .ints .i64 xs_m_1_1, .ints .i64 xs_m_1_2], 47, false, false⟩])
  | 0, i_5, xs_m_0_0, xs_m_0_1, xs_m_0_2, xs_m_1_0, xs_m_1_1, xs_m_1_2 => rfl
  | n + 1, i_5, xs_m_0_0, xs_m_0_1, xs_m_0_2, xs_m_1_0, xs_m_1_1, xs_m_1_2 => by
    have ih := RL19_4_ok  K n
    rw [HL19_4_ok  n i_5 xs_m_0_0 xs_m_0_1 xs_m_0_2 xs_m_1_0 xs_m_1_1 xs_m_1_2 K]
    show HL19_4  _ i_5 xs_m_0_0 xs_m_0_1 xs_m_0_2 xs_m_1_0 xs_m_1_1 xs_m_1_2 (K .ret (selE 26 [(4, (.B false))]) [⟨[.ints .i64 xs_m_0_0, .ints .i64 xs_m_0_1, .ints .i64 xs_m_0_2], 47, false, false⟩, ⟨[.ints .i64 xs_m_1_0, .ints .i64 xs_m_1_1, .ints .i64 xs_m_1_2], 47, false, false⟩]) (K (.exit 0) (selE 26 [(4, .undef)]) [⟨[.ints .i64 xs_m_0_0, .ints .i64 xs_m_0_1, .ints .i64 xs_m_0_2], 47, false, false⟩, ⟨[.ints .i64 xs_m_1_0, .ints .i64 xs_m_1_1, .ints .i64 xs_m_1_2], 47, false, false⟩]) = HL19_4  _ i_5 xs_m_0_0 xs_m_0_1 xs_m_0_2 xs_m_1_0 xs_m_1_1 xs_m_1_2 (K .ret (selE 26 [(4, (.B false))]) [⟨[.ints .i64 xs_m_0_0, .ints .i64 xs_m_0_1, .ints .i64 xs_m_0_2], 47, false, false⟩, ⟨[.ints .i64 xs_m_1_0, .ints .i64 xs_m_1_1, .ints .i64 xs_m_1_2], 47, false, false⟩]) (K (.exit 0) (selE 26 [(4, .undef)]) [⟨[.ints .i64 xs_m_0_0, .ints .i64 xs_m_0_1, .ints .i64 xs_m_0_2], 47, false, false⟩, ⟨[.ints .i64 xs_m_1_0, .ints .i64 xs_m_1_1, .ints .i64 xs_m_1_2], 47, false, false⟩])
    refine congrArg (fun r => HL19_4  r i_5 xs_m_0_0 xs_m_0_1 xs_m_0_2 xs_m_1_0 xs_m_1_1 xs_m_1_2 (K .ret (selE 26 [(4, (.B false))]) [⟨[.ints .i64 xs_m_0_0, .ints .i64 xs_m_0_1, .ints .i64 xs_m_0_2], 47, false, false⟩, ⟨[.ints .i64 xs_m_1_0, .ints .i64 xs_m_1_1, .ints .i64 xs_m_1_2], 47, false, false⟩]) (K (.exit 0) (selE 26 [(4, .undef)]) [⟨[.ints .i64 xs_m_0_0, .ints .i64 xs_m_0_1, .ints .i64 xs_m_0_2], 47, false, false⟩, ⟨[.ints .i64 xs_m_1_0, .ints .i64 xs_m_1_1, .ints .i64 xs_m_1_2], 47, false, false⟩])) ?_
    funext i_5
    exact ih i_5 xs_m_0_0 xs_m_0_1 xs_m_0_2 xs_m_1_0 xs_m_1_1 xs_m_1_2
def GL19_4 : YL19_4 := fun x i_5 xs_m_0_0 xs_m_0_1 xs_m_0_2 xs_m_1_0 xs_m_1_1 xs_m_1_2 k1 k2 => x = XL19_4 ∧ ∃ n, RL19_4  n i_5 xs_m_0_0 xs_m_0_1 xs_m_0_2 xs_m_1_0 xs_m_1_1 xs_m_1_2 k1 k2
def VL19_4 (l : YL19_4) (F : Prop) (x : Code) (ρ : Env) (m : Mem) (K : Ex → Env → Mem → Prop) : Prop :=
  match ρ.has (26 - 1) with
  | true => (seeV (.sl 0 (0 : Nat) (none : Option Nat) (none : Option Nat)) (ρ.get 0) F (seeV (.sl 1 (0 : Nat) (none : Option Nat) (none : Option Nat)) (ρ.get 1) F (seeI .i64 (ρ.get 5) F fun i_5 => (seeCons m F fun a4 q5 => (seeBlk 47 false false a4 F fun cs6 => (seeCons cs6 F fun a7 q8 => (seeInts .i64 a7 F fun xs_m_0_0 => (seeCons q8 F fun a9 q10 => (seeInts .i64 a9 F fun xs_m_0_1 => (seeCons q10 F fun a11 q12 => (seeInts .i64 a11 F fun xs_m_0_2 => (seeNil q12 F (seeCons q5 F fun a13 q14 => (seeBlk 47 false false a13 F fun cs15 => (seeCons cs15 F fun a16 q17 => (seeInts .i64 a16 F fun xs_m_1_0 => (seeCons q17 F fun a18 q19 => (seeInts .i64 a18 F fun xs_m_1_1 => (seeCons q19 F fun a20 q21 => (seeInts .i64 a20 F fun xs_m_1_2 => (seeNil q21 F (seeNil q14 F (l x i_5 xs_m_0_0 xs_m_0_1 xs_m_0_2 xs_m_1_0 xs_m_1_1 xs_m_1_2 (K .ret (selE 26 [(4, (.B false))]) [⟨[.ints .i64 xs_m_0_0, .ints .i64 xs_m_0_1, .ints .i64 xs_m_0_2], 47, false, false⟩, ⟨[.ints .i64 xs_m_1_0, .ints .i64 xs_m_1_1, .ints .i64 xs_m_1_2], 47, false, false⟩]) (K (.exit 0) (selE 26 [(4, .undef)]) [⟨[.ints .i64 xs_m_0_0, .ints .i64 xs_m_0_1, .ints .i64 xs_m_0_2], 47, false, false⟩, ⟨[.ints .i64 xs_m_1_0, .ints .i64 xs_m_1_1, .ints .i64 xs_m_1_2], 47, false, false⟩]))))))))))))))))))))))))
  | false => False
def WL19_4 (l : YL19_4) (W : Masks) : Masks := fun r =>
  match Nat.beq r 4 with
  | true => some fun x ρ m K => VL19_4 l (match W r with | some lf => lf x ρ m K | none => False) x (tidyE 2 [0, 1, 5] ρ m) (tidyM 2 [0, 1, 5] ρ m) K
  | false => W r
set_option maxRecDepth 100000 in
theorem WL19_4_ok {W : Masks} (hW : LoopsOk Tryz.prog 2 W) : LoopsOk Tryz.prog 2 (WL19_4 GL19_4 W) := by
  intro r lf h
  unfold WL19_4 at h
  split at h
  · cases h
    intro x E0 m0 w0 J hS0 ha hJ ρ m K E a w Q hS hρ hd h hQ
    have fb : (match W r with | some lf => lf x ρ m K | none => False) → (Code.loop x).wp Tryz.prog Q a w := fun h => by
      split at h
      · rename_i lf hlf
        exact hW r lf hlf x hS0 ha hJ ρ m K E a w Q hS hρ hd h hQ
      · cases h
    obtain ⟨E2, hS2, hρ2⟩ := tidy_rel hS0 hS hρ [0, 1, 5]
    rw [ha] at hS2 hρ2
    unfold VL19_4 at h
    split at h
    · rename_i hlen
      replace h := seeV_use h
      rcases h with h | ⟨e1, h⟩
      · exact fb h
      replace h := seeV_use h
      rcases h with h | ⟨e2, h⟩
      · exact fb h
      replace h := seeI_use h
      rcases h with h | ⟨i_5, e3, h⟩
      · exact fb h
      replace h := seeCons_use h
      rcases h with h | ⟨a4, q5, eqm, h⟩
      · exact fb h
      replace h := seeBlk_use h
      rcases h with h | ⟨cs6, rfl, h⟩
      · exact fb h
      replace h := seeCons_use h
      rcases h with h | ⟨a7, q8, rfl, h⟩
      · exact fb h
      replace h := seeInts_use h
      rcases h with h | ⟨xs_m_0_0, rfl, h⟩
      · exact fb h
      replace h := seeCons_use h
      rcases h with h | ⟨a9, q10, rfl, h⟩
      · exact fb h
      replace h := seeInts_use h
      rcases h with h | ⟨xs_m_0_1, rfl, h⟩
      · exact fb h
      replace h := seeCons_use h
      rcases h with h | ⟨a11, q12, rfl, h⟩
      · exact fb h
      replace h := seeInts_use h
      rcases h with h | ⟨xs_m_0_2, rfl, h⟩
      · exact fb h
      replace h := seeNil_use h
      rcases h with h | ⟨rfl, h⟩
      · exact fb h
      replace h := seeCons_use h
      rcases h with h | ⟨a13, q14, rfl, h⟩
      · exact fb h
      replace h := seeBlk_use h
      rcases h with h | ⟨cs15, rfl, h⟩
      · exact fb h
      replace h := seeCons_use h
      rcases h with h | ⟨a16, q17, rfl, h⟩
      · exact fb h
      replace h := seeInts_use h
      rcases h with h | ⟨xs_m_1_0, rfl, h⟩
      · exact fb h
      replace h := seeCons_use h
      rcases h with h | ⟨a18, q19, rfl, h⟩
      · exact fb h
      replace h := seeInts_use h
      rcases h with h | ⟨xs_m_1_1, rfl, h⟩
      · exact fb h
      replace h := seeCons_use h
      rcases h with h | ⟨a20, q21, rfl, h⟩
      · exact fb h
      replace h := seeInts_use h
      rcases h with h | ⟨xs_m_1_2, rfl, h⟩
      · exact fb h
      replace h := seeNil_use h
      rcases h with h | ⟨rfl, h⟩
      · exact fb h
      replace h := seeNil_use h
      rcases h with h | ⟨rfl, h⟩
      · exact fb h
      obtain ⟨rfl, n, h⟩ := h
      exact loop_use named C5_ok (LoopsOk.none _ _) (RL19_4_ok  K n _ _ _ _ _ _ _) h hS0 ha hJ hlen ⟨e1, e2, e3, trivial⟩ (eqm ▸ hS2) hρ2 hd hQ
    · cases h
  · exact hW r lf h
theorem at19 : Tryz.prog.funcs[19]? = some (fnOf Tryz.prog 19) := by kernel_rfl
abbrev Y19 : Type := List Int → List Int → List Int → List Int → List Int → List Int → (Prop) → (Prop) → Prop
set_option maxHeartbeats 4000000 in
set_option maxRecDepth 100000 in
def F19  (l19_4 : YL19_4) (xs : List Int) (ts : List Int) (ns : List Int) (ys : List Int) (us : List Int) (vs : List Int) (k1 : Prop) (k2 : Prop) : Prop :=
  (bif (((((List.length xs) - (0 : Nat)) : Nat) : Int) != ((((List.length ys) - (0 : Nat)) : Nat) : Int)) then (k1) else (l19_4 XL19_4 (0 : Int) xs ts ns ys us vs ((k1)) ((k2))))
theorem F19_ok  (l19_4 : YL19_4) (xs : List Int) (ts : List Int) (ns : List Int) (ys : List Int) (us : List Int) (vs : List Int) (K : V → Mem → Prop) : cbody Tryz.prog C5 (WL19_4 l19_4 (fun _ => none)) 1000 (fnOf Tryz.prog 19) [(.sl 0 (0 : Nat) (none : Option Nat) (none : Option Nat)), (.sl 1 (0 : Nat) (none : Option Nat) (none : Option Nat))] [⟨[.ints .i64 xs, .ints .i64 ts, .ints .i64 ns], 47, false, false⟩, ⟨[.ints .i64 ys, .ints .i64 us, .ints .i64 vs], 47, false, false⟩] K =
    F19  l19_4 xs ts ns ys us vs (K (.B false) [⟨[.ints .i64 xs, .ints .i64 ts, .ints .i64 ns], 47, false, false⟩, ⟨[.ints .i64 ys, .ints .i64 us, .ints .i64 vs], 47, false, false⟩]) (K (.B true) [⟨[.ints .i64 xs, .ints .i64 ts, .ints .i64 ns], 47, false, false⟩, ⟨[.ints .i64 ys, .ints .i64 us, .ints .i64 vs], 47, false, false⟩]) := by kernel_rfl
abbrev YL20_3 : Type := Code → Int → Int → List Int → List Int → List Int → Int → Int → Int → (Int → Prop) → Prop
set_option maxHeartbeats 4000000 in
set_option maxRecDepth 100000 in
def HL20_3  (rec : Int → Int → Prop) (i_5 : Int) (i_6 : Int) (xs_m_0_0 : List Int) (xs_m_0_1 : List Int) (xs_m_0_2 : List Int) (i_m_1_0_0 : Int) (i_m_1_1_0 : Int) (i_m_1_2_0 : Int) (k1 : Int → Prop) : Prop :=
  (bif (decide (i_6 < ((((List.length xs_m_0_0) - (0 : Nat)) : Nat) : Int))) then (bif ((decide ((0 : Int) ≤ i_6)) && (decide (i_6 < ((((List.length xs_m_0_0) - (0 : Nat)) : Nat) : Int)))) then (bif (((List.getD xs_m_0_0 (Int.toNat i_6) (0 : Int)) == i_m_1_0_0) && (((List.getD xs_m_0_1 (Int.toNat i_6) (0 : Int)) == i_m_1_1_0) && (((List.getD xs_m_0_2 (Int.toNat i_6) (0 : Int)) == i_m_1_2_0) && true))) then (rec (IntKind.wrap .i64 (i_5 + (1 : Int))) (IntKind.wrap .i64 (i_6 + (1 : Int)))) else (rec i_5 (IntKind.wrap .i64 (i_6 + (1 : Int))))) else False) else (k1 i_5))
def RL20_3  : Nat → Int → Int → List Int → List Int → List Int → Int → Int → Int → (Int → Prop) → Prop
  | 0, _, _, _, _, _, _, _, _, _ => False
  | n + 1, i_5, i_6, xs_m_0_0, xs_m_0_1, xs_m_0_2, i_m_1_0_0, i_m_1_1_0, i_m_1_2_0, k1 => HL20_3  (fun (i_5 : Int) (i_6 : Int) => RL20_3  n i_5 i_6 xs_m_0_0 xs_m_0_1 xs_m_0_2 i_m_1_0_0 i_m_1_1_0 i_m_1_2_0 k1) i_5 i_6 xs_m_0_0 xs_m_0_1 xs_m_0_2 i_m_1_0_0 i_m_1_1_0 i_m_1_2_0 k1
noncomputable def XL20_3 : Code := sub [true, true, false, true, false, false] (bodyOf Tryz.prog 20)
theorem HL20_3_ok  (n : Nat) (i_5 : Int) (i_6 : Int) (xs_m_0_0 : List Int) (xs_m_0_1 : List Int) (xs_m_0_2 : List Int) (i_m_1_0_0 : Int) (i_m_1_1_0 : Int) (i_m_1_2_0 : Int) (K : Ex → Env → Mem → Prop) : cround 1 [0, 3, 5, 6] [5] (fun ρ m K => cexec Tryz.prog C5 (fun _ => none) 1 1000 XL20_3 ρ m K) (n + 1) (selE 22 [(0, (.sl 0 (0 : Nat) (none : Option Nat) (none : Option Nat))), (3, (.ptr 1 (0 : Nat) 0)), (5, (.I .i64 i_5)), (6, (.I .i64 i_6))]) [⟨[.ints .i64 xs_m_0_0, .ints .i64 xs_m_0_1, .ints .i64 xs_m_0_2], 47, false, false⟩, ⟨[.ints .i64 ([i_m_1_0_0] : List Int), .ints .i64 ([i_m_1_1_0] : List Int), .ints .i64 ([i_m_1_2_0] : List Int)], 47, false, true⟩] K =
    HL20_3  (fun (i_5 : Int) (i_6 : Int) => cround 1 [0, 3, 5, 6] [5] (fun ρ m K => cexec Tryz.prog C5 (fun _ => none) 1 1000 XL20_3 ρ m K) n (selE 22 [(0, (.sl 0 (0 : Nat) (none : Option Nat) (none : Option Nat))), (3, (.ptr 1 (0 : Nat) 0)), (5, (.I .i64 i_5)), (6, (.I .i64 i_6))]) [⟨[.ints .i64 xs_m_0_0, .ints .i64 xs_m_0_1, .ints .i64 xs_m_0_2], 47, false, false⟩, ⟨[.ints .i64 ([i_m_1_0_0] : List Int), .ints .i64 ([i_m_1_1_0] : List Int), .ints .i64 ([i_m_1_2_0] : List Int)], 47, false, true⟩] K) i_5 i_6 xs_m_0_0 xs_m_0_1 xs_m_0_2 i_m_1_0_0 i_m_1_1_0 i_m_1_2_0 (fun (u0 : Int) => K (.exit 0) (selE 22 [(5, (.I .i64 u0))]) [⟨[.ints .i64 xs_m_0_0, .ints .i64 xs_m_0_1, .ints .i64 xs_m_0_2], 47, false, false⟩]) := by kernel_rfl
theorem RL20_3_ok  (K : Ex → Env → Mem → Prop) : ∀ (n : Nat) (i_5 : Int) (i_6 : Int) (xs_m_0_0 : List Int) (xs_m_0_1 : List Int) (xs_m_0_2 : List Int) (i_m_1_0_0 : Int) (i_m_1_1_0 : Int) (i_m_1_2_0 : Int), cround 1 [0, 3, 5, 6] [5] (fun ρ m K => cexec Tryz.prog C5 (fun _ => none) 1 1000 XL20_3 ρ m K) n (selE 22 [(0, (.sl 0 (0 : Nat) (none : Option Nat) (none : Option Nat))), (3, (.ptr 1 (0 : Nat) 0)), (5, (.I .i64 i_5)), (6, (.I .i64 i_6))]) [⟨[.ints .i64 xs_m_0_0, .ints .i64 xs_m_0_1, .ints .i64 xs_m_0_2], 47, false, false⟩, ⟨[.ints .i64 ([i_m_1_0_0] : List Int), .ints .i64 ([i_m_1_1_0] : List Int), .ints .i64 ([i_m_1_2_0] : List Int)], 47, false, true⟩] K = RL20_3  n i_5 i_6 xs_m_0_0 xs_m_0_1 xs_m_0_2 i_m_1_0_0 i_m_1_1_0 i_m_1_2_0 (fun (u0 : Int) => K (.exit 0) (selE 22 [(5, (.I .i64 u0))]) [⟨[.ints .i64 xs_m_0_0, .ints .i64 xs_m_0_1, .ints .i64 xs_m_0_2], 47, false, false⟩])
  | 0, i_5, i_6, xs_m_0_0, xs_m_0_1, xs_m_0_2, i_m_1_0_0, i_m_1_1_0, i_m_1_2_0 => rfl
  | n + 1, i_5, i_6, xs_m_0_0, xs_m_0_1, xs_m_0_2, i_m_1_0_0, i_m_1_1_0, i_m_1_2_0 => by
    have ih := RL20_3_ok  K n
    rw [HL20_3_ok  n i_5 i_6 xs_m_0_0 xs_m_0_1 xs_m_0_2 i_m_1_0_0 i_m_1_1_0 i_m_1_2_0 K]
    show HL20_3  _ i_5 i_6 xs_m_0_0 xs_m_0_1 xs_m_0_2 i_m_1_0_0 i_m_1_1_0 i_m_1_2_0 (fun (u0 : Int) => K (.exit 0) (selE 22 [(5, (.I .i64 u0))]) [⟨[.ints .i64 xs_m_0_0, .ints .i64 xs_m_0_1, .ints .i64 xs_m_0_2], 47, false, false⟩]) = HL20_3  _ i_5 i_6 xs_m_0_0 xs_m_0_1 xs_m_0_2 i_m_1_0_0 i_m_1_1_0 i_m_1_2_0 (fun (u0 : Int) => K (.exit 0) (selE 22 [(5, (.I .i64 u0))]) [⟨[.ints .i64 xs_m_0_0, .ints .i64 xs_m_0_1, .ints .i64 xs_m_0_2], 47, false, false⟩])
    refine congrArg (fun r => HL20_3  r i_5 i_6 xs_m_0_0 xs_m_0_1 xs_m_0_2 i_m_1_0_0 i_m_1_1_0 i_m_1_2_0 (fun (u0 : Int) => K (.exit 0) (selE 22 [(5, (.I .i64 u0))]) [⟨[.ints .i64 xs_m_0_0, .ints .i64 xs_m_0_1, .ints .i64 xs_m_0_2], 47, false, false⟩])) ?_
    funext i_5 i_6
    exact ih i_5 i_6 xs_m_0_0 xs_m_0_1 xs_m_0_2 i_m_1_0_0 i_m_1_1_0 i_m_1_2_0
def GL20_3 : YL20_3 := fun x i_5 i_6 xs_m_0_0 xs_m_0_1 xs_m_0_2 i_m_1_0_0 i_m_1_1_0 i_m_1_2_0 k1 => x = XL20_3 ∧ ∃ n, RL20_3  n i_5 i_6 xs_m_0_0 xs_m_0_1 xs_m_0_2 i_m_1_0_0 i_m_1_1_0 i_m_1_2_0 k1
def VL20_3 (l : YL20_3) (F : Prop) (x : Code) (ρ : Env) (m : Mem) (K : Ex → Env → Mem → Prop) : Prop :=
  match ρ.has (22 - 1) with
  | true => (seeV (.sl 0 (0 : Nat) (none : Option Nat) (none : Option Nat)) (ρ.get 0) F (seeV (.ptr 1 (0 : Nat) 0) (ρ.get 3) F (seeI .i64 (ρ.get 5) F fun i_5 => (seeI .i64 (ρ.get 6) F fun i_6 => (seeCons m F fun a5 q6 => (seeBlk 47 false false a5 F fun cs7 => (seeCons cs7 F fun a8 q9 => (seeInts .i64 a8 F fun xs_m_0_0 => (seeCons q9 F fun a10 q11 => (seeInts .i64 a10 F fun xs_m_0_1 => (seeCons q11 F fun a12 q13 => (seeInts .i64 a12 F fun xs_m_0_2 => (seeNil q13 F (seeCons q6 F fun a14 q15 => (seeBlk 47 false true a14 F fun cs16 => (seeCons cs16 F fun a17 q18 => (seeInts .i64 a17 F fun xs19 => (seeCons xs19 F fun a20 q21 => (seeId a20 fun i_m_1_0_0 => (seeNil q21 F (seeCons q18 F fun a22 q23 => (seeInts .i64 a22 F fun xs24 => (seeCons xs24 F fun a25 q26 => (seeId a25 fun i_m_1_1_0 => (seeNil q26 F (seeCons q23 F fun a27 q28 => (seeInts .i64 a27 F fun xs29 => (seeCons xs29 F fun a30 q31 => (seeId a30 fun i_m_1_2_0 => (seeNil q31 F (seeNil q28 F (seeNil q15 F (l x i_5 i_6 xs_m_0_0 xs_m_0_1 xs_m_0_2 i_m_1_0_0 i_m_1_1_0 i_m_1_2_0 (fun (u0 : Int) => K (.exit 0) (selE 22 [(5, (.I .i64 u0))]) [⟨[.ints .i64 xs_m_0_0, .ints .i64 xs_m_0_1, .ints .i64 xs_m_0_2], 47, false, false⟩]))))))))))))))))))))))))))))))))))
  | false => False
def WL20_3 (l : YL20_3) (W : Masks) : Masks := fun r =>
  match Nat.beq r 3 with
  | true => some fun x ρ m K => VL20_3 l (match W r with | some lf => lf x ρ m K | none => False) x (tidyE 1 [0, 3, 5, 6] ρ m) (tidyM 1 [0, 3, 5, 6] ρ m) K
  | false => W r
set_option maxRecDepth 100000 in
theorem WL20_3_ok {W : Masks} (hW : LoopsOk Tryz.prog 1 W) : LoopsOk Tryz.prog 1 (WL20_3 GL20_3 W) := by
  intro r lf h
  unfold WL20_3 at h
  split at h
  · cases h
    intro x E0 m0 w0 J hS0 ha hJ ρ m K E a w Q hS hρ hd h hQ
    have fb : (match W r with | some lf => lf x ρ m K | none => False) → (Code.loop x).wp Tryz.prog Q a w := fun h => by
      split at h
      · rename_i lf hlf
        exact hW r lf hlf x hS0 ha hJ ρ m K E a w Q hS hρ hd h hQ
      · cases h
    obtain ⟨E2, hS2, hρ2⟩ := tidy_rel hS0 hS hρ [0, 3, 5, 6]
    rw [ha] at hS2 hρ2
    unfold VL20_3 at h
    split at h
    · rename_i hlen
      replace h := seeV_use h
      rcases h with h | ⟨e1, h⟩
      · exact fb h
      replace h := seeV_use h
      rcases h with h | ⟨e2, h⟩
      · exact fb h
      replace h := seeI_use h
      rcases h with h | ⟨i_5, e3, h⟩
      · exact fb h
      replace h := seeI_use h
      rcases h with h | ⟨i_6, e4, h⟩
      · exact fb h
      replace h := seeCons_use h
      rcases h with h | ⟨a5, q6, eqm, h⟩
      · exact fb h
      replace h := seeBlk_use h
      rcases h with h | ⟨cs7, rfl, h⟩
      · exact fb h
      replace h := seeCons_use h
      rcases h with h | ⟨a8, q9, rfl, h⟩
      · exact fb h
      replace h := seeInts_use h
      rcases h with h | ⟨xs_m_0_0, rfl, h⟩
      · exact fb h
      replace h := seeCons_use h
      rcases h with h | ⟨a10, q11, rfl, h⟩
      · exact fb h
      replace h := seeInts_use h
      rcases h with h | ⟨xs_m_0_1, rfl, h⟩
      · exact fb h
      replace h := seeCons_use h
      rcases h with h | ⟨a12, q13, rfl, h⟩
      · exact fb h
      replace h := seeInts_use h
      rcases h with h | ⟨xs_m_0_2, rfl, h⟩
      · exact fb h
      replace h := seeNil_use h
      rcases h with h | ⟨rfl, h⟩
      · exact fb h
      replace h := seeCons_use h
      rcases h with h | ⟨a14, q15, rfl, h⟩
      · exact fb h
      replace h := seeBlk_use h
      rcases h with h | ⟨cs16, rfl, h⟩
      · exact fb h
      replace h := seeCons_use h
      rcases h with h | ⟨a17, q18, rfl, h⟩
      · exact fb h
      replace h := seeInts_use h
      rcases h with h | ⟨xs19, rfl, h⟩
      · exact fb h
      replace h := seeCons_use h
      rcases h with h | ⟨a20, q21, rfl, h⟩
      · exact fb h
      replace h := seeId_use h
      obtain ⟨i_m_1_0_0, rfl, h⟩ := h
      replace h := seeNil_use h
      rcases h with h | ⟨rfl, h⟩
      · exact fb h
      replace h := seeCons_use h
      rcases h with h | ⟨a22, q23, rfl, h⟩
      · exact fb h
      replace h := seeInts_use h
      rcases h with h | ⟨xs24, rfl, h⟩
      · exact fb h
      replace h := seeCons_use h
      rcases h with h | ⟨a25, q26, rfl, h⟩
      · exact fb h
      replace h := seeId_use h
      obtain ⟨i_m_1_1_0, rfl, h⟩ := h
      replace h := seeNil_use h
      rcases h with h | ⟨rfl, h⟩
      · exact fb h
      replace h := seeCons_use h
      rcases h with h | ⟨a27, q28, rfl, h⟩
      · exact fb h
      replace h := seeInts_use h
      rcases h with h | ⟨xs29, rfl, h⟩
      · exact fb h
      replace h := seeCons_use h
      rcases h with h | ⟨a30, q31, rfl, h⟩
      · exact fb h
      replace h := seeId_use h
      obtain ⟨i_m_1_2_0, rfl, h⟩ := h
      replace h := seeNil_use h
      rcases h with h | ⟨rfl, h⟩
      · exact fb h
      replace h := seeNil_use h
      rcases h with h | ⟨rfl, h⟩
      · exact fb h
      replace h := seeNil_use h
      rcases h with h | ⟨rfl, h⟩
      · exact fb h
      obtain ⟨rfl, n, h⟩ := h
      exact loop_use named C5_ok (LoopsOk.none _ _) (RL20_3_ok  K n _ _ _ _ _ _ _ _) h hS0 ha hJ hlen ⟨e1, e2, e3, e4, trivial⟩ (eqm ▸ hS2) hρ2 hd hQ
    · cases h
  · exact hW r lf h
theorem at20 : Tryz.prog.funcs[20]? = some (fnOf Tryz.prog 20) := by kernel_rfl
abbrev Y20 : Type := Int → Int → Int → List Int → List Int → List Int → (Int → Prop) → Prop
set_option maxHeartbeats 4000000 in
set_option maxRecDepth 100000 in
def F20  (l20_3 : YL20_3) (a : Int) (t : Int) (n : Int) (xs : List Int) (ts : List Int) (ns : List Int) (k1 : Int → Prop) : Prop :=
  (l20_3 XL20_3 (0 : Int) (0 : Int) xs ts ns a t n (fun (n1 : Int) => (k1 n1)))
theorem F20_ok  (l20_3 : YL20_3) (a : Int) (t : Int) (n : Int) (xs : List Int) (ts : List Int) (ns : List Int) (K : V → Mem → Prop) : cbody Tryz.prog C5 (WL20_3 l20_3 (fun _ => none)) 1000 (fnOf Tryz.prog 20) [(.sl 0 (0 : Nat) (none : Option Nat) (none : Option Nat)), (.agg [(.I .i64 a), (.I .i64 t), (.I .i64 n)])] [⟨[.ints .i64 xs, .ints .i64 ts, .ints .i64 ns], 47, false, false⟩] K =
    F20  l20_3 a t n xs ts ns (fun (u0 : Int) => K (.I .i64 u0) [⟨[.ints .i64 xs, .ints .i64 ts, .ints .i64 ns], 47, false, false⟩]) := by kernel_rfl
abbrev YL12_4 : Type := Code → Int → List Int → List Int → List Int → List Int → List Int → List Int → (Prop) → (Prop) → Prop
set_option maxHeartbeats 4000000 in
set_option maxRecDepth 100000 in
def HL12_4  (rec : Int → Prop) (i_5 : Int) (xs_m_0_0 : List Int) (xs_m_0_1 : List Int) (xs_m_0_2 : List Int) (xs_m_1_0 : List Int) (xs_m_1_1 : List Int) (xs_m_1_2 : List Int) (k1 : Prop) (k2 : Prop) : Prop :=
  (bif (decide (i_5 < ((((List.length xs_m_0_0) - (0 : Nat)) : Nat) : Int))) then (bif ((decide ((0 : Int) ≤ i_5)) && (decide (i_5 < ((((List.length xs_m_0_0) - (0 : Nat)) : Nat) : Int)))) then (bif ((decide ((0 : Int) ≤ i_5)) && (decide (i_5 < ((((List.length xs_m_1_0) - (0 : Nat)) : Nat) : Int)))) then (bif ((List.getD xs_m_0_0 (Int.toNat i_5) (0 : Int)) != (List.getD xs_m_1_0 (Int.toNat i_5) (0 : Int))) then (k1) else (bif ((decide ((0 : Int) ≤ i_5)) && (decide (i_5 < ((((List.length xs_m_0_0) - (0 : Nat)) : Nat) : Int)))) then (bif ((decide ((0 : Int) ≤ i_5)) && (decide (i_5 < ((((List.length xs_m_1_0) - (0 : Nat)) : Nat) : Int)))) then (bif ((List.getD xs_m_0_1 (Int.toNat i_5) (0 : Int)) != (List.getD xs_m_1_1 (Int.toNat i_5) (0 : Int))) then (k1) else (bif ((decide ((0 : Int) ≤ i_5)) && (decide (i_5 < ((((List.length xs_m_0_0) - (0 : Nat)) : Nat) : Int)))) then (bif ((decide ((0 : Int) ≤ i_5)) && (decide (i_5 < ((((List.length xs_m_1_0) - (0 : Nat)) : Nat) : Int)))) then (bif ((List.getD xs_m_0_2 (Int.toNat i_5) (0 : Int)) != (List.getD xs_m_1_2 (Int.toNat i_5) (0 : Int))) then (k1) else (rec (IntKind.wrap .i64 (i_5 + (1 : Int))))) else False) else False)) else False) else False)) else False) else False) else (k2))
def RL12_4  : Nat → Int → List Int → List Int → List Int → List Int → List Int → List Int → (Prop) → (Prop) → Prop
  | 0, _, _, _, _, _, _, _, _, _ => False
  | n + 1, i_5, xs_m_0_0, xs_m_0_1, xs_m_0_2, xs_m_1_0, xs_m_1_1, xs_m_1_2, k1, k2 => HL12_4  (fun (i_5 : Int) => RL12_4  n i_5 xs_m_0_0 xs_m_0_1 xs_m_0_2 xs_m_1_0 xs_m_1_1 xs_m_1_2 k1 k2) i_5 xs_m_0_0 xs_m_0_1 xs_m_0_2 xs_m_1_0 xs_m_1_1 xs_m_1_2 k1 k2
noncomputable def XL12_4 : Code := sub [true, true, false, true, false, false] (bodyOf Tryz.prog 12)
theorem HL12_4_ok  (n : Nat) (i_5 : Int) (xs_m_0_0 : List Int) (xs_m_0_1 : List Int) (xs_m_0_2 : List Int) (xs_m_1_0 : List Int) (xs_m_1_1 : List Int) (xs_m_1_2 : List Int) (K : Ex → Env → Mem → Prop) : cround 2 [0, 1, 5] [4] (fun ρ m K => cexec Tryz.prog C5 (fun _ => none) 2 1000 XL12_4 ρ m K) (n + 1) (selE 54 [(0, (.sl 0 (0 : Nat) (none : Option Nat) (none : Option Nat))), (1, (.sl 1 (0 : Nat) (none : Option Nat) (none : Option Nat))), (5, (.I .i64 i_5))]) [⟨[.ints .i64 xs_m_0_0, .ints .i64 xs_m_0_1, .ints .i64 xs_m_0_2], 47, false, false⟩, ⟨[.ints .i64 xs_m_1_0, .ints .i64 xs_m_1_1, .ints .i64 xs_m_1_2], 53, true, false⟩] K =
    HL12_4  (fun (i_5 : Int) => cround 2 [0, 1, 5] [4] (fun ρ m K => cexec Tryz.prog C5 (fun _ => none) 2 1000 XL12_4 ρ m K) n (selE 54 [(0, (.sl 0 (0 : Nat) (none : Option Nat) (none : Option Nat))), (1, (.sl 1 (0 : Nat) (none : Option Nat) (none : Option Nat))), (5, (.I .i64 i_5))]) [⟨[.ints .i64 xs_m_0_0, .ints .i64 xs_m_0_1, .ints .i64 xs_m_0_2], 47, false, false⟩, ⟨[.ints .i64 xs_m_1_0, .ints .i64 xs_m_1_1, .ints .i64 xs_m_1_2], 53, true, false⟩] K) i_5 xs_m_0_0 xs_m_0_1 xs_m_0_2 xs_m_1_0 xs_m_1_1 xs_m_1_2 (K .ret (selE 54 [(4, (.B false))]) [⟨[.ints .i64 xs_m_0_0, .ints .i64 xs_m_0_1, .ints .i64 xs_m_0_2], 47, false, false⟩, ⟨[.ints .i64 xs_m_1_0, .ints .i64 xs_m_1_1, .ints .i64 xs_m_1_2], 53, true, false⟩]) (K (.exit 0) (selE 54 [(4, .undef)]) [⟨[.ints .i64 xs_m_0_0, .ints .i64 xs_m_0_1, .ints .i64 xs_m_0_2], 47, false, false⟩, ⟨[.ints .i64 xs_m_1_0, .ints .i64 xs_m_1_1, .ints .i64 xs_m_1_2], 53, true, false⟩]) := by kernel_rfl
theorem RL12_4_ok  (K : Ex → Env → Mem → Prop) : ∀ (n : Nat) (i_5 : Int) (xs_m_0_0 : List Int) (xs_m_0_1 : List Int) (xs_m_0_2 : List Int) (xs_m_1_0 : List Int) (xs_m_1_1 : List Int) (xs_m_1_2 : List Int), cround 2 [0, 1, 5] [4] (fun ρ m K => cexec Tryz.prog C5 (fun _ => none) 2 1000 XL12_4 ρ m K) n (selE 54 [(0, (.sl 0 (0 : Nat) (none : Option Nat) (none : Option Nat))), (1, (.sl 1 (0 : Nat) (none : Option Nat) (none : Option Nat))), (5, (.I .i64 i_5))]) [⟨[.ints .i64 xs_m_0_0, .ints .i64 xs_m_0_1, .ints .i64 xs_m_0_2], 47, false, false⟩, ⟨[.ints .i64 xs_m_1_0, .ints .i64 xs_m_1_1, .ints .i64 xs_m_1_2], 53, true, false⟩] K = RL12_4  n i_5 xs_m_0_0 xs_m_0_1 xs_m_0_2 xs_m_1_0 xs_m_1_1 xs_m_1_2 (K .ret (selE 54 [(4, (.B false))]) [⟨[.ints .i64 xs_m_0_0, .ints .i64 xs_m_0_1, .ints .i64 xs_m_0_2], 47, false, false⟩, ⟨[.ints .i64 xs_m_1_0, .ints .i64 xs_m_1_1, .ints .i64 xs_m_1_2], 53, true, false⟩]) (K (.exit 0) (selE 54 [(4, .undef)]) [⟨[.ints .i64 xs_m_0_0, .ints .i64 xs_m_0_1, .ints .i64 xs_m_0_2], 47, false, false⟩, ⟨[.ints .i64 xs_m_1_0, .ints .i64 xs_m_1_1, .ints .i64 xs_m_1_2], 53, true, false⟩])
  | 0, i_5, xs_m_0_0, xs_m_0_1, xs_m_0_2, xs_m_1_0, xs_m_1_1, xs_m_1_2 => rfl
  | n + 1, i_5, xs_m_0_0, xs_m_0_1, xs_m_0_2, xs_m_1_0, xs_m_1_1, xs_m_1_2 => by
    have ih := RL12_4_ok  K n
    rw [HL12_4_ok  n i_5 xs_m_0_0 xs_m_0_1 xs_m_0_2 xs_m_1_0 xs_m_1_1 xs_m_1_2 K]
    show HL12_4  _ i_5 xs_m_0_0 xs_m_0_1 xs_m_0_2 xs_m_1_0 xs_m_1_1 xs_m_1_2 (K .ret (selE 54 [(4, (.B false))]) [⟨[.ints .i64 xs_m_0_0, .ints .i64 xs_m_0_1, .ints .i64 xs_m_0_2], 47, false, false⟩, ⟨[.ints .i64 xs_m_1_0, .ints .i64 xs_m_1_1, .ints .i64 xs_m_1_2], 53, true, false⟩]) (K (.exit 0) (selE 54 [(4, .undef)]) [⟨[.ints .i64 xs_m_0_0, .ints .i64 xs_m_0_1, .ints .i64 xs_m_0_2], 47, false, false⟩, ⟨[.ints .i64 xs_m_1_0, .ints .i64 xs_m_1_1, .ints .i64 xs_m_1_2], 53, true, false⟩]) = HL12_4  _ i_5 xs_m_0_0 xs_m_0_1 xs_m_0_2 xs_m_1_0 xs_m_1_1 xs_m_1_2 (K .ret (selE 54 [(4, (.B false))]) [⟨[.ints .i64 xs_m_0_0, .ints .i64 xs_m_0_1, .ints .i64 xs_m_0_2], 47, false, false⟩, ⟨[.ints .i64 xs_m_1_0, .ints .i64 xs_m_1_1, .ints .i64 xs_m_1_2], 53, true, false⟩]) (K (.exit 0) (selE 54 [(4, .undef)]) [⟨[.ints .i64 xs_m_0_0, .ints .i64 xs_m_0_1, .ints .i64 xs_m_0_2], 47, false, false⟩, ⟨[.ints .i64 xs_m_1_0, .ints .i64 xs_m_1_1, .ints .i64 xs_m_1_2], 53, true, false⟩])
    refine congrArg (fun r => HL12_4  r i_5 xs_m_0_0 xs_m_0_1 xs_m_0_2 xs_m_1_0 xs_m_1_1 xs_m_1_2 (K .ret (selE 54 [(4, (.B false))]) [⟨[.ints .i64 xs_m_0_0, .ints .i64 xs_m_0_1, .ints .i64 xs_m_0_2], 47, false, false⟩, ⟨[.ints .i64 xs_m_1_0, .ints .i64 xs_m_1_1, .ints .i64 xs_m_1_2], 53, true, false⟩]) (K (.exit 0) (selE 54 [(4, .undef)]) [⟨[.ints .i64 xs_m_0_0, .ints .i64 xs_m_0_1, .ints .i64 xs_m_0_2], 47, false, false⟩, ⟨[.ints .i64 xs_m_1_0, .ints .i64 xs_m_1_1, .ints .i64 xs_m_1_2], 53, true, false⟩])) ?_
    funext i_5
    exact ih i_5 xs_m_0_0 xs_m_0_1 xs_m_0_2 xs_m_1_0 xs_m_1_1 xs_m_1_2
def GL12_4 : YL12_4 := fun x i_5 xs_m_0_0 xs_m_0_1 xs_m_0_2 xs_m_1_0 xs_m_1_1 xs_m_1_2 k1 k2 => x = XL12_4 ∧ ∃ n, RL12_4  n i_5 xs_m_0_0 xs_m_0_1 xs_m_0_2 xs_m_1_0 xs_m_1_1 xs_m_1_2 k1 k2
def VL12_4 (l : YL12_4) (F : Prop) (x : Code) (ρ : Env) (m : Mem) (K : Ex → Env → Mem → Prop) : Prop :=
  match ρ.has (54 - 1) with
  | true => (seeV (.sl 0 (0 : Nat) (none : Option Nat) (none : Option Nat)) (ρ.get 0) F (seeV (.sl 1 (0 : Nat) (none : Option Nat) (none : Option Nat)) (ρ.get 1) F (seeI .i64 (ρ.get 5) F fun i_5 => (seeCons m F fun a4 q5 => (seeBlk 47 false false a4 F fun cs6 => (seeCons cs6 F fun a7 q8 => (seeInts .i64 a7 F fun xs_m_0_0 => (seeCons q8 F fun a9 q10 => (seeInts .i64 a9 F fun xs_m_0_1 => (seeCons q10 F fun a11 q12 => (seeInts .i64 a11 F fun xs_m_0_2 => (seeNil q12 F (seeCons q5 F fun a13 q14 => (seeBlk 53 true false a13 F fun cs15 => (seeCons cs15 F fun a16 q17 => (seeInts .i64 a16 F fun xs_m_1_0 => (seeCons q17 F fun a18 q19 => (seeInts .i64 a18 F fun xs_m_1_1 => (seeCons q19 F fun a20 q21 => (seeInts .i64 a20 F fun xs_m_1_2 => (seeNil q21 F (seeNil q14 F (l x i_5 xs_m_0_0 xs_m_0_1 xs_m_0_2 xs_m_1_0 xs_m_1_1 xs_m_1_2 (K .ret (selE 54 [(4, (.B false))]) [⟨[.ints .i64 xs_m_0_0, .ints .i64 xs_m_0_1, .ints .i64 xs_m_0_2], 47, false, false⟩, ⟨[.ints .i64 xs_m_1_0, .ints .i64 xs_m_1_1, .ints .i64 xs_m_1_2], 53, true, false⟩]) (K (.exit 0) (selE 54 [(4, .undef)]) [⟨[.ints .i64 xs_m_0_0, .ints .i64 xs_m_0_1, .ints .i64 xs_m_0_2], 47, false, false⟩, ⟨[.ints .i64 xs_m_1_0, .ints .i64 xs_m_1_1, .ints .i64 xs_m_1_2], 53, true, false⟩]))))))))))))))))))))))))
  | false => False
def WL12_4 (l : YL12_4) (W : Masks) : Masks := fun r =>
  match Nat.beq r 4 with
  | true => some fun x ρ m K => VL12_4 l (match W r with | some lf => lf x ρ m K | none => False) x (tidyE 2 [0, 1, 5] ρ m) (tidyM 2 [0, 1, 5] ρ m) K
  | false => W r
set_option maxRecDepth 100000 in
theorem WL12_4_ok {W : Masks} (hW : LoopsOk Tryz.prog 2 W) : LoopsOk Tryz.prog 2 (WL12_4 GL12_4 W) := by
  intro r lf h
  unfold WL12_4 at h
  split at h
  · cases h
    intro x E0 m0 w0 J hS0 ha hJ ρ m K E a w Q hS hρ hd h hQ
    have fb : (match W r with | some lf => lf x ρ m K | none => False) → (Code.loop x).wp Tryz.prog Q a w := fun h => by
      split at h
      · rename_i lf hlf
        exact hW r lf hlf x hS0 ha hJ ρ m K E a w Q hS hρ hd h hQ
      · cases h
    obtain ⟨E2, hS2, hρ2⟩ := tidy_rel hS0 hS hρ [0, 1, 5]
    rw [ha] at hS2 hρ2
    unfold VL12_4 at h
    split at h
    · rename_i hlen
      replace h := seeV_use h
      rcases h with h | ⟨e1, h⟩
      · exact fb h
      replace h := seeV_use h
      rcases h with h | ⟨e2, h⟩
      · exact fb h
      replace h := seeI_use h
      rcases h with h | ⟨i_5, e3, h⟩
      · exact fb h
      replace h := seeCons_use h
      rcases h with h | ⟨a4, q5, eqm, h⟩
      · exact fb h
      replace h := seeBlk_use h
      rcases h with h | ⟨cs6, rfl, h⟩
      · exact fb h
      replace h := seeCons_use h
      rcases h with h | ⟨a7, q8, rfl, h⟩
      · exact fb h
      replace h := seeInts_use h
      rcases h with h | ⟨xs_m_0_0, rfl, h⟩
      · exact fb h
      replace h := seeCons_use h
      rcases h with h | ⟨a9, q10, rfl, h⟩
      · exact fb h
      replace h := seeInts_use h
      rcases h with h | ⟨xs_m_0_1, rfl, h⟩
      · exact fb h
      replace h := seeCons_use h
      rcases h with h | ⟨a11, q12, rfl, h⟩
      · exact fb h
      replace h := seeInts_use h
      rcases h with h | ⟨xs_m_0_2, rfl, h⟩
      · exact fb h
      replace h := seeNil_use h
      rcases h with h | ⟨rfl, h⟩
      · exact fb h
      replace h := seeCons_use h
      rcases h with h | ⟨a13, q14, rfl, h⟩
      · exact fb h
      replace h := seeBlk_use h
      rcases h with h | ⟨cs15, rfl, h⟩
      · exact fb h
      replace h := seeCons_use h
      rcases h with h | ⟨a16, q17, rfl, h⟩
      · exact fb h
      replace h := seeInts_use h
      rcases h with h | ⟨xs_m_1_0, rfl, h⟩
      · exact fb h
      replace h := seeCons_use h
      rcases h with h | ⟨a18, q19, rfl, h⟩
      · exact fb h
      replace h := seeInts_use h
      rcases h with h | ⟨xs_m_1_1, rfl, h⟩
      · exact fb h
      replace h := seeCons_use h
      rcases h with h | ⟨a20, q21, rfl, h⟩
      · exact fb h
      replace h := seeInts_use h
      rcases h with h | ⟨xs_m_1_2, rfl, h⟩
      · exact fb h
      replace h := seeNil_use h
      rcases h with h | ⟨rfl, h⟩
      · exact fb h
      replace h := seeNil_use h
      rcases h with h | ⟨rfl, h⟩
      · exact fb h
      obtain ⟨rfl, n, h⟩ := h
      exact loop_use named C5_ok (LoopsOk.none _ _) (RL12_4_ok  K n _ _ _ _ _ _ _) h hS0 ha hJ hlen ⟨e1, e2, e3, trivial⟩ (eqm ▸ hS2) hρ2 hd hQ
    · cases h
  · exact hW r lf h
theorem at12 : Tryz.prog.funcs[12]? = some (fnOf Tryz.prog 12) := by kernel_rfl
abbrev Y12 : Type := List Int → List Int → List Int → List Int → List Int → List Int → (Prop) → (Prop) → Prop
set_option maxHeartbeats 4000000 in
set_option maxRecDepth 100000 in
def F12  (l12_4 : YL12_4) (xs : List Int) (ts : List Int) (ns : List Int) (ys : List Int) (us : List Int) (vs : List Int) (k1 : Prop) (k2 : Prop) : Prop :=
  (bif (((((List.length xs) - (0 : Nat)) : Nat) : Int) != ((((List.length ys) - (0 : Nat)) : Nat) : Int)) then (k1) else (l12_4 XL12_4 (0 : Int) xs ts ns ys us vs ((k1)) ((k2))))
theorem F12_ok  (l12_4 : YL12_4) (xs : List Int) (ts : List Int) (ns : List Int) (ys : List Int) (us : List Int) (vs : List Int) (K : V → Mem → Prop) : cbody Tryz.prog C5 (WL12_4 l12_4 (fun _ => none)) 1000 (fnOf Tryz.prog 12) [(.sl 0 (0 : Nat) (none : Option Nat) (none : Option Nat)), (.sl 1 (0 : Nat) (none : Option Nat) (none : Option Nat))] [⟨[.ints .i64 xs, .ints .i64 ts, .ints .i64 ns], 47, false, false⟩, ⟨[.ints .i64 ys, .ints .i64 us, .ints .i64 vs], 53, true, false⟩] K =
    F12  l12_4 xs ts ns ys us vs (K (.B false) [⟨[.ints .i64 xs, .ints .i64 ts, .ints .i64 ns], 47, false, false⟩, ⟨[.ints .i64 ys, .ints .i64 us, .ints .i64 vs], 53, true, false⟩]) (K (.B true) [⟨[.ints .i64 xs, .ints .i64 ts, .ints .i64 ns], 47, false, false⟩, ⟨[.ints .i64 ys, .ints .i64 us, .ints .i64 vs], 53, true, false⟩]) := by kernel_rfl
def sm (n : Nat) : Prop := n ≤ 1048576
theorem small_of {n : Nat} (h : sm n) : small n := by unfold sm at h; unfold small; omega
theorem gI {f : R → Int} {L A B : List R} {x : R} {i : Nat} (h : L = A ++ x :: B) (hi : i = A.length) : List.getD (L.map f) i 0 = f x := getD_is h hi
theorem r_eq (x y : R) : x = y ↔ f1 x = f1 y ∧ f2 x = f2 y ∧ f3 x = f3 y := by
  obtain ⟨a, b, c⟩ := x
  obtain ⟨a', b', c'⟩ := y
  simp [f1, f2, f3]
def recS (xs ts ns : List Int) (Q : Prop) : Prop := ∃ rs : List R, is3 rs xs ts ns ∧ sm rs.length ∧ Q
def srtS (xs ts ns : List Int) (k : KK) : Prop := ∃ rs : List R, is3 rs xs ts ns ∧ sm rs.length ∧ rs ≠ [] ∧ ∀ s', Srt ltR s' → Same ltR rs s' → put3 k s'
def samS (xs ts ns ys us vs : List Int) (k : Bool → Prop) : Prop := ∃ ra rb : List R, is3 ra xs ts ns ∧ is3 rb ys us vs ∧ sm ra.length ∧ sm rb.length ∧ k (decide (ra = rb))
def cntS (xs ts ns : List Int) (a t n : Int) (k : Int → Prop) : Prop := ∃ rs : List R, is3 rs xs ts ns ∧ sm rs.length ∧ k ((rs.count (a, t, n) : Nat) : Int)
theorem rec_in : ∀ (T A : List R) (k : KK), sm (A ++ T).length → put3 k (A ++ T) →
    RL5_3 (T.length + 1) ((A.length : Nat) : Int) ((A ++ T).map f1) ((A ++ T).map f2) ((A ++ T).map f3) (A.map f1) (A.map f2) (A.map f3) k
  | [], A, k, hs, hk => by
    show HL5_3 _ _ _ _ _ _ _ _ _
    unfold HL5_3
    rw [decide_eq_false (by simp : ¬ ((A.length : Nat) : Int) < (((List.length ((A ++ ([] : List R)).map f1) - (0 : Nat) : Nat)) : Int))]
    rw [List.append_nil] at hk
    exact hk
  | x :: T, A, k, hs, hk => by
    have hs' : A.length + (T.length + 1) ≤ 1048576 := by have := hs; unfold sm at this; simpa using this
    have ih := rec_in T (A ++ [x]) k (by unfold sm; simp; omega) (by simpa using hk)
    have ei : IntKind.wrap .i64 (((A.length : Nat) : Int) + 1) = (((A ++ [x]).length : Nat) : Int) := by rw [w64 (by omega) (by omega)]; simp
    show HL5_3 _ _ _ _ _ _ _ _ _
    unfold HL5_3
    rw [decide_eq_true (by simp; omega : ((A.length : Nat) : Int) < (((List.length ((A ++ x :: T).map f1) - (0 : Nat) : Nat)) : Int)), ei]
    simp only [Int.toNat_natCast]
    rw [decide_eq_true (Int.natCast_nonneg A.length : (0 : Int) ≤ ((A.length : Nat) : Int)), getD_at f1, getD_at f2, getD_at f3]
    rw [decide_eq_true (by simp; omega : (List.length (A.map f1) - 0 + 1) * 24 ≤ 140737488355328), decide_eq_true (by simp; omega : List.length (A.map f1) - 0 + 1 ≤ 140737488355328)]
    simp only [beq_self_eq_true, Bool.and_true, Bool.and_self, cond_true]
    have e : ∀ f : R → Int, A.map f ++ [f x] = (A ++ [x]).map f := fun f => by simp
    rw [e f1, e f2, e f3]
    have e2 : A ++ x :: T = A ++ [x] ++ T := by simp
    rw [e2]
    exact ih
theorem sam_in (k1 k2 : Prop) : ∀ (T T' A A' : List R), T.length = T'.length → A.length = A'.length → sm (A ++ T).length → (T = T' → k2) → (T ≠ T' → k1) →
    RL19_4 (T.length + 1) ((A.length : Nat) : Int) ((A ++ T).map f1) ((A ++ T).map f2) ((A ++ T).map f3) ((A' ++ T').map f1) ((A' ++ T').map f2) ((A' ++ T').map f3) k1 k2
  | [], [], A, A', _, hA, hs, h2, h1 => by
    show HL19_4 _ _ _ _ _ _ _ _ _ _
    unfold HL19_4
    rw [decide_eq_false (by simp : ¬ ((A.length : Nat) : Int) < (((List.length ((A ++ ([] : List R)).map f1) - (0 : Nat) : Nat)) : Int))]
    exact h2 rfl
  | x :: T, y :: T', A, A', hT, hA, hs, h2, h1 => by
    have hs' : A.length + (T.length + 1) ≤ 1048576 := by have := hs; unfold sm at this; simpa using this
    have ei : IntKind.wrap .i64 (((A.length : Nat) : Int) + 1) = (((A ++ [x]).length : Nat) : Int) := by rw [w64 (by omega) (by omega)]; simp
    show HL19_4 _ _ _ _ _ _ _ _ _ _
    unfold HL19_4
    rw [decide_eq_true (by simp; omega : ((A.length : Nat) : Int) < (((List.length ((A ++ x :: T).map f1) - (0 : Nat) : Nat)) : Int)), ei]
    simp only [Int.toNat_natCast]
    rw [inb (L := A' ++ y :: T') (by simp; omega), decide_eq_true (Int.natCast_nonneg A.length : (0 : Int) ≤ ((A.length : Nat) : Int)), getD_at f1, getD_at f2, getD_at f3, gI (f := f1) (L := A' ++ y :: T') rfl hA, gI (f := f2) (L := A' ++ y :: T') rfl hA, gI (f := f3) (L := A' ++ y :: T') rfl hA]
    simp only [cond_true, Bool.and_self]
    by_cases hxy : x = y
    · subst hxy
      simp only [beq_self_eq_true, Bool.and_true, Bool.not_true, cond_false]
      have ih := sam_in k1 k2 T T' (A ++ [x]) (A' ++ [x]) (by simpa using hT) (by simpa using hA) (by unfold sm; simp; omega) (fun h => h2 (by rw [h])) (fun h => h1 (by simpa using h))
      have e1 : A ++ x :: T = A ++ [x] ++ T := by simp
      have e2 : A' ++ x :: T' = A' ++ [x] ++ T' := by simp
      rw [e1, e2]
      exact ih
    · have hne : ((f1 x == f1 y) && ((f2 x == f2 y) && ((f3 x == f3 y) && true))) = false := by
        rw [r_eq] at hxy
        simp only [Bool.and_true, Bool.and_eq_false_iff, beq_eq_false_iff_ne, ne_eq]
        by_cases q1 : f1 x = f1 y
        · by_cases q2 : f2 x = f2 y
          · exact .inr (.inr fun q3 => hxy ⟨q1, q2, q3⟩)
          · exact .inr (.inl q2)
        · exact .inl q1
      rw [hne]
      exact h1 (by intro h; exact hxy (List.cons.inj h).1)
theorem sam_in12 (k1 k2 : Prop) : ∀ (T T' A A' : List R), T.length = T'.length → A.length = A'.length → sm (A ++ T).length → (T = T' → k2) → (T ≠ T' → k1) →
    RL12_4 (T.length + 1) ((A.length : Nat) : Int) ((A ++ T).map f1) ((A ++ T).map f2) ((A ++ T).map f3) ((A' ++ T').map f1) ((A' ++ T').map f2) ((A' ++ T').map f3) k1 k2
  | [], [], A, A', _, hA, hs, h2, h1 => by
    show HL12_4 _ _ _ _ _ _ _ _ _ _
    unfold HL12_4
    rw [decide_eq_false (by simp : ¬ ((A.length : Nat) : Int) < (((List.length ((A ++ ([] : List R)).map f1) - (0 : Nat) : Nat)) : Int))]
    exact h2 rfl
  | x :: T, y :: T', A, A', hT, hA, hs, h2, h1 => by
    have hs' : A.length + (T.length + 1) ≤ 1048576 := by have := hs; unfold sm at this; simpa using this
    have ei : IntKind.wrap .i64 (((A.length : Nat) : Int) + 1) = (((A ++ [x]).length : Nat) : Int) := by rw [w64 (by omega) (by omega)]; simp
    show HL12_4 _ _ _ _ _ _ _ _ _ _
    unfold HL12_4
    rw [decide_eq_true (by simp; omega : ((A.length : Nat) : Int) < (((List.length ((A ++ x :: T).map f1) - (0 : Nat) : Nat)) : Int)), ei]
    simp only [Int.toNat_natCast]
    rw [inb (L := A' ++ y :: T') (by simp; omega), decide_eq_true (Int.natCast_nonneg A.length : (0 : Int) ≤ ((A.length : Nat) : Int)), getD_at f1, getD_at f2, getD_at f3, gI (f := f1) (L := A' ++ y :: T') rfl hA, gI (f := f2) (L := A' ++ y :: T') rfl hA, gI (f := f3) (L := A' ++ y :: T') rfl hA]
    simp only [cond_true, Bool.and_self]
    by_cases hxy : x = y
    · subst hxy
      simp only [bne_self_eq_false, cond_false]
      have ih := sam_in12 k1 k2 T T' (A ++ [x]) (A' ++ [x]) (by simpa using hT) (by simpa using hA) (by unfold sm; simp; omega) (fun h => h2 (by rw [h])) (fun h => h1 (by simpa using h))
      have e1 : A ++ x :: T = A ++ [x] ++ T := by simp
      have e2 : A' ++ x :: T' = A' ++ [x] ++ T' := by simp
      rw [e1, e2]
      exact ih
    · have k := h1 (by intro h; exact hxy (List.cons.inj h).1)
      rw [r_eq] at hxy
      by_cases q1 : f1 x = f1 y
      · rw [(by simpa using q1 : (f1 x != f1 y) = false)]
        simp only [cond_false]
        by_cases q2 : f2 x = f2 y
        · rw [(by simpa using q2 : (f2 x != f2 y) = false)]
          simp only [cond_false]
          rw [(by simpa using fun q3 => hxy ⟨q1, q2, q3⟩ : (f3 x != f3 y) = true)]
          exact k
        · rw [(by simpa using q2 : (f2 x != f2 y) = true)]
          exact k
      · rw [(by simpa using q1 : (f1 x != f1 y) = true)]
        exact k
theorem cnt_in (y : R) (k : Int → Prop) : ∀ (T A : List R) (c : Nat), sm (A ++ T).length → c ≤ A.length → k ((c + T.count y : Nat) : Int) →
    RL20_3 (T.length + 1) ((c : Nat) : Int) ((A.length : Nat) : Int) ((A ++ T).map f1) ((A ++ T).map f2) ((A ++ T).map f3) (f1 y) (f2 y) (f3 y) k
  | [], A, c, hs, hc, hk => by
    show HL20_3 _ _ _ _ _ _ _ _ _ _
    unfold HL20_3
    rw [decide_eq_false (by simp : ¬ ((A.length : Nat) : Int) < (((List.length ((A ++ ([] : List R)).map f1) - (0 : Nat) : Nat)) : Int))]
    simpa using hk
  | x :: T, A, c, hs, hc, hk => by
    have hs' : A.length + (T.length + 1) ≤ 1048576 := by have := hs; unfold sm at this; simpa using this
    have ei : IntKind.wrap .i64 (((A.length : Nat) : Int) + 1) = (((A ++ [x]).length : Nat) : Int) := by rw [w64 (by omega) (by omega)]; simp
    have ec : IntKind.wrap .i64 (((c : Nat) : Int) + 1) = ((c + 1 : Nat) : Int) := by rw [w64 (by omega) (by omega)]; omega
    show HL20_3 _ _ _ _ _ _ _ _ _ _
    unfold HL20_3
    rw [decide_eq_true (by simp; omega : ((A.length : Nat) : Int) < (((List.length ((A ++ x :: T).map f1) - (0 : Nat) : Nat)) : Int)), ei, ec]
    simp only [Int.toNat_natCast]
    rw [decide_eq_true (Int.natCast_nonneg A.length : (0 : Int) ≤ ((A.length : Nat) : Int)), getD_at f1, getD_at f2, getD_at f3]
    simp only [cond_true, Bool.and_self]
    have e1 : A ++ x :: T = A ++ [x] ++ T := by simp
    by_cases hxy : x = y
    · subst hxy
      simp only [beq_self_eq_true, Bool.and_true, cond_true]
      have ih := cnt_in x k T (A ++ [x]) (c + 1) (by unfold sm; simp; omega) (by simp; omega) (by
        have : (x :: T).count x = T.count x + 1 := by simp
        rw [this] at hk
        have e : c + 1 + T.count x = c + (T.count x + 1) := by omega
        rw [e]; exact hk)
      rw [e1]
      exact ih
    · have hne : ((f1 x == f1 y) && ((f2 x == f2 y) && ((f3 x == f3 y) && true))) = false := by
        have hxy := hxy
        rw [r_eq] at hxy
        simp only [Bool.and_true, Bool.and_eq_false_iff, beq_eq_false_iff_ne, ne_eq]
        by_cases q1 : f1 x = f1 y
        · by_cases q2 : f2 x = f2 y
          · exact .inr (.inr fun q3 => hxy ⟨q1, q2, q3⟩)
          · exact .inr (.inl q2)
        · exact .inl q1
      rw [hne]
      have ih := cnt_in y k T (A ++ [x]) c (by unfold sm; simp; omega) (by simp; omega) (by rw [List.count_cons_of_ne hxy] at hk; exact hk)
      rw [e1]
      exact ih
theorem h5 {xs ts ns : List Int} {k : KK} (h : recS xs ts ns (k xs ts ns)) : F5 GL5_3 xs ts ns k := by
  obtain ⟨rs, ⟨rfl, rfl, rfl⟩, hs, hk⟩ := h
  exact ⟨rfl, rs.length + 1, rec_in rs [] k (by simpa using hs) hk⟩
theorem h6 {xs ts ns : List Int} {k : KK} (h : srtS xs ts ns k) : F6 xs ts ns k := by
  obtain ⟨rs, ⟨rfl, rfl, rfl⟩, hs, hne, hk⟩ := h
  have hp := List.length_pos_iff.2 hne
  have hs' : rs.length ≤ 1048576 := hs
  unfold F6
  rw [(by simp [Nat.blt]; omega : Nat.blt 0 (List.length (rs.map f1) - 0) = true), decide_eq_true (by simp; omega : (0 + (List.length (rs.map f1) - 0)) * 24 ≤ 140737488355328), decide_eq_true (by simp; omega : 0 + (List.length (rs.map f1) - 0) ≤ 140737488355328)]
  exact ⟨rs, ⟨rfl, rfl, rfl⟩, small_of hs, by simp, hk⟩
theorem h19 {xs ts ns ys us vs : List Int} {k : Bool → Prop} (h : samS xs ts ns ys us vs k) : F19 GL19_4 xs ts ns ys us vs (k false) (k true) := by
  obtain ⟨ra, rb, ⟨rfl, rfl, rfl⟩, ⟨rfl, rfl, rfl⟩, ha, hb, hk⟩ := h
  unfold F19
  by_cases hl : ra.length = rb.length
  · rw [(by simp; omega : ((((List.length (ra.map f1) - (0 : Nat) : Nat)) : Int) != (((List.length (rb.map f1) - (0 : Nat) : Nat)) : Int)) = false)]
    exact ⟨rfl, ra.length + 1, sam_in _ _ ra rb [] [] hl rfl (by simpa using ha) (fun h => by rw [decide_eq_true h] at hk; exact hk) (fun h => by rw [decide_eq_false h] at hk; exact hk)⟩
  · rw [(by simp; omega : ((((List.length (ra.map f1) - (0 : Nat) : Nat)) : Int) != (((List.length (rb.map f1) - (0 : Nat) : Nat)) : Int)) = true)]
    rw [decide_eq_false (by intro h; exact hl (by rw [h]))] at hk
    exact hk
theorem h12 {xs ts ns ys us vs : List Int} {k : Bool → Prop} (h : samS xs ts ns ys us vs k) : F12 GL12_4 xs ts ns ys us vs (k false) (k true) := by
  obtain ⟨ra, rb, ⟨rfl, rfl, rfl⟩, ⟨rfl, rfl, rfl⟩, ha, hb, hk⟩ := h
  unfold F12
  by_cases hl : ra.length = rb.length
  · rw [(by simp; omega : ((((List.length (ra.map f1) - (0 : Nat) : Nat)) : Int) != (((List.length (rb.map f1) - (0 : Nat) : Nat)) : Int)) = false)]
    exact ⟨rfl, ra.length + 1, sam_in12 _ _ ra rb [] [] hl rfl (by simpa using ha) (fun h => by rw [decide_eq_true h] at hk; exact hk) (fun h => by rw [decide_eq_false h] at hk; exact hk)⟩
  · rw [(by simp; omega : ((((List.length (ra.map f1) - (0 : Nat) : Nat)) : Int) != (((List.length (rb.map f1) - (0 : Nat) : Nat)) : Int)) = true)]
    rw [decide_eq_false (by intro h; exact hl (by rw [h]))] at hk
    exact hk
theorem h20 {xs ts ns : List Int} {a t n : Int} {k : Int → Prop} (h : cntS xs ts ns a t n k) : F20 GL20_3 a t n xs ts ns k := by
  obtain ⟨rs, ⟨rfl, rfl, rfl⟩, hs, hk⟩ := h
  refine ⟨rfl, rs.length + 1, ?_⟩
  have := cnt_in (a, t, n) k rs [] 0 (by simpa using hs) (Nat.le_refl _) (by rw [Nat.zero_add]; exact hk)
  exact this
def P5 : Prim := fun args m K =>
  match args, m with
  | [.sl 0 0 none none], [⟨[.ints .i64 xs, .ints .i64 ts, .ints .i64 ns], e, true, false⟩] =>
    (match Nat.beq e 53 with | true => recS xs ts ns (K (.sl 1 0 none none) [⟨[.ints .i64 xs, .ints .i64 ts, .ints .i64 ns], 53, true, false⟩, ⟨[.ints .i64 xs, .ints .i64 ts, .ints .i64 ns], 47, false, true⟩]) | false => False)
  | _, _ => False
theorem P5_ok : PrimOk Tryz.prog 5 P5 := by
  intro args m K E w cargs hS ha h
  unfold P5 at h
  split at h
  · rename_i xs ts ns e
    split at h
    · rename_i he
      obtain rfl := Nat.eq_of_beq_eq_true he
      exact cbody_use named C5_ok at5 (l := 1) rfl (WL5_3_ok (LoopsOk.none _ _)) (F5_ok GL5_3 xs ts ns K) hS ha (h5 (k := fun u0 u1 u2 => K (.sl 1 0 none none) [⟨[.ints .i64 xs, .ints .i64 ts, .ints .i64 ns], 53, true, false⟩, ⟨[.ints .i64 u0, .ints .i64 u1, .ints .i64 u2], 47, false, true⟩]) h)
    · cases h
  · cases h
def P6 : Prim := fun args m K =>
  match args, m with
  | [.sl 0 0 none none], [⟨[.ints .i64 xs, .ints .i64 ts, .ints .i64 ns], e, false, false⟩] =>
    (match Nat.beq e 47 with | true => srtS xs ts ns (fun x t n => K (.sl 1 0 none none) [⟨[.ints .i64 xs, .ints .i64 ts, .ints .i64 ns], 47, false, false⟩, ⟨[.ints .i64 x, .ints .i64 t, .ints .i64 n], 47, false, true⟩]) | false => False)
  | _, _ => False
theorem P6_ok : PrimOk Tryz.prog 6 P6 := by
  intro args m K E w cargs hS ha h
  unfold P6 at h
  split at h
  · rename_i xs ts ns e
    split at h
    · rename_i he
      obtain rfl := Nat.eq_of_beq_eq_true he
      exact cbody_use named C5_ok at6 (l := 1) rfl (LoopsOk.none _ _) (F6_ok xs ts ns K) hS ha (h6 h)
    · cases h
  · cases h
def P19 : Prim := fun args m K =>
  match args, m with
  | [.sl 0 0 none none, .sl 1 0 none none], [⟨[.ints .i64 xs, .ints .i64 ts, .ints .i64 ns], e, false, false⟩, ⟨[.ints .i64 ys, .ints .i64 us, .ints .i64 vs], e', false, false⟩] =>
    (match Nat.beq e 47 && Nat.beq e' 47 with | true => samS xs ts ns ys us vs (fun b => K (.B b) [⟨[.ints .i64 xs, .ints .i64 ts, .ints .i64 ns], 47, false, false⟩, ⟨[.ints .i64 ys, .ints .i64 us, .ints .i64 vs], 47, false, false⟩]) | false => False)
  | _, _ => False
theorem P19_ok : PrimOk Tryz.prog 19 P19 := by
  intro args m K E w cargs hS ha h
  unfold P19 at h
  split at h
  · rename_i xs ts ns e ys us vs e'
    split at h
    · rename_i he
      simp only [Bool.and_eq_true] at he
      obtain rfl := Nat.eq_of_beq_eq_true he.1
      obtain rfl := Nat.eq_of_beq_eq_true he.2
      exact cbody_use named C5_ok at19 (l := 2) rfl (WL19_4_ok (LoopsOk.none _ _)) (F19_ok GL19_4 xs ts ns ys us vs K) hS ha (h19 h)
    · cases h
  · cases h
def P12 : Prim := fun args m K =>
  match args, m with
  | [.sl 0 0 none none, .sl 1 0 none none], [⟨[.ints .i64 xs, .ints .i64 ts, .ints .i64 ns], e, false, false⟩, ⟨[.ints .i64 ys, .ints .i64 us, .ints .i64 vs], e', true, false⟩] =>
    (match Nat.beq e 47 && Nat.beq e' 53 with | true => samS xs ts ns ys us vs (fun b => K (.B b) [⟨[.ints .i64 xs, .ints .i64 ts, .ints .i64 ns], 47, false, false⟩, ⟨[.ints .i64 ys, .ints .i64 us, .ints .i64 vs], 53, true, false⟩]) | false => False)
  | _, _ => False
theorem P12_ok : PrimOk Tryz.prog 12 P12 := by
  intro args m K E w cargs hS ha h
  unfold P12 at h
  split at h
  · rename_i xs ts ns e ys us vs e'
    split at h
    · rename_i he
      simp only [Bool.and_eq_true] at he
      obtain rfl := Nat.eq_of_beq_eq_true he.1
      obtain rfl := Nat.eq_of_beq_eq_true he.2
      exact cbody_use named C5_ok at12 (l := 2) rfl (WL12_4_ok (LoopsOk.none _ _)) (F12_ok GL12_4 xs ts ns ys us vs K) hS ha (h12 h)
    · cases h
  · cases h
def P20 : Prim := fun args m K =>
  match args, m with
  | [.sl 0 0 none none, .agg [.I .i64 a, .I .i64 t, .I .i64 n]], [⟨[.ints .i64 xs, .ints .i64 ts, .ints .i64 ns], e, false, false⟩] =>
    (match Nat.beq e 47 with | true => cntS xs ts ns a t n (fun c => K (.I .i64 c) [⟨[.ints .i64 xs, .ints .i64 ts, .ints .i64 ns], 47, false, false⟩]) | false => False)
  | _, _ => False
theorem P20_ok : PrimOk Tryz.prog 20 P20 := by
  intro args m K E w cargs hS ha h
  unfold P20 at h
  split at h
  · rename_i a t n xs ts ns e
    split at h
    · rename_i he
      obtain rfl := Nat.eq_of_beq_eq_true he
      exact cbody_use named C5_ok at20 (l := 1) rfl (WL20_3_ok (LoopsOk.none _ _)) (F20_ok GL20_3 a t n xs ts ns K) hS ha (h20 h)
    · cases h
  · cases h
end Go.Proofs.YtgflbmcmkjkmmaaGreat.so
