import Derived.Test.YtoikimbpbcjnkaaGreatIm3
set_option linter.unusedVariables false
set_option linter.unusedSimpArgs false
set_option maxHeartbeats 4000000
set_option maxRecDepth 100000
namespace Go.Proofs.YtoikimbpbcjnkaaGreat.img
open Go Go.Ab
abbrev YL4_2 : Type := Code → Int → List Int → Int → Int → List (List Int) → List Int → List Int → List Int → List Int → (Int → Prop) → (Prop) → Prop
set_option maxHeartbeats 4000000 in
set_option maxRecDepth 100000 in
def HL4_2  (rec : Int → Prop) (i_1 : Int) (xs_2 : List Int) (i_14 : Int) (i_15 : Int) (ss_m_0_0 : List (List Int)) (xs_m_0_1 : List Int) (xs_m_0_2 : List Int) (xs_m_0_3 : List Int) (xs_m_0_4 : List Int) (k1 : Int → Prop) (k2 : Prop) : Prop :=
  (bif (decide (i_15 < i_14)) then (bif ((decide ((0 : Int) ≤ i_15)) && (decide (i_15 < ((((List.length ss_m_0_0) - (0 : Nat)) : Nat) : Int)))) then (bif ((List.getD xs_m_0_1 (Int.toNat i_15) (0 : Int)) == i_1) then (bif ((List.getD ss_m_0_0 (Int.toNat i_15) ([] : List Int)) == xs_2) then (k1 (List.getD xs_m_0_2 (Int.toNat i_15) (0 : Int))) else (rec (IntKind.wrap .i64 (i_15 + (1 : Int))))) else (rec (IntKind.wrap .i64 (i_15 + (1 : Int))))) else False) else (k2))
def RL4_2  : Nat → Int → List Int → Int → Int → List (List Int) → List Int → List Int → List Int → List Int → (Int → Prop) → (Prop) → Prop
  | 0, _, _, _, _, _, _, _, _, _, _, _ => False
  | n + 1, i_1, xs_2, i_14, i_15, ss_m_0_0, xs_m_0_1, xs_m_0_2, xs_m_0_3, xs_m_0_4, k1, k2 => HL4_2  (fun (i_15 : Int) => RL4_2  n i_1 xs_2 i_14 i_15 ss_m_0_0 xs_m_0_1 xs_m_0_2 xs_m_0_3 xs_m_0_4 k1 k2) i_1 xs_2 i_14 i_15 ss_m_0_0 xs_m_0_1 xs_m_0_2 xs_m_0_3 xs_m_0_4 k1 k2
noncomputable def XL4_2 : Code := sub [true, false, true, false, false] (bodyOf Tryz.prog 4)
theorem HL4_2_ok  (n : Nat) (i_1 : Int) (xs_2 : List Int) (i_14 : Int) (i_15 : Int) (ss_m_0_0 : List (List Int)) (xs_m_0_1 : List Int) (xs_m_0_2 : List Int) (xs_m_0_3 : List Int) (xs_m_0_4 : List Int) (K : Ex → Env → Mem → Prop) : cround 1 [1, 2, 3, 13, 14, 15] [2, 3, 6, 7] (fun ρ m K => cexec Tryz.prog C3 (fun _ => none) 1 1000 XL4_2 ρ m K) (n + 1) (selE 46 [(1, (.I .i64 i_1)), (2, (.S xs_2)), (3, (.ptr 1 (0 : Nat) 0)), (13, (.sl 0 (0 : Nat) (none : Option Nat) (none : Option Nat))), (14, (.I .i64 i_14)), (15, (.I .i64 i_15))]) [⟨[.strs ss_m_0_0, .ints .i64 xs_m_0_1, .ints .i64 xs_m_0_2, .ints .i64 xs_m_0_3, .ints .i64 xs_m_0_4], 30, false, false⟩, ⟨[.vals [.nils], .ints .i64 ([(0 : Int)] : List Int), .ints .i64 ([(0 : Int)] : List Int), .ints .i64 ([(0 : Int)] : List Int), .ints .i64 ([(0 : Int)] : List Int), .vals [(.sl 0 (0 : Nat) (none : Option Nat) (none : Option Nat))], .vals [.nils], .vals [.nils]], 27, false, true⟩] K =
    HL4_2  (fun (i_15 : Int) => cround 1 [1, 2, 3, 13, 14, 15] [2, 3, 6, 7] (fun ρ m K => cexec Tryz.prog C3 (fun _ => none) 1 1000 XL4_2 ρ m K) n (selE 46 [(1, (.I .i64 i_1)), (2, (.S xs_2)), (3, (.ptr 1 (0 : Nat) 0)), (13, (.sl 0 (0 : Nat) (none : Option Nat) (none : Option Nat))), (14, (.I .i64 i_14)), (15, (.I .i64 i_15))]) [⟨[.strs ss_m_0_0, .ints .i64 xs_m_0_1, .ints .i64 xs_m_0_2, .ints .i64 xs_m_0_3, .ints .i64 xs_m_0_4], 30, false, false⟩, ⟨[.vals [.nils], .ints .i64 ([(0 : Int)] : List Int), .ints .i64 ([(0 : Int)] : List Int), .ints .i64 ([(0 : Int)] : List Int), .ints .i64 ([(0 : Int)] : List Int), .vals [(.sl 0 (0 : Nat) (none : Option Nat) (none : Option Nat))], .vals [.nils], .vals [.nils]], 27, false, true⟩] K) i_1 xs_2 i_14 i_15 ss_m_0_0 xs_m_0_1 xs_m_0_2 xs_m_0_3 xs_m_0_4 (fun (u0 : Int) => K .ret (selE 46 [(2, (.S xs_2)), (3, (.ptr 1 (0 : Nat) 0)), (6, (.I .i64 u0)), (7, (.B true))]) [⟨[.strs ss_m_0_0, .ints .i64 xs_m_0_1, .ints .i64 xs_m_0_2, .ints .i64 xs_m_0_3, .ints .i64 xs_m_0_4], 30, false, false⟩, ⟨[.vals [.nils], .ints .i64 ([(0 : Int)] : List Int), .ints .i64 ([(0 : Int)] : List Int), .ints .i64 ([(0 : Int)] : List Int), .ints .i64 ([(0 : Int)] : List Int), .vals [(.sl 0 (0 : Nat) (none : Option Nat) (none : Option Nat))], .vals [.nils], .vals [.nils]], 27, false, true⟩]) (K (.exit 0) (selE 46 [(2, (.S xs_2)), (3, (.ptr 1 (0 : Nat) 0)), (6, .undef), (7, .undef)]) [⟨[.strs ss_m_0_0, .ints .i64 xs_m_0_1, .ints .i64 xs_m_0_2, .ints .i64 xs_m_0_3, .ints .i64 xs_m_0_4], 30, false, false⟩, ⟨[.vals [.nils], .ints .i64 ([(0 : Int)] : List Int), .ints .i64 ([(0 : Int)] : List Int), .ints .i64 ([(0 : Int)] : List Int), .ints .i64 ([(0 : Int)] : List Int), .vals [(.sl 0 (0 : Nat) (none : Option Nat) (none : Option Nat))], .vals [.nils], .vals [.nils]], 27, false, true⟩]) := by kernel_rfl
theorem RL4_2_ok  (K : Ex → Env → Mem → Prop) : ∀ (n : Nat) (i_1 : Int) (xs_2 : List Int) (i_14 : Int) (i_15 : Int) (ss_m_0_0 : List (List Int)) (xs_m_0_1 : List Int) (xs_m_0_2 : List Int) (xs_m_0_3 : List Int) (xs_m_0_4 : List Int), cround 1 [1, 2, 3, 13, 14, 15] [2, 3, 6, 7] (fun ρ m K => cexec Tryz.prog C3 (fun _ => none) 1 1000 XL4_2 ρ m K) n (selE 46 [(1, (.I .i64 i_1)), (2, (.S xs_2)), (3, (.ptr 1 (0 : Nat) 0)), (13, (.sl 0 (0 : Nat) (none : Option Nat) (none : Option Nat))), (14, (.I .i64 i_14)), (15, (.I .i64 i_15))]) [⟨[.strs ss_m_0_0, .ints .i64 xs_m_0_1, .ints .i64 xs_m_0_2, .ints .i64 xs_m_0_3, .ints .i64 xs_m_0_4], 30, false, false⟩, ⟨[.vals [.nils], .ints .i64 ([(0 : Int)] : List Int), .ints .i64 ([(0 : Int)] : List Int), .ints .i64 ([(0 : Int)] : List Int), .ints .i64 ([(0 : Int)] : List Int), .vals [(.sl 0 (0 : Nat) (none : Option Nat) (none : Option Nat))], .vals [.nils], .vals [.nils]], 27, false, true⟩] K = RL4_2  n i_1 xs_2 i_14 i_15 ss_m_0_0 xs_m_0_1 xs_m_0_2 xs_m_0_3 xs_m_0_4 (fun (u0 : Int) => K .ret (selE 46 [(2, (.S xs_2)), (3, (.ptr 1 (0 : Nat) 0)), (6, (.I .i64 u0)), (7, (.B true))]) [⟨[.strs ss_m_0_0, .ints .i64 xs_m_0_1, .ints .i64 xs_m_0_2, .ints .i64 xs_m_0_3, .ints .i64 xs_m_0_4], 30, false, false⟩, ⟨[.vals [.nils], .ints .i64 ([(0 : Int)] : List Int), .ints .i64 ([(0 : Int)] : List Int), .ints .i64 ([(0 : Int)] : List Int), .ints .i64 ([(0 : Int)] : List Int), .vals [(.sl 0 (0 : Nat) (none : Option Nat) (none : Option Nat))], .vals [.nils], .vals [.nils]], 27, false, true⟩]) (K (.exit 0) (selE 46 [(2, (.S xs_2)), (3, (.ptr 1 (0 : Nat) 0)), (6, .undef), (7, .undef)]) [⟨[.strs ss_m_0_0, .ints .i64 xs_m_0_1, .ints .i64 xs_m_0_2, .ints .i64 xs_m_0_3, .ints .i64 xs_m_0_4], 30, false, false⟩, ⟨[.vals [.nils], .ints .i64 ([(0 : Int)] : List Int), .ints .i64 ([(0 : Int)] : List Int), .ints .i64 ([(0 : Int)] : List Int), .ints .i64 ([(0 : Int)] : List Int), .vals [(.sl 0 (0 : Nat) (none : Option Nat) (none : Option Nat))], .vals [.nils], .vals [.nils]], 27, false, true⟩])
  | 0, i_1, xs_2, i_14, i_15, ss_m_0_0, xs_m_0_1, xs_m_0_2, xs_m_0_3, xs_m_0_4 => rfl
  | n + 1, i_1, xs_2, i_14, i_15, ss_m_0_0, xs_m_0_1, xs_m_0_2, xs_m_0_3, xs_m_0_4 => by
    have ih := RL4_2_ok  K n
    rw [HL4_2_ok  n i_1 xs_2 i_14 i_15 ss_m_0_0 xs_m_0_1 xs_m_0_2 xs_m_0_3 xs_m_0_4 K]
    show HL4_2  _ i_1 xs_2 i_14 i_15 ss_m_0_0 xs_m_0_1 xs_m_0_2 xs_m_0_3 xs_m_0_4 (fun (u0 : Int) => K .ret (selE 46 [(2, (.S xs_2)), (3, (.ptr 1 (0 : Nat) 0)), (6, (.I .i64 u0)), (7, (.B true))]) [⟨[.strs ss_m_0_0, .ints .i64 xs_m_0_1, .ints .i64 xs_m_0_2, .ints .i64 xs_m_0_3, .ints .i64 xs_m_0_4], 30, false, false⟩, ⟨[.vals [.nils], .ints .i64 ([(0 : Int)] : List Int), .ints .i64 ([(0 : Int)] : List Int), .ints .i64 ([(0 : Int)] : List Int), .ints .i64 ([(0 : Int)] : List Int), .vals [(.sl 0 (0 : Nat) (none : Option Nat) (none : Option Nat))], .vals [.nils], .vals [.nils]], 27, false, true⟩]) (K (.exit 0) (selE 46 [(2, (.S xs_2)), (3, (.ptr 1 (0 : Nat) 0)), (6, .undef), (7, .undef)]) [⟨[.strs ss_m_0_0, .ints .i64 xs_m_0_1, .ints .i64 xs_m_0_2, .ints .i64 xs_m_0_3, .ints .i64 xs_m_0_4], 30, false, false⟩, ⟨[.vals [.nils], .ints .i64 ([(0 : Int)] : List Int), .ints .i64 ([(0 : Int)] : List Int), .ints .i64 ([(0 : Int)] : List Int), .ints .i64 ([(0 : Int)] : List Int), .vals [(.sl 0 (0 : Nat) (none : Option Nat) (none : Option Nat))], .vals [.nils], .vals [.nils]], 27, false, true⟩]) = HL4_2  _ i_1 xs_2 i_14 i_15 ss_m_0_0 xs_m_0_1 xs_m_0_2 xs_m_0_3 xs_m_0_4 (fun (u0 : Int) => K .ret (selE 46 [(2, (.S xs_2)), (3, (.ptr 1 (0 : Nat) 0)), (6, (.I .i64 u0)), (7, (.B true))]) [⟨[.strs ss_m_0_0, .ints .i64 xs_m_0_1, .ints .i64 xs_m_0_2, .ints .i64 xs_m_0_3, .ints .i64 xs_m_0_4], 30, false, false⟩, ⟨[.vals [.nils], .ints .i64 ([(0 : Int)] : List Int), .ints .i64 ([(0 : Int)] : List Int), .ints .i64 ([(0 : Int)] : List Int), .ints .i64 ([(0 : Int)] : List Int), .vals [(.sl 0 (0 : Nat) (none : Option Nat) (none : Option Nat))], .vals [.nils], .vals [.nils]], 27, false, true⟩]) (K (.exit 0) (selE 46 [(2, (.S xs_2)), (3, (.ptr 1 (0 : Nat) 0)), (6, .undef), (7, .undef)]) [⟨[.strs ss_m_0_0, .ints .i64 xs_m_0_1, .ints .i64 xs_m_0_2, .ints .i64 xs_m_0_3, .ints .i64 xs_m_0_4], 30, false, false⟩, ⟨[.vals [.nils], .ints .i64 ([(0 : Int)] : List Int), .ints .i64 ([(0 : Int)] : List Int), .ints .i64 ([(0 : Int)] : List Int), .ints .i64 ([(0 : Int)] : List Int), .vals [(.sl 0 (0 : Nat) (none : Option Nat) (none : Option Nat))], .vals [.nils], .vals [.nils]], 27, false, true⟩])
    refine congrArg (fun r => HL4_2  r i_1 xs_2 i_14 i_15 ss_m_0_0 xs_m_0_1 xs_m_0_2 xs_m_0_3 xs_m_0_4 (fun (u0 : Int) => K .ret (selE 46 [(2, (.S xs_2)), (3, (.ptr 1 (0 : Nat) 0)), (6, (.I .i64 u0)), (7, (.B true))]) [⟨[.strs ss_m_0_0, .ints .i64 xs_m_0_1, .ints .i64 xs_m_0_2, .ints .i64 xs_m_0_3, .ints .i64 xs_m_0_4], 30, false, false⟩, ⟨[.vals [.nils], .ints .i64 ([(0 : Int)] : List Int), .ints .i64 ([(0 : Int)] : List Int), .ints .i64 ([(0 : Int)] : List Int), .ints .i64 ([(0 : Int)] : List Int), .vals [(.sl 0 (0 : Nat) (none : Option Nat) (none : Option Nat))], .vals [.nils], .vals [.nils]], 27, false, true⟩]) (K (.exit 0) (selE 46 [(2, (.S xs_2)), (3, (.ptr 1 (0 : Nat) 0)), (6, .undef), (7, .undef)]) [⟨[.strs ss_m_0_0, .ints .i64 xs_m_0_1, .ints .i64 xs_m_0_2, .ints .i64 xs_m_0_3, .ints .i64 xs_m_0_4], 30, false, false⟩, ⟨[.vals [.nils], .ints .i64 ([(0 : Int)] : List Int), .ints .i64 ([(0 : Int)] : List Int), .ints .i64 ([(0 : Int)] : List Int), .ints .i64 ([(0 : Int)] : List Int), .vals [(.sl 0 (0 : Nat) (none : Option Nat) (none : Option Nat))], .vals [.nils], .vals [.nils]], 27, false, true⟩])) ?_
    funext i_15
    exact ih i_1 xs_2 i_14 i_15 ss_m_0_0 xs_m_0_1 xs_m_0_2 xs_m_0_3 xs_m_0_4
def GL4_2 : YL4_2 := fun x i_1 xs_2 i_14 i_15 ss_m_0_0 xs_m_0_1 xs_m_0_2 xs_m_0_3 xs_m_0_4 k1 k2 => x = XL4_2 ∧ ∃ n, RL4_2  n i_1 xs_2 i_14 i_15 ss_m_0_0 xs_m_0_1 xs_m_0_2 xs_m_0_3 xs_m_0_4 k1 k2
def VL4_2 (l : YL4_2) (F : Prop) (x : Code) (ρ : Env) (m : Mem) (K : Ex → Env → Mem → Prop) : Prop :=
  match ρ.has (46 - 1) with
  | true => (seeI .i64 (ρ.get 1) F fun i_1 => (seeS (ρ.get 2) F fun xs_2 => (seeV (.ptr 1 (0 : Nat) 0) (ρ.get 3) F (seeV (.sl 0 (0 : Nat) (none : Option Nat) (none : Option Nat)) (ρ.get 13) F (seeI .i64 (ρ.get 14) F fun i_14 => (seeI .i64 (ρ.get 15) F fun i_15 => (seeCons m F fun a7 q8 => (seeBlk 30 false false a7 F fun cs9 => (seeCons cs9 F fun a10 q11 => (seeStrs a10 F fun ss_m_0_0 => (seeCons q11 F fun a12 q13 => (seeInts .i64 a12 F fun xs_m_0_1 => (seeCons q13 F fun a14 q15 => (seeInts .i64 a14 F fun xs_m_0_2 => (seeCons q15 F fun a16 q17 => (seeInts .i64 a16 F fun xs_m_0_3 => (seeCons q17 F fun a18 q19 => (seeInts .i64 a18 F fun xs_m_0_4 => (seeNil q19 F (seeCons q8 F fun a20 q21 => (seeBlk 27 false true a20 F fun cs22 => (seeCons cs22 F fun a23 q24 => (seeVals a23 F fun xs25 => (seeCons xs25 F fun a26 q27 => (seeV .nils a26 F (seeNil q27 F (seeCons q24 F fun a28 q29 => (seeInts .i64 a28 F fun xs30 => (seeX ([(0 : Int)] : List Int) xs30 F (seeCons q29 F fun a31 q32 => (seeInts .i64 a31 F fun xs33 => (seeX ([(0 : Int)] : List Int) xs33 F (seeCons q32 F fun a34 q35 => (seeInts .i64 a34 F fun xs36 => (seeX ([(0 : Int)] : List Int) xs36 F (seeCons q35 F fun a37 q38 => (seeInts .i64 a37 F fun xs39 => (seeX ([(0 : Int)] : List Int) xs39 F (seeCons q38 F fun a40 q41 => (seeVals a40 F fun xs42 => (seeCons xs42 F fun a43 q44 => (seeV (.sl 0 (0 : Nat) (none : Option Nat) (none : Option Nat)) a43 F (seeNil q44 F (seeCons q41 F fun a45 q46 => (seeVals a45 F fun xs47 => (seeCons xs47 F fun a48 q49 => (seeV .nils a48 F (seeNil q49 F (seeCons q46 F fun a50 q51 => (seeVals a50 F fun xs52 => (seeCons xs52 F fun a53 q54 => (seeV .nils a53 F (seeNil q54 F (seeNil q51 F (seeNil q21 F (l x i_1 xs_2 i_14 i_15 ss_m_0_0 xs_m_0_1 xs_m_0_2 xs_m_0_3 xs_m_0_4 (fun (u0 : Int) => K .ret (selE 46 [(2, (.S xs_2)), (3, (.ptr 1 (0 : Nat) 0)), (6, (.I .i64 u0)), (7, (.B true))]) [⟨[.strs ss_m_0_0, .ints .i64 xs_m_0_1, .ints .i64 xs_m_0_2, .ints .i64 xs_m_0_3, .ints .i64 xs_m_0_4], 30, false, false⟩, ⟨[.vals [.nils], .ints .i64 ([(0 : Int)] : List Int), .ints .i64 ([(0 : Int)] : List Int), .ints .i64 ([(0 : Int)] : List Int), .ints .i64 ([(0 : Int)] : List Int), .vals [(.sl 0 (0 : Nat) (none : Option Nat) (none : Option Nat))], .vals [.nils], .vals [.nils]], 27, false, true⟩]) (K (.exit 0) (selE 46 [(2, (.S xs_2)), (3, (.ptr 1 (0 : Nat) 0)), (6, .undef), (7, .undef)]) [⟨[.strs ss_m_0_0, .ints .i64 xs_m_0_1, .ints .i64 xs_m_0_2, .ints .i64 xs_m_0_3, .ints .i64 xs_m_0_4], 30, false, false⟩, ⟨[.vals [.nils], .ints .i64 ([(0 : Int)] : List Int), .ints .i64 ([(0 : Int)] : List Int), .ints .i64 ([(0 : Int)] : List Int), .ints .i64 ([(0 : Int)] : List Int), .vals [(.sl 0 (0 : Nat) (none : Option Nat) (none : Option Nat))], .vals [.nils], .vals [.nils]], 27, false, true⟩])))))))))))))))))))))))))))))))))))))))))))))))))))))))))
  | false => False
def WL4_2 (l : YL4_2) (W : Masks) : Masks := fun r =>
  match Nat.beq r 2 with
  | true => some fun x ρ m K => VL4_2 l (match W r with | some lf => lf x ρ m K | none => False) x (tidyE 1 [1, 2, 3, 13, 14, 15] ρ m) (tidyM 1 [1, 2, 3, 13, 14, 15] ρ m) K
  | false => W r
set_option maxRecDepth 100000 in
theorem WL4_2_ok {W : Masks} (hW : LoopsOk Tryz.prog 1 W) : LoopsOk Tryz.prog 1 (WL4_2 GL4_2 W) := by
  intro r lf h
  unfold WL4_2 at h
  split at h
  · cases h
    intro x E0 m0 w0 ds hS0 ha ρ m K E a w Q hS hρ hd h hQ
    have fb : (match W r with | some lf => lf x ρ m K | none => False) → (Code.loop x).wp Tryz.prog Q a w := fun h => by
      split at h
      · rename_i lf hlf
        exact hW r lf hlf x hS0 ha ρ m K E a w Q hS hρ hd h hQ
      · cases h
    obtain ⟨E2, hS2, hρ2⟩ := tidy_rel hS0 hS hρ [1, 2, 3, 13, 14, 15]
    rw [ha] at hS2 hρ2
    unfold VL4_2 at h
    split at h
    · rename_i hlen
      replace h := seeI_use h
      rcases h with h | ⟨i_1, e1, h⟩
      · exact fb h
      replace h := seeS_use h
      rcases h with h | ⟨xs_2, e2, h⟩
      · exact fb h
      replace h := seeV_use h
      rcases h with h | ⟨e3, h⟩
      · exact fb h
      replace h := seeV_use h
      rcases h with h | ⟨e4, h⟩
      · exact fb h
      replace h := seeI_use h
      rcases h with h | ⟨i_14, e5, h⟩
      · exact fb h
      replace h := seeI_use h
      rcases h with h | ⟨i_15, e6, h⟩
      · exact fb h
      replace h := seeCons_use h
      rcases h with h | ⟨a7, q8, eqm, h⟩
      · exact fb h
      replace h := seeBlk_use h
      rcases h with h | ⟨cs9, rfl, h⟩
      · exact fb h
      replace h := seeCons_use h
      rcases h with h | ⟨a10, q11, rfl, h⟩
      · exact fb h
      replace h := seeStrs_use h
      rcases h with h | ⟨ss_m_0_0, rfl, h⟩
      · exact fb h
      replace h := seeCons_use h
      rcases h with h | ⟨a12, q13, rfl, h⟩
      · exact fb h
      replace h := seeInts_use h
      rcases h with h | ⟨xs_m_0_1, rfl, h⟩
      · exact fb h
      replace h := seeCons_use h
      rcases h with h | ⟨a14, q15, rfl, h⟩
      · exact fb h
      replace h := seeInts_use h
      rcases h with h | ⟨xs_m_0_2, rfl, h⟩
      · exact fb h
      replace h := seeCons_use h
      rcases h with h | ⟨a16, q17, rfl, h⟩
      · exact fb h
      replace h := seeInts_use h
      rcases h with h | ⟨xs_m_0_3, rfl, h⟩
      · exact fb h
      replace h := seeCons_use h
      rcases h with h | ⟨a18, q19, rfl, h⟩
      · exact fb h
      replace h := seeInts_use h
      rcases h with h | ⟨xs_m_0_4, rfl, h⟩
      · exact fb h
      replace h := seeNil_use h
      rcases h with h | ⟨rfl, h⟩
      · exact fb h
      replace h := seeCons_use h
      rcases h with h | ⟨a20, q21, rfl, h⟩
      · exact fb h
      replace h := seeBlk_use h
      rcases h with h | ⟨cs22, rfl, h⟩
      · exact fb h
      replace h := seeCons_use h
      rcases h with h | ⟨a23, q24, rfl, h⟩
      · exact fb h
      replace h := seeVals_use h
      rcases h with h | ⟨xs25, rfl, h⟩
      · exact fb h
      replace h := seeCons_use h
      rcases h with h | ⟨a26, q27, rfl, h⟩
      · exact fb h
      replace h := seeV_use h
      rcases h with h | ⟨rfl, h⟩
      · exact fb h
      replace h := seeNil_use h
      rcases h with h | ⟨rfl, h⟩
      · exact fb h
      replace h := seeCons_use h
      rcases h with h | ⟨a28, q29, rfl, h⟩
      · exact fb h
      replace h := seeInts_use h
      rcases h with h | ⟨xs30, rfl, h⟩
      · exact fb h
      replace h := seeX_use h
      rcases h with h | ⟨rfl, h⟩
      · exact fb h
      replace h := seeCons_use h
      rcases h with h | ⟨a31, q32, rfl, h⟩
      · exact fb h
      replace h := seeInts_use h
      rcases h with h | ⟨xs33, rfl, h⟩
      · exact fb h
      replace h := seeX_use h
      rcases h with h | ⟨rfl, h⟩
      · exact fb h
      replace h := seeCons_use h
      rcases h with h | ⟨a34, q35, rfl, h⟩
      · exact fb h
      replace h := seeInts_use h
      rcases h with h | ⟨xs36, rfl, h⟩
      · exact fb h
      replace h := seeX_use h
      rcases h with h | ⟨rfl, h⟩
      · exact fb h
      replace h := seeCons_use h
      rcases h with h | ⟨a37, q38, rfl, h⟩
      · exact fb h
      replace h := seeInts_use h
      rcases h with h | ⟨xs39, rfl, h⟩
      · exact fb h
      replace h := seeX_use h
      rcases h with h | ⟨rfl, h⟩
      · exact fb h
      replace h := seeCons_use h
      rcases h with h | ⟨a40, q41, rfl, h⟩
      · exact fb h
      replace h := seeVals_use h
      rcases h with h | ⟨xs42, rfl, h⟩
      · exact fb h
      replace h := seeCons_use h
      rcases h with h | ⟨a43, q44, rfl, h⟩
      · exact fb h
      replace h := seeV_use h
      rcases h with h | ⟨rfl, h⟩
      · exact fb h
      replace h := seeNil_use h
      rcases h with h | ⟨rfl, h⟩
      · exact fb h
      replace h := seeCons_use h
      rcases h with h | ⟨a45, q46, rfl, h⟩
      · exact fb h
      replace h := seeVals_use h
      rcases h with h | ⟨xs47, rfl, h⟩
      · exact fb h
      replace h := seeCons_use h
      rcases h with h | ⟨a48, q49, rfl, h⟩
      · exact fb h
      replace h := seeV_use h
      rcases h with h | ⟨rfl, h⟩
      · exact fb h
      replace h := seeNil_use h
      rcases h with h | ⟨rfl, h⟩
      · exact fb h
      replace h := seeCons_use h
      rcases h with h | ⟨a50, q51, rfl, h⟩
      · exact fb h
      replace h := seeVals_use h
      rcases h with h | ⟨xs52, rfl, h⟩
      · exact fb h
      replace h := seeCons_use h
      rcases h with h | ⟨a53, q54, rfl, h⟩
      · exact fb h
      replace h := seeV_use h
      rcases h with h | ⟨rfl, h⟩
      · exact fb h
      replace h := seeNil_use h
      rcases h with h | ⟨rfl, h⟩
      · exact fb h
      replace h := seeNil_use h
      rcases h with h | ⟨rfl, h⟩
      · exact fb h
      replace h := seeNil_use h
      rcases h with h | ⟨rfl, h⟩
      · exact fb h
      obtain ⟨rfl, n, h⟩ := h
      exact loop_use named C3_ok (LoopsOk.none _ _) (RL4_2_ok  K n _ _ _ _ _ _ _ _ _) h hS0 ha hlen ⟨e1, e2, e3, e4, e5, e6, trivial⟩ (eqm ▸ hS2) hρ2 hd hQ
    · cases h
  · exact hW r lf h
abbrev YL4_8 : Type := Code → List Int → Int → Int → List (List Int) → List Int → List Int → List Int → List Int → (Int → Prop) → (Prop) → Prop
set_option maxHeartbeats 4000000 in
set_option maxRecDepth 100000 in
def HL4_8  (rec : Int → Prop) (xs_2 : List Int) (i_34 : Int) (i_35 : Int) (ss_m_0_0 : List (List Int)) (xs_m_0_1 : List Int) (xs_m_0_2 : List Int) (xs_m_0_3 : List Int) (xs_m_0_4 : List Int) (k1 : Int → Prop) (k2 : Prop) : Prop :=
  (bif (decide (i_35 < i_34)) then (bif ((decide ((0 : Int) ≤ i_35)) && (decide (i_35 < ((((List.length ss_m_0_0) - (0 : Nat)) : Nat) : Int)))) then (bif ((List.getD ss_m_0_0 (Int.toNat i_35) ([] : List Int)) == xs_2) then (k1 (List.getD xs_m_0_2 (Int.toNat i_35) (0 : Int))) else (rec (IntKind.wrap .i64 (i_35 + (1 : Int))))) else False) else (k2))
def RL4_8  : Nat → List Int → Int → Int → List (List Int) → List Int → List Int → List Int → List Int → (Int → Prop) → (Prop) → Prop
  | 0, _, _, _, _, _, _, _, _, _, _ => False
  | n + 1, xs_2, i_34, i_35, ss_m_0_0, xs_m_0_1, xs_m_0_2, xs_m_0_3, xs_m_0_4, k1, k2 => HL4_8  (fun (i_35 : Int) => RL4_8  n xs_2 i_34 i_35 ss_m_0_0 xs_m_0_1 xs_m_0_2 xs_m_0_3 xs_m_0_4 k1 k2) xs_2 i_34 i_35 ss_m_0_0 xs_m_0_1 xs_m_0_2 xs_m_0_3 xs_m_0_4 k1 k2
noncomputable def XL4_8 : Code := sub [true, true, false, true, false, false] (bodyOf Tryz.prog 4)
theorem HL4_8_ok  (n : Nat) (xs_2 : List Int) (i_34 : Int) (i_35 : Int) (ss_m_0_0 : List (List Int)) (xs_m_0_1 : List Int) (xs_m_0_2 : List Int) (xs_m_0_3 : List Int) (xs_m_0_4 : List Int) (K : Ex → Env → Mem → Prop) : cround 1 [2, 33, 34, 35] [6, 7] (fun ρ m K => cexec Tryz.prog C3 (fun _ => none) 1 1000 XL4_8 ρ m K) (n + 1) (selE 46 [(2, (.S xs_2)), (33, (.sl 0 (0 : Nat) (none : Option Nat) (none : Option Nat))), (34, (.I .i64 i_34)), (35, (.I .i64 i_35))]) [⟨[.strs ss_m_0_0, .ints .i64 xs_m_0_1, .ints .i64 xs_m_0_2, .ints .i64 xs_m_0_3, .ints .i64 xs_m_0_4], 30, false, false⟩] K =
    HL4_8  (fun (i_35 : Int) => cround 1 [2, 33, 34, 35] [6, 7] (fun ρ m K => cexec Tryz.prog C3 (fun _ => none) 1 1000 XL4_8 ρ m K) n (selE 46 [(2, (.S xs_2)), (33, (.sl 0 (0 : Nat) (none : Option Nat) (none : Option Nat))), (34, (.I .i64 i_34)), (35, (.I .i64 i_35))]) [⟨[.strs ss_m_0_0, .ints .i64 xs_m_0_1, .ints .i64 xs_m_0_2, .ints .i64 xs_m_0_3, .ints .i64 xs_m_0_4], 30, false, false⟩] K) xs_2 i_34 i_35 ss_m_0_0 xs_m_0_1 xs_m_0_2 xs_m_0_3 xs_m_0_4 (fun (u0 : Int) => K .ret (selE 46 [(6, (.I .i64 u0)), (7, (.B true))]) [⟨[.strs ss_m_0_0, .ints .i64 xs_m_0_1, .ints .i64 xs_m_0_2, .ints .i64 xs_m_0_3, .ints .i64 xs_m_0_4], 30, false, false⟩]) (K (.exit 2) (selE 46 [(6, .undef), (7, .undef)]) [⟨[.strs ss_m_0_0, .ints .i64 xs_m_0_1, .ints .i64 xs_m_0_2, .ints .i64 xs_m_0_3, .ints .i64 xs_m_0_4], 30, false, false⟩]) := by kernel_rfl
theorem RL4_8_ok  (K : Ex → Env → Mem → Prop) : ∀ (n : Nat) (xs_2 : List Int) (i_34 : Int) (i_35 : Int) (ss_m_0_0 : List (List Int)) (xs_m_0_1 : List Int) (xs_m_0_2 : List Int) (xs_m_0_3 : List Int) (xs_m_0_4 : List Int), cround 1 [2, 33, 34, 35] [6, 7] (fun ρ m K => cexec Tryz.prog C3 (fun _ => none) 1 1000 XL4_8 ρ m K) n (selE 46 [(2, (.S xs_2)), (33, (.sl 0 (0 : Nat) (none : Option Nat) (none : Option Nat))), (34, (.I .i64 i_34)), (35, (.I .i64 i_35))]) [⟨[.strs ss_m_0_0, .ints .i64 xs_m_0_1, .ints .i64 xs_m_0_2, .ints .i64 xs_m_0_3, .ints .i64 xs_m_0_4], 30, false, false⟩] K = RL4_8  n xs_2 i_34 i_35 ss_m_0_0 xs_m_0_1 xs_m_0_2 xs_m_0_3 xs_m_0_4 (fun (u0 : Int) => K .ret (selE 46 [(6, (.I .i64 u0)), (7, (.B true))]) [⟨[.strs ss_m_0_0, .ints .i64 xs_m_0_1, .ints .i64 xs_m_0_2, .ints .i64 xs_m_0_3, .ints .i64 xs_m_0_4], 30, false, false⟩]) (K (.exit 2) (selE 46 [(6, .undef), (7, .undef)]) [⟨[.strs ss_m_0_0, .ints .i64 xs_m_0_1, .ints .i64 xs_m_0_2, .ints .i64 xs_m_0_3, .ints .i64 xs_m_0_4], 30, false, false⟩])
  | 0, xs_2, i_34, i_35, ss_m_0_0, xs_m_0_1, xs_m_0_2, xs_m_0_3, xs_m_0_4 => rfl
  | n + 1, xs_2, i_34, i_35, ss_m_0_0, xs_m_0_1, xs_m_0_2, xs_m_0_3, xs_m_0_4 => by
    have ih := RL4_8_ok  K n
    rw [HL4_8_ok  n xs_2 i_34 i_35 ss_m_0_0 xs_m_0_1 xs_m_0_2 xs_m_0_3 xs_m_0_4 K]
    show HL4_8  _ xs_2 i_34 i_35 ss_m_0_0 xs_m_0_1 xs_m_0_2 xs_m_0_3 xs_m_0_4 (fun (u0 : Int) => K .ret (selE 46 [(6, (.I .i64 u0)), (7, (.B true))]) [⟨[.strs ss_m_0_0, .ints .i64 xs_m_0_1, .ints .i64 xs_m_0_2, .ints .i64 xs_m_0_3, .ints .i64 xs_m_0_4], 30, false, false⟩]) (K (.exit 2) (selE 46 [(6, .undef), (7, .undef)]) [⟨[.strs ss_m_0_0, .ints .i64 xs_m_0_1, .ints .i64 xs_m_0_2, .ints .i64 xs_m_0_3, .ints .i64 xs_m_0_4], 30, false, false⟩]) = HL4_8  _ xs_2 i_34 i_35 ss_m_0_0 xs_m_0_1 xs_m_0_2 xs_m_0_3 xs_m_0_4 (fun (u0 : Int) => K .ret (selE 46 [(6, (.I .i64 u0)), (7, (.B true))]) [⟨[.strs ss_m_0_0, .ints .i64 xs_m_0_1, .ints .i64 xs_m_0_2, .ints .i64 xs_m_0_3, .ints .i64 xs_m_0_4], 30, false, false⟩]) (K (.exit 2) (selE 46 [(6, .undef), (7, .undef)]) [⟨[.strs ss_m_0_0, .ints .i64 xs_m_0_1, .ints .i64 xs_m_0_2, .ints .i64 xs_m_0_3, .ints .i64 xs_m_0_4], 30, false, false⟩])
    refine congrArg (fun r => HL4_8  r xs_2 i_34 i_35 ss_m_0_0 xs_m_0_1 xs_m_0_2 xs_m_0_3 xs_m_0_4 (fun (u0 : Int) => K .ret (selE 46 [(6, (.I .i64 u0)), (7, (.B true))]) [⟨[.strs ss_m_0_0, .ints .i64 xs_m_0_1, .ints .i64 xs_m_0_2, .ints .i64 xs_m_0_3, .ints .i64 xs_m_0_4], 30, false, false⟩]) (K (.exit 2) (selE 46 [(6, .undef), (7, .undef)]) [⟨[.strs ss_m_0_0, .ints .i64 xs_m_0_1, .ints .i64 xs_m_0_2, .ints .i64 xs_m_0_3, .ints .i64 xs_m_0_4], 30, false, false⟩])) ?_
    funext i_35
    exact ih xs_2 i_34 i_35 ss_m_0_0 xs_m_0_1 xs_m_0_2 xs_m_0_3 xs_m_0_4
def GL4_8 : YL4_8 := fun x xs_2 i_34 i_35 ss_m_0_0 xs_m_0_1 xs_m_0_2 xs_m_0_3 xs_m_0_4 k1 k2 => x = XL4_8 ∧ ∃ n, RL4_8  n xs_2 i_34 i_35 ss_m_0_0 xs_m_0_1 xs_m_0_2 xs_m_0_3 xs_m_0_4 k1 k2
def VL4_8 (l : YL4_8) (F : Prop) (x : Code) (ρ : Env) (m : Mem) (K : Ex → Env → Mem → Prop) : Prop :=
  match ρ.has (46 - 1) with
  | true => (seeS (ρ.get 2) F fun xs_2 => (seeV (.sl 0 (0 : Nat) (none : Option Nat) (none : Option Nat)) (ρ.get 33) F (seeI .i64 (ρ.get 34) F fun i_34 => (seeI .i64 (ρ.get 35) F fun i_35 => (seeCons m F fun a5 q6 => (seeBlk 30 false false a5 F fun cs7 => (seeCons cs7 F fun a8 q9 => (seeStrs a8 F fun ss_m_0_0 => (seeCons q9 F fun a10 q11 => (seeInts .i64 a10 F fun xs_m_0_1 => (seeCons q11 F fun a12 q13 => (seeInts .i64 a12 F fun xs_m_0_2 => (seeCons q13 F fun a14 q15 => (seeInts .i64 a14 F fun xs_m_0_3 => (seeCons q15 F fun a16 q17 => (seeInts .i64 a16 F fun xs_m_0_4 => (seeNil q17 F (seeNil q6 F (l x xs_2 i_34 i_35 ss_m_0_0 xs_m_0_1 xs_m_0_2 xs_m_0_3 xs_m_0_4 (fun (u0 : Int) => K .ret (selE 46 [(6, (.I .i64 u0)), (7, (.B true))]) [⟨[.strs ss_m_0_0, .ints .i64 xs_m_0_1, .ints .i64 xs_m_0_2, .ints .i64 xs_m_0_3, .ints .i64 xs_m_0_4], 30, false, false⟩]) (K (.exit 2) (selE 46 [(6, .undef), (7, .undef)]) [⟨[.strs ss_m_0_0, .ints .i64 xs_m_0_1, .ints .i64 xs_m_0_2, .ints .i64 xs_m_0_3, .ints .i64 xs_m_0_4], 30, false, false⟩]))))))))))))))))))))
  | false => False
def WL4_8 (l : YL4_8) (W : Masks) : Masks := fun r =>
  match Nat.beq r 8 with
  | true => some fun x ρ m K => VL4_8 l (match W r with | some lf => lf x ρ m K | none => False) x (tidyE 1 [2, 33, 34, 35] ρ m) (tidyM 1 [2, 33, 34, 35] ρ m) K
  | false => W r
set_option maxRecDepth 100000 in
theorem WL4_8_ok {W : Masks} (hW : LoopsOk Tryz.prog 1 W) : LoopsOk Tryz.prog 1 (WL4_8 GL4_8 W) := by
  intro r lf h
  unfold WL4_8 at h
  split at h
  · cases h
    intro x E0 m0 w0 ds hS0 ha ρ m K E a w Q hS hρ hd h hQ
    have fb : (match W r with | some lf => lf x ρ m K | none => False) → (Code.loop x).wp Tryz.prog Q a w := fun h => by
      split at h
      · rename_i lf hlf
        exact hW r lf hlf x hS0 ha ρ m K E a w Q hS hρ hd h hQ
      · cases h
    obtain ⟨E2, hS2, hρ2⟩ := tidy_rel hS0 hS hρ [2, 33, 34, 35]
    rw [ha] at hS2 hρ2
    unfold VL4_8 at h
    split at h
    · rename_i hlen
      replace h := seeS_use h
      rcases h with h | ⟨xs_2, e1, h⟩
      · exact fb h
      replace h := seeV_use h
      rcases h with h | ⟨e2, h⟩
      · exact fb h
      replace h := seeI_use h
      rcases h with h | ⟨i_34, e3, h⟩
      · exact fb h
      replace h := seeI_use h
      rcases h with h | ⟨i_35, e4, h⟩
      · exact fb h
      replace h := seeCons_use h
      rcases h with h | ⟨a5, q6, eqm, h⟩
      · exact fb h
      replace h := seeBlk_use h
      rcases h with h | ⟨cs7, rfl, h⟩
      · exact fb h
      replace h := seeCons_use h
      rcases h with h | ⟨a8, q9, rfl, h⟩
      · exact fb h
      replace h := seeStrs_use h
      rcases h with h | ⟨ss_m_0_0, rfl, h⟩
      · exact fb h
      replace h := seeCons_use h
      rcases h with h | ⟨a10, q11, rfl, h⟩
      · exact fb h
      replace h := seeInts_use h
      rcases h with h | ⟨xs_m_0_1, rfl, h⟩
      · exact fb h
      replace h := seeCons_use h
      rcases h with h | ⟨a12, q13, rfl, h⟩
      · exact fb h
      replace h := seeInts_use h
      rcases h with h | ⟨xs_m_0_2, rfl, h⟩
      · exact fb h
      replace h := seeCons_use h
      rcases h with h | ⟨a14, q15, rfl, h⟩
      · exact fb h
      replace h := seeInts_use h
      rcases h with h | ⟨xs_m_0_3, rfl, h⟩
      · exact fb h
      replace h := seeCons_use h
      rcases h with h | ⟨a16, q17, rfl, h⟩
      · exact fb h
      replace h := seeInts_use h
      rcases h with h | ⟨xs_m_0_4, rfl, h⟩
      · exact fb h
      replace h := seeNil_use h
      rcases h with h | ⟨rfl, h⟩
      · exact fb h
      replace h := seeNil_use h
      rcases h with h | ⟨rfl, h⟩
      · exact fb h
      obtain ⟨rfl, n, h⟩ := h
      exact loop_use named C3_ok (LoopsOk.none _ _) (RL4_8_ok  K n _ _ _ _ _ _ _ _) h hS0 ha hlen ⟨e1, e2, e3, e4, trivial⟩ (eqm ▸ hS2) hρ2 hd hQ
    · cases h
  · exact hW r lf h
theorem at4 : Tryz.prog.funcs[4]? = some (fnOf Tryz.prog 4) := by kernel_rfl
abbrev Y4 : Type := Int → List Int → List (List Int) → List Int → List Int → List Int → List Int → (Int → Prop) → (Prop) → Prop
set_option maxHeartbeats 4000000 in
set_option maxRecDepth 100000 in
def F4  (l4_2 : YL4_2) (l4_8 : YL4_8) (ob : Int) (nm : List Int) (ns : List (List Int)) (os : List Int) (ad : List Int) (zs : List Int) (ts : List Int) (k1 : Int → Prop) (k2 : Prop) : Prop :=
  (l4_2 XL4_2 ob nm ((((List.length ns) - (0 : Nat)) : Nat) : Int) (0 : Int) ns os ad zs ts (fun (n1 : Int) => (k1 n1)) ((l4_8 XL4_8 nm ((((List.length ns) - (0 : Nat)) : Nat) : Int) (0 : Int) ns os ad zs ts (fun (n2 : Int) => (k1 n2)) ((k2)))))
theorem F4_ok  (l4_2 : YL4_2) (l4_8 : YL4_8) (ob : Int) (nm : List Int) (ns : List (List Int)) (os : List Int) (ad : List Int) (zs : List Int) (ts : List Int) (K : V → Mem → Prop) : cbody Tryz.prog C3 (WL4_2 l4_2 (WL4_8 l4_8 (fun _ => none))) 1000 (fnOf Tryz.prog 4) [(.agg [.nils, (.I .i64 (0 : Int)), (.I .i64 (0 : Int)), (.I .i64 (0 : Int)), (.I .i64 (0 : Int)), (.sl 0 (0 : Nat) (none : Option Nat) (none : Option Nat)), .nils, .nils]), (.I .i64 ob), (.S nm)] [⟨[.strs ns, .ints .i64 os, .ints .i64 ad, .ints .i64 zs, .ints .i64 ts], 30, false, false⟩] K =
    F4  l4_2 l4_8 ob nm ns os ad zs ts (fun (u0 : Int) => K (.tup [(.I .i64 u0), (.B true)]) [⟨[.strs ns, .ints .i64 os, .ints .i64 ad, .ints .i64 zs, .ints .i64 ts], 30, false, false⟩]) (K (.tup [(.I .i64 (0 : Int)), (.B false)]) [⟨[.strs ns, .ints .i64 os, .ints .i64 ad, .ints .i64 zs, .ints .i64 ts], 30, false, false⟩]) := by kernel_rfl
def G4 : Y4 := F4  GL4_2 GL4_8
def VT4 (f : Y4) (F : Prop) (args : List V) (m : Mem) (K : V → Mem → Prop) : Prop :=
  (seeCons args F fun a1 q2 => (seeV (.agg [.nils, (.I .i64 (0 : Int)), (.I .i64 (0 : Int)), (.I .i64 (0 : Int)), (.I .i64 (0 : Int)), (.sl 0 (0 : Nat) (none : Option Nat) (none : Option Nat)), .nils, .nils]) a1 F (seeCons q2 F fun a3 q4 => (seeI .i64 a3 F fun ob => (seeCons q4 F fun a5 q6 => (seeS a5 F fun nm => (seeNil q6 F (seeCons m F fun a7 q8 => (seeBlk 30 false false a7 F fun cs9 => (seeCons cs9 F fun a10 q11 => (seeStrs a10 F fun ns => (seeCons q11 F fun a12 q13 => (seeInts .i64 a12 F fun os => (seeCons q13 F fun a14 q15 => (seeInts .i64 a14 F fun ad => (seeCons q15 F fun a16 q17 => (seeInts .i64 a16 F fun zs => (seeCons q17 F fun a18 q19 => (seeInts .i64 a18 F fun ts => (seeNil q19 F (seeNil q8 F (f ob nm ns os ad zs ts (fun (u0 : Int) => K (.tup [(.I .i64 u0), (.B true)]) [⟨[.strs ns, .ints .i64 os, .ints .i64 ad, .ints .i64 zs, .ints .i64 ts], 30, false, false⟩]) (K (.tup [(.I .i64 (0 : Int)), (.B false)]) [⟨[.strs ns, .ints .i64 os, .ints .i64 ad, .ints .i64 zs, .ints .i64 ts], 30, false, false⟩])))))))))))))))))))))))
def T4 (f : Y4) (C : CC) : CC := fun g args m K =>
  match Nat.beq g 4 with
  | true => VT4 f (C g args m K) args m K
  | false => C g args m K
set_option maxRecDepth 100000 in
theorem T4_ok {C : CC} (hC : CallsOk Tryz.prog C) : CallsOk Tryz.prog (T4 G4 C) := by
  intro g args m K E w cargs hS ha h
  unfold T4 at h
  split at h
  · rename_i hg
    obtain rfl := Nat.eq_of_beq_eq_true hg
    unfold VT4 at h
    replace h := seeCons_use h
    rcases h with h | ⟨a1, q2, rfl, h⟩
    · exact hC _ _ _ _ _ _ _ hS ha h
    replace h := seeV_use h
    rcases h with h | ⟨rfl, h⟩
    · exact hC _ _ _ _ _ _ _ hS ha h
    replace h := seeCons_use h
    rcases h with h | ⟨a3, q4, rfl, h⟩
    · exact hC _ _ _ _ _ _ _ hS ha h
    replace h := seeI_use h
    rcases h with h | ⟨ob, rfl, h⟩
    · exact hC _ _ _ _ _ _ _ hS ha h
    replace h := seeCons_use h
    rcases h with h | ⟨a5, q6, rfl, h⟩
    · exact hC _ _ _ _ _ _ _ hS ha h
    replace h := seeS_use h
    rcases h with h | ⟨nm, rfl, h⟩
    · exact hC _ _ _ _ _ _ _ hS ha h
    replace h := seeNil_use h
    rcases h with h | ⟨rfl, h⟩
    · exact hC _ _ _ _ _ _ _ hS ha h
    replace h := seeCons_use h
    rcases h with h | ⟨a7, q8, rfl, h⟩
    · exact hC _ _ _ _ _ _ _ hS ha h
    replace h := seeBlk_use h
    rcases h with h | ⟨cs9, rfl, h⟩
    · exact hC _ _ _ _ _ _ _ hS ha h
    replace h := seeCons_use h
    rcases h with h | ⟨a10, q11, rfl, h⟩
    · exact hC _ _ _ _ _ _ _ hS ha h
    replace h := seeStrs_use h
    rcases h with h | ⟨ns, rfl, h⟩
    · exact hC _ _ _ _ _ _ _ hS ha h
    replace h := seeCons_use h
    rcases h with h | ⟨a12, q13, rfl, h⟩
    · exact hC _ _ _ _ _ _ _ hS ha h
    replace h := seeInts_use h
    rcases h with h | ⟨os, rfl, h⟩
    · exact hC _ _ _ _ _ _ _ hS ha h
    replace h := seeCons_use h
    rcases h with h | ⟨a14, q15, rfl, h⟩
    · exact hC _ _ _ _ _ _ _ hS ha h
    replace h := seeInts_use h
    rcases h with h | ⟨ad, rfl, h⟩
    · exact hC _ _ _ _ _ _ _ hS ha h
    replace h := seeCons_use h
    rcases h with h | ⟨a16, q17, rfl, h⟩
    · exact hC _ _ _ _ _ _ _ hS ha h
    replace h := seeInts_use h
    rcases h with h | ⟨zs, rfl, h⟩
    · exact hC _ _ _ _ _ _ _ hS ha h
    replace h := seeCons_use h
    rcases h with h | ⟨a18, q19, rfl, h⟩
    · exact hC _ _ _ _ _ _ _ hS ha h
    replace h := seeInts_use h
    rcases h with h | ⟨ts, rfl, h⟩
    · exact hC _ _ _ _ _ _ _ hS ha h
    replace h := seeNil_use h
    rcases h with h | ⟨rfl, h⟩
    · exact hC _ _ _ _ _ _ _ hS ha h
    replace h := seeNil_use h
    rcases h with h | ⟨rfl, h⟩
    · exact hC _ _ _ _ _ _ _ hS ha h
    exact cbody_use named C3_ok at4 (l := 1) rfl (WL4_2_ok (WL4_8_ok (LoopsOk.none _ _))) (F4_ok  GL4_2 GL4_8 ob nm ns os ad zs ts K) hS ha h
  · exact hC _ _ _ _ _ _ _ hS ha h
abbrev YL5_2 : Type := Code → Int → List Int → Int → List (List Int) → List Int → List Int → List Int → List Int → (Int → Prop) → (Prop) → Prop
set_option maxHeartbeats 4000000 in
set_option maxRecDepth 100000 in
def HL5_2  (rec : Int → Prop) (i_1 : Int) (xs_2 : List Int) (i_8 : Int) (ss_m_0_0 : List (List Int)) (xs_m_0_1 : List Int) (xs_m_0_2 : List Int) (xs_m_0_3 : List Int) (xs_m_0_4 : List Int) (k1 : Int → Prop) (k2 : Prop) : Prop :=
  (bif (decide (i_8 < ((((List.length ss_m_0_0) - (0 : Nat)) : Nat) : Int))) then (bif ((decide ((0 : Int) ≤ i_8)) && (decide (i_8 < ((((List.length ss_m_0_0) - (0 : Nat)) : Nat) : Int)))) then (bif ((List.getD xs_m_0_1 (Int.toNat i_8) (0 : Int)) == i_1) then (bif ((decide ((0 : Int) ≤ i_8)) && (decide (i_8 < ((((List.length ss_m_0_0) - (0 : Nat)) : Nat) : Int)))) then (bif ((List.getD ss_m_0_0 (Int.toNat i_8) ([] : List Int)) == xs_2) then (bif ((decide ((0 : Int) ≤ i_8)) && (decide (i_8 < ((((List.length ss_m_0_0) - (0 : Nat)) : Nat) : Int)))) then (k1 (List.getD xs_m_0_2 (Int.toNat i_8) (0 : Int))) else False) else (rec (IntKind.wrap .i64 (i_8 + (1 : Int))))) else False) else (rec (IntKind.wrap .i64 (i_8 + (1 : Int))))) else False) else (k2))
def RL5_2  : Nat → Int → List Int → Int → List (List Int) → List Int → List Int → List Int → List Int → (Int → Prop) → (Prop) → Prop
  | 0, _, _, _, _, _, _, _, _, _, _ => False
  | n + 1, i_1, xs_2, i_8, ss_m_0_0, xs_m_0_1, xs_m_0_2, xs_m_0_3, xs_m_0_4, k1, k2 => HL5_2  (fun (i_8 : Int) => RL5_2  n i_1 xs_2 i_8 ss_m_0_0 xs_m_0_1 xs_m_0_2 xs_m_0_3 xs_m_0_4 k1 k2) i_1 xs_2 i_8 ss_m_0_0 xs_m_0_1 xs_m_0_2 xs_m_0_3 xs_m_0_4 k1 k2
noncomputable def XL5_2 : Code := sub [true, false, true, false, false] (bodyOf Tryz.prog 5)
theorem HL5_2_ok  (n : Nat) (i_1 : Int) (xs_2 : List Int) (i_8 : Int) (ss_m_0_0 : List (List Int)) (xs_m_0_1 : List Int) (xs_m_0_2 : List Int) (xs_m_0_3 : List Int) (xs_m_0_4 : List Int) (K : Ex → Env → Mem → Prop) : cround 1 [1, 2, 3, 8] [2, 3, 6, 7] (fun ρ m K => cexec Tryz.prog C3 (fun _ => none) 1 1000 XL5_2 ρ m K) (n + 1) (selE 62 [(1, (.I .i64 i_1)), (2, (.S xs_2)), (3, (.ptr 1 (0 : Nat) 0)), (8, (.I .i64 i_8))]) [⟨[.strs ss_m_0_0, .ints .i64 xs_m_0_1, .ints .i64 xs_m_0_2, .ints .i64 xs_m_0_3, .ints .i64 xs_m_0_4], 29, true, false⟩, ⟨[.vals [.nils], .ints .i64 ([(0 : Int)] : List Int), .ints .i64 ([(0 : Int)] : List Int), .ints .i64 ([(0 : Int)] : List Int), .ints .i64 ([(0 : Int)] : List Int), .vals [(.sl 0 (0 : Nat) (none : Option Nat) (none : Option Nat))], .vals [.nils], .vals [.nils]], 36, false, true⟩] K =
    HL5_2  (fun (i_8 : Int) => cround 1 [1, 2, 3, 8] [2, 3, 6, 7] (fun ρ m K => cexec Tryz.prog C3 (fun _ => none) 1 1000 XL5_2 ρ m K) n (selE 62 [(1, (.I .i64 i_1)), (2, (.S xs_2)), (3, (.ptr 1 (0 : Nat) 0)), (8, (.I .i64 i_8))]) [⟨[.strs ss_m_0_0, .ints .i64 xs_m_0_1, .ints .i64 xs_m_0_2, .ints .i64 xs_m_0_3, .ints .i64 xs_m_0_4], 29, true, false⟩, ⟨[.vals [.nils], .ints .i64 ([(0 : Int)] : List Int), .ints .i64 ([(0 : Int)] : List Int), .ints .i64 ([(0 : Int)] : List Int), .ints .i64 ([(0 : Int)] : List Int), .vals [(.sl 0 (0 : Nat) (none : Option Nat) (none : Option Nat))], .vals [.nils], .vals [.nils]], 36, false, true⟩] K) i_1 xs_2 i_8 ss_m_0_0 xs_m_0_1 xs_m_0_2 xs_m_0_3 xs_m_0_4 (fun (u0 : Int) => K .ret (selE 62 [(2, (.S xs_2)), (3, (.ptr 1 (0 : Nat) 0)), (6, (.I .i64 u0)), (7, (.B true))]) [⟨[.strs ss_m_0_0, .ints .i64 xs_m_0_1, .ints .i64 xs_m_0_2, .ints .i64 xs_m_0_3, .ints .i64 xs_m_0_4], 29, true, false⟩, ⟨[.vals [.nils], .ints .i64 ([(0 : Int)] : List Int), .ints .i64 ([(0 : Int)] : List Int), .ints .i64 ([(0 : Int)] : List Int), .ints .i64 ([(0 : Int)] : List Int), .vals [(.sl 0 (0 : Nat) (none : Option Nat) (none : Option Nat))], .vals [.nils], .vals [.nils]], 36, false, true⟩]) (K (.exit 0) (selE 62 [(2, (.S xs_2)), (3, (.ptr 1 (0 : Nat) 0)), (6, .undef), (7, .undef)]) [⟨[.strs ss_m_0_0, .ints .i64 xs_m_0_1, .ints .i64 xs_m_0_2, .ints .i64 xs_m_0_3, .ints .i64 xs_m_0_4], 29, true, false⟩, ⟨[.vals [.nils], .ints .i64 ([(0 : Int)] : List Int), .ints .i64 ([(0 : Int)] : List Int), .ints .i64 ([(0 : Int)] : List Int), .ints .i64 ([(0 : Int)] : List Int), .vals [(.sl 0 (0 : Nat) (none : Option Nat) (none : Option Nat))], .vals [.nils], .vals [.nils]], 36, false, true⟩]) := by kernel_rfl
theorem RL5_2_ok  (K : Ex → Env → Mem → Prop) : ∀ (n : Nat) (i_1 : Int) (xs_2 : List Int) (i_8 : Int) (ss_m_0_0 : List (List Int)) (xs_m_0_1 : List Int) (xs_m_0_2 : List Int) (xs_m_0_3 : List Int) (xs_m_0_4 : List Int), cround 1 [1, 2, 3, 8] [2, 3, 6, 7] (fun ρ m K => cexec Tryz.prog C3 (fun _ => none) 1 1000 XL5_2 ρ m K) n (selE 62 [(1, (.I .i64 i_1)), (2, (.S xs_2)), (3, (.ptr 1 (0 : Nat) 0)), (8, (.I .i64 i_8))]) [⟨[.strs ss_m_0_0, .ints .i64 xs_m_0_1, .ints .i64 xs_m_0_2, .ints .i64 xs_m_0_3, .ints .i64 xs_m_0_4], 29, true, false⟩, ⟨[.vals [.nils], .ints .i64 ([(0 : Int)] : List Int), .ints .i64 ([(0 : Int)] : List Int), .ints .i64 ([(0 : Int)] : List Int), .ints .i64 ([(0 : Int)] : List Int), .vals [(.sl 0 (0 : Nat) (none : Option Nat) (none : Option Nat))], .vals [.nils], .vals [.nils]], 36, false, true⟩] K = RL5_2  n i_1 xs_2 i_8 ss_m_0_0 xs_m_0_1 xs_m_0_2 xs_m_0_3 xs_m_0_4 (fun (u0 : Int) => K .ret (selE 62 [(2, (.S xs_2)), (3, (.ptr 1 (0 : Nat) 0)), (6, (.I .i64 u0)), (7, (.B true))]) [⟨[.strs ss_m_0_0, .ints .i64 xs_m_0_1, .ints .i64 xs_m_0_2, .ints .i64 xs_m_0_3, .ints .i64 xs_m_0_4], 29, true, false⟩, ⟨[.vals [.nils], .ints .i64 ([(0 : Int)] : List Int), .ints .i64 ([(0 : Int)] : List Int), .ints .i64 ([(0 : Int)] : List Int), .ints .i64 ([(0 : Int)] : List Int), .vals [(.sl 0 (0 : Nat) (none : Option Nat) (none : Option Nat))], .vals [.nils], .vals [.nils]], 36, false, true⟩]) (K (.exit 0) (selE 62 [(2, (.S xs_2)), (3, (.ptr 1 (0 : Nat) 0)), (6, .undef), (7, .undef)]) [⟨[.strs ss_m_0_0, .ints .i64 xs_m_0_1, .ints .i64 xs_m_0_2, .ints .i64 xs_m_0_3, .ints .i64 xs_m_0_4], 29, true, false⟩, ⟨[.vals [.nils], .ints .i64 ([(0 : Int)] : List Int), .ints .i64 ([(0 : Int)] : List Int), .ints .i64 ([(0 : Int)] : List Int), .ints .i64 ([(0 : Int)] : List Int), .vals [(.sl 0 (0 : Nat) (none : Option Nat) (none : Option Nat))], .vals [.nils], .vals [.nils]], 36, false, true⟩])
  | 0, i_1, xs_2, i_8, ss_m_0_0, xs_m_0_1, xs_m_0_2, xs_m_0_3, xs_m_0_4 => rfl
  | n + 1, i_1, xs_2, i_8, ss_m_0_0, xs_m_0_1, xs_m_0_2, xs_m_0_3, xs_m_0_4 => by
    have ih := RL5_2_ok  K n
    rw [HL5_2_ok  n i_1 xs_2 i_8 ss_m_0_0 xs_m_0_1 xs_m_0_2 xs_m_0_3 xs_m_0_4 K]
    show HL5_2  _ i_1 xs_2 i_8 ss_m_0_0 xs_m_0_1 xs_m_0_2 xs_m_0_3 xs_m_0_4 (fun (u0 : Int) => K .ret (selE 62 [(2, (.S xs_2)), (3, (.ptr 1 (0 : Nat) 0)), (6, (.I .i64 u0)), (7, (.B true))]) [⟨[.strs ss_m_0_0, .ints .i64 xs_m_0_1, .ints .i64 xs_m_0_2, .ints .i64 xs_m_0_3, .ints .i64 xs_m_0_4], 29, true, false⟩, ⟨[.vals [.nils], .ints .i64 ([(0 : Int)] : List Int), .ints .i64 ([(0 : Int)] : List Int), .ints .i64 ([(0 : Int)] : List Int), .ints .i64 ([(0 : Int)] : List Int), .vals [(.sl 0 (0 : Nat) (none : Option Nat) (none : Option Nat))], .vals [.nils], .vals [.nils]], 36, false, true⟩]) (K (.exit 0) (selE 62 [(2, (.S xs_2)), (3, (.ptr 1 (0 : Nat) 0)), (6, .undef), (7, .undef)]) [⟨[.strs ss_m_0_0, .ints .i64 xs_m_0_1, .ints .i64 xs_m_0_2, .ints .i64 xs_m_0_3, .ints .i64 xs_m_0_4], 29, true, false⟩, ⟨[.vals [.nils], .ints .i64 ([(0 : Int)] : List Int), .ints .i64 ([(0 : Int)] : List Int), .ints .i64 ([(0 : Int)] : List Int), .ints .i64 ([(0 : Int)] : List Int), .vals [(.sl 0 (0 : Nat) (none : Option Nat) (none : Option Nat))], .vals [.nils], .vals [.nils]], 36, false, true⟩]) = HL5_2  _ i_1 xs_2 i_8 ss_m_0_0 xs_m_0_1 xs_m_0_2 xs_m_0_3 xs_m_0_4 (fun (u0 : Int) => K .ret (selE 62 [(2, (.S xs_2)), (3, (.ptr 1 (0 : Nat) 0)), (6, (.I .i64 u0)), (7, (.B true))]) [⟨[.strs ss_m_0_0, .ints .i64 xs_m_0_1, .ints .i64 xs_m_0_2, .ints .i64 xs_m_0_3, .ints .i64 xs_m_0_4], 29, true, false⟩, ⟨[.vals [.nils], .ints .i64 ([(0 : Int)] : List Int), .ints .i64 ([(0 : Int)] : List Int), .ints .i64 ([(0 : Int)] : List Int), .ints .i64 ([(0 : Int)] : List Int), .vals [(.sl 0 (0 : Nat) (none : Option Nat) (none : Option Nat))], .vals [.nils], .vals [.nils]], 36, false, true⟩]) (K (.exit 0) (selE 62 [(2, (.S xs_2)), (3, (.ptr 1 (0 : Nat) 0)), (6, .undef), (7, .undef)]) [⟨[.strs ss_m_0_0, .ints .i64 xs_m_0_1, .ints .i64 xs_m_0_2, .ints .i64 xs_m_0_3, .ints .i64 xs_m_0_4], 29, true, false⟩, ⟨[.vals [.nils], .ints .i64 ([(0 : Int)] : List Int), .ints .i64 ([(0 : Int)] : List Int), .ints .i64 ([(0 : Int)] : List Int), .ints .i64 ([(0 : Int)] : List Int), .vals [(.sl 0 (0 : Nat) (none : Option Nat) (none : Option Nat))], .vals [.nils], .vals [.nils]], 36, false, true⟩])
    refine congrArg (fun r => HL5_2  r i_1 xs_2 i_8 ss_m_0_0 xs_m_0_1 xs_m_0_2 xs_m_0_3 xs_m_0_4 (fun (u0 : Int) => K .ret (selE 62 [(2, (.S xs_2)), (3, (.ptr 1 (0 : Nat) 0)), (6, (.I .i64 u0)), (7, (.B true))]) [⟨[.strs ss_m_0_0, .ints .i64 xs_m_0_1, .ints .i64 xs_m_0_2, .ints .i64 xs_m_0_3, .ints .i64 xs_m_0_4], 29, true, false⟩, ⟨[.vals [.nils], .ints .i64 ([(0 : Int)] : List Int), .ints .i64 ([(0 : Int)] : List Int), .ints .i64 ([(0 : Int)] : List Int), .ints .i64 ([(0 : Int)] : List Int), .vals [(.sl 0 (0 : Nat) (none : Option Nat) (none : Option Nat))], .vals [.nils], .vals [.nils]], 36, false, true⟩]) (K (.exit 0) (selE 62 [(2, (.S xs_2)), (3, (.ptr 1 (0 : Nat) 0)), (6, .undef), (7, .undef)]) [⟨[.strs ss_m_0_0, .ints .i64 xs_m_0_1, .ints .i64 xs_m_0_2, .ints .i64 xs_m_0_3, .ints .i64 xs_m_0_4], 29, true, false⟩, ⟨[.vals [.nils], .ints .i64 ([(0 : Int)] : List Int), .ints .i64 ([(0 : Int)] : List Int), .ints .i64 ([(0 : Int)] : List Int), .ints .i64 ([(0 : Int)] : List Int), .vals [(.sl 0 (0 : Nat) (none : Option Nat) (none : Option Nat))], .vals [.nils], .vals [.nils]], 36, false, true⟩])) ?_
    funext i_8
    exact ih i_1 xs_2 i_8 ss_m_0_0 xs_m_0_1 xs_m_0_2 xs_m_0_3 xs_m_0_4
def GL5_2 : YL5_2 := fun x i_1 xs_2 i_8 ss_m_0_0 xs_m_0_1 xs_m_0_2 xs_m_0_3 xs_m_0_4 k1 k2 => x = XL5_2 ∧ ∃ n, RL5_2  n i_1 xs_2 i_8 ss_m_0_0 xs_m_0_1 xs_m_0_2 xs_m_0_3 xs_m_0_4 k1 k2
def VL5_2 (l : YL5_2) (F : Prop) (x : Code) (ρ : Env) (m : Mem) (K : Ex → Env → Mem → Prop) : Prop :=
  match ρ.has (62 - 1) with
  | true => (seeI .i64 (ρ.get 1) F fun i_1 => (seeS (ρ.get 2) F fun xs_2 => (seeV (.ptr 1 (0 : Nat) 0) (ρ.get 3) F (seeI .i64 (ρ.get 8) F fun i_8 => (seeCons m F fun a5 q6 => (seeBlk 29 true false a5 F fun cs7 => (seeCons cs7 F fun a8 q9 => (seeStrs a8 F fun ss_m_0_0 => (seeCons q9 F fun a10 q11 => (seeInts .i64 a10 F fun xs_m_0_1 => (seeCons q11 F fun a12 q13 => (seeInts .i64 a12 F fun xs_m_0_2 => (seeCons q13 F fun a14 q15 => (seeInts .i64 a14 F fun xs_m_0_3 => (seeCons q15 F fun a16 q17 => (seeInts .i64 a16 F fun xs_m_0_4 => (seeNil q17 F (seeCons q6 F fun a18 q19 => (seeBlk 36 false true a18 F fun cs20 => (seeCons cs20 F fun a21 q22 => (seeVals a21 F fun xs23 => (seeCons xs23 F fun a24 q25 => (seeV .nils a24 F (seeNil q25 F (seeCons q22 F fun a26 q27 => (seeInts .i64 a26 F fun xs28 => (seeX ([(0 : Int)] : List Int) xs28 F (seeCons q27 F fun a29 q30 => (seeInts .i64 a29 F fun xs31 => (seeX ([(0 : Int)] : List Int) xs31 F (seeCons q30 F fun a32 q33 => (seeInts .i64 a32 F fun xs34 => (seeX ([(0 : Int)] : List Int) xs34 F (seeCons q33 F fun a35 q36 => (seeInts .i64 a35 F fun xs37 => (seeX ([(0 : Int)] : List Int) xs37 F (seeCons q36 F fun a38 q39 => (seeVals a38 F fun xs40 => (seeCons xs40 F fun a41 q42 => (seeV (.sl 0 (0 : Nat) (none : Option Nat) (none : Option Nat)) a41 F (seeNil q42 F (seeCons q39 F fun a43 q44 => (seeVals a43 F fun xs45 => (seeCons xs45 F fun a46 q47 => (seeV .nils a46 F (seeNil q47 F (seeCons q44 F fun a48 q49 => (seeVals a48 F fun xs50 => (seeCons xs50 F fun a51 q52 => (seeV .nils a51 F (seeNil q52 F (seeNil q49 F (seeNil q19 F (l x i_1 xs_2 i_8 ss_m_0_0 xs_m_0_1 xs_m_0_2 xs_m_0_3 xs_m_0_4 (fun (u0 : Int) => K .ret (selE 62 [(2, (.S xs_2)), (3, (.ptr 1 (0 : Nat) 0)), (6, (.I .i64 u0)), (7, (.B true))]) [⟨[.strs ss_m_0_0, .ints .i64 xs_m_0_1, .ints .i64 xs_m_0_2, .ints .i64 xs_m_0_3, .ints .i64 xs_m_0_4], 29, true, false⟩, ⟨[.vals [.nils], .ints .i64 ([(0 : Int)] : List Int), .ints .i64 ([(0 : Int)] : List Int), .ints .i64 ([(0 : Int)] : List Int), .ints .i64 ([(0 : Int)] : List Int), .vals [(.sl 0 (0 : Nat) (none : Option Nat) (none : Option Nat))], .vals [.nils], .vals [.nils]], 36, false, true⟩]) (K (.exit 0) (selE 62 [(2, (.S xs_2)), (3, (.ptr 1 (0 : Nat) 0)), (6, .undef), (7, .undef)]) [⟨[.strs ss_m_0_0, .ints .i64 xs_m_0_1, .ints .i64 xs_m_0_2, .ints .i64 xs_m_0_3, .ints .i64 xs_m_0_4], 29, true, false⟩, ⟨[.vals [.nils], .ints .i64 ([(0 : Int)] : List Int), .ints .i64 ([(0 : Int)] : List Int), .ints .i64 ([(0 : Int)] : List Int), .ints .i64 ([(0 : Int)] : List Int), .vals [(.sl 0 (0 : Nat) (none : Option Nat) (none : Option Nat))], .vals [.nils], .vals [.nils]], 36, false, true⟩])))))))))))))))))))))))))))))))))))))))))))))))))))))))
  | false => False
def WL5_2 (l : YL5_2) (W : Masks) : Masks := fun r =>
  match Nat.beq r 2 with
  | true => some fun x ρ m K => VL5_2 l (match W r with | some lf => lf x ρ m K | none => False) x (tidyE 1 [1, 2, 3, 8] ρ m) (tidyM 1 [1, 2, 3, 8] ρ m) K
  | false => W r
set_option maxRecDepth 100000 in
theorem WL5_2_ok {W : Masks} (hW : LoopsOk Tryz.prog 1 W) : LoopsOk Tryz.prog 1 (WL5_2 GL5_2 W) := by
  intro r lf h
  unfold WL5_2 at h
  split at h
  · cases h
    intro x E0 m0 w0 ds hS0 ha ρ m K E a w Q hS hρ hd h hQ
    have fb : (match W r with | some lf => lf x ρ m K | none => False) → (Code.loop x).wp Tryz.prog Q a w := fun h => by
      split at h
      · rename_i lf hlf
        exact hW r lf hlf x hS0 ha ρ m K E a w Q hS hρ hd h hQ
      · cases h
    obtain ⟨E2, hS2, hρ2⟩ := tidy_rel hS0 hS hρ [1, 2, 3, 8]
    rw [ha] at hS2 hρ2
    unfold VL5_2 at h
    split at h
    · rename_i hlen
      replace h := seeI_use h
      rcases h with h | ⟨i_1, e1, h⟩
      · exact fb h
      replace h := seeS_use h
      rcases h with h | ⟨xs_2, e2, h⟩
      · exact fb h
      replace h := seeV_use h
      rcases h with h | ⟨e3, h⟩
      · exact fb h
      replace h := seeI_use h
      rcases h with h | ⟨i_8, e4, h⟩
      · exact fb h
      replace h := seeCons_use h
      rcases h with h | ⟨a5, q6, eqm, h⟩
      · exact fb h
      replace h := seeBlk_use h
      rcases h with h | ⟨cs7, rfl, h⟩
      · exact fb h
      replace h := seeCons_use h
      rcases h with h | ⟨a8, q9, rfl, h⟩
      · exact fb h
      replace h := seeStrs_use h
      rcases h with h | ⟨ss_m_0_0, rfl, h⟩
      · exact fb h
      replace h := seeCons_use h
      rcases h with h | ⟨a10, q11, rfl, h⟩
      · exact fb h
      replace h := seeInts_use h
      rcases h with h | ⟨xs_m_0_1, rfl, h⟩
      · exact fb h
      replace h := seeCons_use h
      rcases h with h | ⟨a12, q13, rfl, h⟩
      · exact fb h
      replace h := seeInts_use h
      rcases h with h | ⟨xs_m_0_2, rfl, h⟩
      · exact fb h
      replace h := seeCons_use h
      rcases h with h | ⟨a14, q15, rfl, h⟩
      · exact fb h
      replace h := seeInts_use h
      rcases h with h | ⟨xs_m_0_3, rfl, h⟩
      · exact fb h
      replace h := seeCons_use h
      rcases h with h | ⟨a16, q17, rfl, h⟩
      · exact fb h
      replace h := seeInts_use h
      rcases h with h | ⟨xs_m_0_4, rfl, h⟩
      · exact fb h
      replace h := seeNil_use h
      rcases h with h | ⟨rfl, h⟩
      · exact fb h
      replace h := seeCons_use h
      rcases h with h | ⟨a18, q19, rfl, h⟩
      · exact fb h
      replace h := seeBlk_use h
      rcases h with h | ⟨cs20, rfl, h⟩
      · exact fb h
      replace h := seeCons_use h
      rcases h with h | ⟨a21, q22, rfl, h⟩
      · exact fb h
      replace h := seeVals_use h
      rcases h with h | ⟨xs23, rfl, h⟩
      · exact fb h
      replace h := seeCons_use h
      rcases h with h | ⟨a24, q25, rfl, h⟩
      · exact fb h
      replace h := seeV_use h
      rcases h with h | ⟨rfl, h⟩
      · exact fb h
      replace h := seeNil_use h
      rcases h with h | ⟨rfl, h⟩
      · exact fb h
      replace h := seeCons_use h
      rcases h with h | ⟨a26, q27, rfl, h⟩
      · exact fb h
      replace h := seeInts_use h
      rcases h with h | ⟨xs28, rfl, h⟩
      · exact fb h
      replace h := seeX_use h
      rcases h with h | ⟨rfl, h⟩
      · exact fb h
      replace h := seeCons_use h
      rcases h with h | ⟨a29, q30, rfl, h⟩
      · exact fb h
      replace h := seeInts_use h
      rcases h with h | ⟨xs31, rfl, h⟩
      · exact fb h
      replace h := seeX_use h
      rcases h with h | ⟨rfl, h⟩
      · exact fb h
      replace h := seeCons_use h
      rcases h with h | ⟨a32, q33, rfl, h⟩
      · exact fb h
      replace h := seeInts_use h
      rcases h with h | ⟨xs34, rfl, h⟩
      · exact fb h
      replace h := seeX_use h
      rcases h with h | ⟨rfl, h⟩
      · exact fb h
      replace h := seeCons_use h
      rcases h with h | ⟨a35, q36, rfl, h⟩
      · exact fb h
      replace h := seeInts_use h
      rcases h with h | ⟨xs37, rfl, h⟩
      · exact fb h
      replace h := seeX_use h
      rcases h with h | ⟨rfl, h⟩
      · exact fb h
      replace h := seeCons_use h
      rcases h with h | ⟨a38, q39, rfl, h⟩
      · exact fb h
      replace h := seeVals_use h
      rcases h with h | ⟨xs40, rfl, h⟩
      · exact fb h
      replace h := seeCons_use h
      rcases h with h | ⟨a41, q42, rfl, h⟩
      · exact fb h
      replace h := seeV_use h
      rcases h with h | ⟨rfl, h⟩
      · exact fb h
      replace h := seeNil_use h
      rcases h with h | ⟨rfl, h⟩
      · exact fb h
      replace h := seeCons_use h
      rcases h with h | ⟨a43, q44, rfl, h⟩
      · exact fb h
      replace h := seeVals_use h
      rcases h with h | ⟨xs45, rfl, h⟩
      · exact fb h
      replace h := seeCons_use h
      rcases h with h | ⟨a46, q47, rfl, h⟩
      · exact fb h
      replace h := seeV_use h
      rcases h with h | ⟨rfl, h⟩
      · exact fb h
      replace h := seeNil_use h
      rcases h with h | ⟨rfl, h⟩
      · exact fb h
      replace h := seeCons_use h
      rcases h with h | ⟨a48, q49, rfl, h⟩
      · exact fb h
      replace h := seeVals_use h
      rcases h with h | ⟨xs50, rfl, h⟩
      · exact fb h
      replace h := seeCons_use h
      rcases h with h | ⟨a51, q52, rfl, h⟩
      · exact fb h
      replace h := seeV_use h
      rcases h with h | ⟨rfl, h⟩
      · exact fb h
      replace h := seeNil_use h
      rcases h with h | ⟨rfl, h⟩
      · exact fb h
      replace h := seeNil_use h
      rcases h with h | ⟨rfl, h⟩
      · exact fb h
      replace h := seeNil_use h
      rcases h with h | ⟨rfl, h⟩
      · exact fb h
      obtain ⟨rfl, n, h⟩ := h
      exact loop_use named C3_ok (LoopsOk.none _ _) (RL5_2_ok  K n _ _ _ _ _ _ _ _) h hS0 ha hlen ⟨e1, e2, e3, e4, trivial⟩ (eqm ▸ hS2) hρ2 hd hQ
    · cases h
  · exact hW r lf h
abbrev YL5_7 : Type := Code → List Int → Int → List (List Int) → List Int → List Int → List Int → List Int → (Int → Prop) → (Prop) → Prop
set_option maxHeartbeats 4000000 in
set_option maxRecDepth 100000 in
def HL5_7  (rec : Int → Prop) (xs_2 : List Int) (i_9 : Int) (ss_m_0_0 : List (List Int)) (xs_m_0_1 : List Int) (xs_m_0_2 : List Int) (xs_m_0_3 : List Int) (xs_m_0_4 : List Int) (k1 : Int → Prop) (k2 : Prop) : Prop :=
  (bif (decide (i_9 < ((((List.length ss_m_0_0) - (0 : Nat)) : Nat) : Int))) then (bif ((decide ((0 : Int) ≤ i_9)) && (decide (i_9 < ((((List.length ss_m_0_0) - (0 : Nat)) : Nat) : Int)))) then (bif ((List.getD ss_m_0_0 (Int.toNat i_9) ([] : List Int)) == xs_2) then (bif ((decide ((0 : Int) ≤ i_9)) && (decide (i_9 < ((((List.length ss_m_0_0) - (0 : Nat)) : Nat) : Int)))) then (k1 (List.getD xs_m_0_2 (Int.toNat i_9) (0 : Int))) else False) else (rec (IntKind.wrap .i64 (i_9 + (1 : Int))))) else False) else (k2))
def RL5_7  : Nat → List Int → Int → List (List Int) → List Int → List Int → List Int → List Int → (Int → Prop) → (Prop) → Prop
  | 0, _, _, _, _, _, _, _, _, _ => False
  | n + 1, xs_2, i_9, ss_m_0_0, xs_m_0_1, xs_m_0_2, xs_m_0_3, xs_m_0_4, k1, k2 => HL5_7  (fun (i_9 : Int) => RL5_7  n xs_2 i_9 ss_m_0_0 xs_m_0_1 xs_m_0_2 xs_m_0_3 xs_m_0_4 k1 k2) xs_2 i_9 ss_m_0_0 xs_m_0_1 xs_m_0_2 xs_m_0_3 xs_m_0_4 k1 k2
noncomputable def XL5_7 : Code := sub [true, true, false, true, false, false] (bodyOf Tryz.prog 5)
theorem HL5_7_ok  (n : Nat) (xs_2 : List Int) (i_9 : Int) (ss_m_0_0 : List (List Int)) (xs_m_0_1 : List Int) (xs_m_0_2 : List Int) (xs_m_0_3 : List Int) (xs_m_0_4 : List Int) (K : Ex → Env → Mem → Prop) : cround 1 [2, 3, 9] [6, 7] (fun ρ m K => cexec Tryz.prog C3 (fun _ => none) 1 1000 XL5_7 ρ m K) (n + 1) (selE 62 [(2, (.S xs_2)), (3, (.ptr 1 (0 : Nat) 0)), (9, (.I .i64 i_9))]) [⟨[.strs ss_m_0_0, .ints .i64 xs_m_0_1, .ints .i64 xs_m_0_2, .ints .i64 xs_m_0_3, .ints .i64 xs_m_0_4], 29, true, false⟩, ⟨[.vals [.nils], .ints .i64 ([(0 : Int)] : List Int), .ints .i64 ([(0 : Int)] : List Int), .ints .i64 ([(0 : Int)] : List Int), .ints .i64 ([(0 : Int)] : List Int), .vals [(.sl 0 (0 : Nat) (none : Option Nat) (none : Option Nat))], .vals [.nils], .vals [.nils]], 36, false, true⟩] K =
    HL5_7  (fun (i_9 : Int) => cround 1 [2, 3, 9] [6, 7] (fun ρ m K => cexec Tryz.prog C3 (fun _ => none) 1 1000 XL5_7 ρ m K) n (selE 62 [(2, (.S xs_2)), (3, (.ptr 1 (0 : Nat) 0)), (9, (.I .i64 i_9))]) [⟨[.strs ss_m_0_0, .ints .i64 xs_m_0_1, .ints .i64 xs_m_0_2, .ints .i64 xs_m_0_3, .ints .i64 xs_m_0_4], 29, true, false⟩, ⟨[.vals [.nils], .ints .i64 ([(0 : Int)] : List Int), .ints .i64 ([(0 : Int)] : List Int), .ints .i64 ([(0 : Int)] : List Int), .ints .i64 ([(0 : Int)] : List Int), .vals [(.sl 0 (0 : Nat) (none : Option Nat) (none : Option Nat))], .vals [.nils], .vals [.nils]], 36, false, true⟩] K) xs_2 i_9 ss_m_0_0 xs_m_0_1 xs_m_0_2 xs_m_0_3 xs_m_0_4 (fun (u0 : Int) => K .ret (selE 62 [(6, (.I .i64 u0)), (7, (.B true))]) [⟨[.strs ss_m_0_0, .ints .i64 xs_m_0_1, .ints .i64 xs_m_0_2, .ints .i64 xs_m_0_3, .ints .i64 xs_m_0_4], 29, true, false⟩]) (K (.exit 2) (selE 62 [(6, .undef), (7, .undef)]) [⟨[.strs ss_m_0_0, .ints .i64 xs_m_0_1, .ints .i64 xs_m_0_2, .ints .i64 xs_m_0_3, .ints .i64 xs_m_0_4], 29, true, false⟩]) := by kernel_rfl
theorem RL5_7_ok  (K : Ex → Env → Mem → Prop) : ∀ (n : Nat) (xs_2 : List Int) (i_9 : Int) (ss_m_0_0 : List (List Int)) (xs_m_0_1 : List Int) (xs_m_0_2 : List Int) (xs_m_0_3 : List Int) (xs_m_0_4 : List Int), cround 1 [2, 3, 9] [6, 7] (fun ρ m K => cexec Tryz.prog C3 (fun _ => none) 1 1000 XL5_7 ρ m K) n (selE 62 [(2, (.S xs_2)), (3, (.ptr 1 (0 : Nat) 0)), (9, (.I .i64 i_9))]) [⟨[.strs ss_m_0_0, .ints .i64 xs_m_0_1, .ints .i64 xs_m_0_2, .ints .i64 xs_m_0_3, .ints .i64 xs_m_0_4], 29, true, false⟩, ⟨[.vals [.nils], .ints .i64 ([(0 : Int)] : List Int), .ints .i64 ([(0 : Int)] : List Int), .ints .i64 ([(0 : Int)] : List Int), .ints .i64 ([(0 : Int)] : List Int), .vals [(.sl 0 (0 : Nat) (none : Option Nat) (none : Option Nat))], .vals [.nils], .vals [.nils]], 36, false, true⟩] K = RL5_7  n xs_2 i_9 ss_m_0_0 xs_m_0_1 xs_m_0_2 xs_m_0_3 xs_m_0_4 (fun (u0 : Int) => K .ret (selE 62 [(6, (.I .i64 u0)), (7, (.B true))]) [⟨[.strs ss_m_0_0, .ints .i64 xs_m_0_1, .ints .i64 xs_m_0_2, .ints .i64 xs_m_0_3, .ints .i64 xs_m_0_4], 29, true, false⟩]) (K (.exit 2) (selE 62 [(6, .undef), (7, .undef)]) [⟨[.strs ss_m_0_0, .ints .i64 xs_m_0_1, .ints .i64 xs_m_0_2, .ints .i64 xs_m_0_3, .ints .i64 xs_m_0_4], 29, true, false⟩])
  | 0, xs_2, i_9, ss_m_0_0, xs_m_0_1, xs_m_0_2, xs_m_0_3, xs_m_0_4 => rfl
  | n + 1, xs_2, i_9, ss_m_0_0, xs_m_0_1, xs_m_0_2, xs_m_0_3, xs_m_0_4 => by
    have ih := RL5_7_ok  K n
    rw [HL5_7_ok  n xs_2 i_9 ss_m_0_0 xs_m_0_1 xs_m_0_2 xs_m_0_3 xs_m_0_4 K]
    show HL5_7  _ xs_2 i_9 ss_m_0_0 xs_m_0_1 xs_m_0_2 xs_m_0_3 xs_m_0_4 (fun (u0 : Int) => K .ret (selE 62 [(6, (.I .i64 u0)), (7, (.B true))]) [⟨[.strs ss_m_0_0, .ints .i64 xs_m_0_1, .ints .i64 xs_m_0_2, .ints .i64 xs_m_0_3, .ints .i64 xs_m_0_4], 29, true, false⟩]) (K (.exit 2) (selE 62 [(6, .undef), (7, .undef)]) [⟨[.strs ss_m_0_0, .ints .i64 xs_m_0_1, .ints .i64 xs_m_0_2, .ints .i64 xs_m_0_3, .ints .i64 xs_m_0_4], 29, true, false⟩]) = HL5_7  _ xs_2 i_9 ss_m_0_0 xs_m_0_1 xs_m_0_2 xs_m_0_3 xs_m_0_4 (fun (u0 : Int) => K .ret (selE 62 [(6, (.I .i64 u0)), (7, (.B true))]) [⟨[.strs ss_m_0_0, .ints .i64 xs_m_0_1, .ints .i64 xs_m_0_2, .ints .i64 xs_m_0_3, .ints .i64 xs_m_0_4], 29, true, false⟩]) (K (.exit 2) (selE 62 [(6, .undef), (7, .undef)]) [⟨[.strs ss_m_0_0, .ints .i64 xs_m_0_1, .ints .i64 xs_m_0_2, .ints .i64 xs_m_0_3, .ints .i64 xs_m_0_4], 29, true, false⟩])
    refine congrArg (fun r => HL5_7  r xs_2 i_9 ss_m_0_0 xs_m_0_1 xs_m_0_2 xs_m_0_3 xs_m_0_4 (fun (u0 : Int) => K .ret (selE 62 [(6, (.I .i64 u0)), (7, (.B true))]) [⟨[.strs ss_m_0_0, .ints .i64 xs_m_0_1, .ints .i64 xs_m_0_2, .ints .i64 xs_m_0_3, .ints .i64 xs_m_0_4], 29, true, false⟩]) (K (.exit 2) (selE 62 [(6, .undef), (7, .undef)]) [⟨[.strs ss_m_0_0, .ints .i64 xs_m_0_1, .ints .i64 xs_m_0_2, .ints .i64 xs_m_0_3, .ints .i64 xs_m_0_4], 29, true, false⟩])) ?_
    funext i_9
    exact ih xs_2 i_9 ss_m_0_0 xs_m_0_1 xs_m_0_2 xs_m_0_3 xs_m_0_4
def GL5_7 : YL5_7 := fun x xs_2 i_9 ss_m_0_0 xs_m_0_1 xs_m_0_2 xs_m_0_3 xs_m_0_4 k1 k2 => x = XL5_7 ∧ ∃ n, RL5_7  n xs_2 i_9 ss_m_0_0 xs_m_0_1 xs_m_0_2 xs_m_0_3 xs_m_0_4 k1 k2
def VL5_7 (l : YL5_7) (F : Prop) (x : Code) (ρ : Env) (m : Mem) (K : Ex → Env → Mem → Prop) : Prop :=
  match ρ.has (62 - 1) with
  | true => (seeS (ρ.get 2) F fun xs_2 => (seeV (.ptr 1 (0 : Nat) 0) (ρ.get 3) F (seeI .i64 (ρ.get 9) F fun i_9 => (seeCons m F fun a4 q5 => (seeBlk 29 true false a4 F fun cs6 => (seeCons cs6 F fun a7 q8 => (seeStrs a7 F fun ss_m_0_0 => (seeCons q8 F fun a9 q10 => (seeInts .i64 a9 F fun xs_m_0_1 => (seeCons q10 F fun a11 q12 => (seeInts .i64 a11 F fun xs_m_0_2 => (seeCons q12 F fun a13 q14 => (seeInts .i64 a13 F fun xs_m_0_3 => (seeCons q14 F fun a15 q16 => (seeInts .i64 a15 F fun xs_m_0_4 => (seeNil q16 F (seeCons q5 F fun a17 q18 => (seeBlk 36 false true a17 F fun cs19 => (seeCons cs19 F fun a20 q21 => (seeVals a20 F fun xs22 => (seeCons xs22 F fun a23 q24 => (seeV .nils a23 F (seeNil q24 F (seeCons q21 F fun a25 q26 => (seeInts .i64 a25 F fun xs27 => (seeX ([(0 : Int)] : List Int) xs27 F (seeCons q26 F fun a28 q29 => (seeInts .i64 a28 F fun xs30 => (seeX ([(0 : Int)] : List Int) xs30 F (seeCons q29 F fun a31 q32 => (seeInts .i64 a31 F fun xs33 => (seeX ([(0 : Int)] : List Int) xs33 F (seeCons q32 F fun a34 q35 => (seeInts .i64 a34 F fun xs36 => (seeX ([(0 : Int)] : List Int) xs36 F (seeCons q35 F fun a37 q38 => (seeVals a37 F fun xs39 => (seeCons xs39 F fun a40 q41 => (seeV (.sl 0 (0 : Nat) (none : Option Nat) (none : Option Nat)) a40 F (seeNil q41 F (seeCons q38 F fun a42 q43 => (seeVals a42 F fun xs44 => (seeCons xs44 F fun a45 q46 => (seeV .nils a45 F (seeNil q46 F (seeCons q43 F fun a47 q48 => (seeVals a47 F fun xs49 => (seeCons xs49 F fun a50 q51 => (seeV .nils a50 F (seeNil q51 F (seeNil q48 F (seeNil q18 F (l x xs_2 i_9 ss_m_0_0 xs_m_0_1 xs_m_0_2 xs_m_0_3 xs_m_0_4 (fun (u0 : Int) => K .ret (selE 62 [(6, (.I .i64 u0)), (7, (.B true))]) [⟨[.strs ss_m_0_0, .ints .i64 xs_m_0_1, .ints .i64 xs_m_0_2, .ints .i64 xs_m_0_3, .ints .i64 xs_m_0_4], 29, true, false⟩]) (K (.exit 2) (selE 62 [(6, .undef), (7, .undef)]) [⟨[.strs ss_m_0_0, .ints .i64 xs_m_0_1, .ints .i64 xs_m_0_2, .ints .i64 xs_m_0_3, .ints .i64 xs_m_0_4], 29, true, false⟩]))))))))))))))))))))))))))))))))))))))))))))))))))))))
  | false => False
def WL5_7 (l : YL5_7) (W : Masks) : Masks := fun r =>
  match Nat.beq r 7 with
  | true => some fun x ρ m K => VL5_7 l (match W r with | some lf => lf x ρ m K | none => False) x (tidyE 1 [2, 3, 9] ρ m) (tidyM 1 [2, 3, 9] ρ m) K
  | false => W r
set_option maxRecDepth 100000 in
theorem WL5_7_ok {W : Masks} (hW : LoopsOk Tryz.prog 1 W) : LoopsOk Tryz.prog 1 (WL5_7 GL5_7 W) := by
  intro r lf h
  unfold WL5_7 at h
  split at h
  · cases h
    intro x E0 m0 w0 ds hS0 ha ρ m K E a w Q hS hρ hd h hQ
    have fb : (match W r with | some lf => lf x ρ m K | none => False) → (Code.loop x).wp Tryz.prog Q a w := fun h => by
      split at h
      · rename_i lf hlf
        exact hW r lf hlf x hS0 ha ρ m K E a w Q hS hρ hd h hQ
      · cases h
    obtain ⟨E2, hS2, hρ2⟩ := tidy_rel hS0 hS hρ [2, 3, 9]
    rw [ha] at hS2 hρ2
    unfold VL5_7 at h
    split at h
    · rename_i hlen
      replace h := seeS_use h
      rcases h with h | ⟨xs_2, e1, h⟩
      · exact fb h
      replace h := seeV_use h
      rcases h with h | ⟨e2, h⟩
      · exact fb h
      replace h := seeI_use h
      rcases h with h | ⟨i_9, e3, h⟩
      · exact fb h
      replace h := seeCons_use h
      rcases h with h | ⟨a4, q5, eqm, h⟩
      · exact fb h
      replace h := seeBlk_use h
      rcases h with h | ⟨cs6, rfl, h⟩
      · exact fb h
      replace h := seeCons_use h
      rcases h with h | ⟨a7, q8, rfl, h⟩
      · exact fb h
      replace h := seeStrs_use h
      rcases h with h | ⟨ss_m_0_0, rfl, h⟩
      · exact fb h
      replace h := seeCons_use h
      rcases h with h | ⟨a9, q10, rfl, h⟩
      · exact fb h
      replace h := seeInts_use h
      rcases h with h | ⟨xs_m_0_1, rfl, h⟩
      · exact fb h
      replace h := seeCons_use h
      rcases h with h | ⟨a11, q12, rfl, h⟩
      · exact fb h
      replace h := seeInts_use h
      rcases h with h | ⟨xs_m_0_2, rfl, h⟩
      · exact fb h
      replace h := seeCons_use h
      rcases h with h | ⟨a13, q14, rfl, h⟩
      · exact fb h
      replace h := seeInts_use h
      rcases h with h | ⟨xs_m_0_3, rfl, h⟩
      · exact fb h
      replace h := seeCons_use h
      rcases h with h | ⟨a15, q16, rfl, h⟩
      · exact fb h
      replace h := seeInts_use h
      rcases h with h | ⟨xs_m_0_4, rfl, h⟩
      · exact fb h
      replace h := seeNil_use h
      rcases h with h | ⟨rfl, h⟩
      · exact fb h
      replace h := seeCons_use h
      rcases h with h | ⟨a17, q18, rfl, h⟩
      · exact fb h
      replace h := seeBlk_use h
      rcases h with h | ⟨cs19, rfl, h⟩
      · exact fb h
      replace h := seeCons_use h
      rcases h with h | ⟨a20, q21, rfl, h⟩
      · exact fb h
      replace h := seeVals_use h
      rcases h with h | ⟨xs22, rfl, h⟩
      · exact fb h
      replace h := seeCons_use h
      rcases h with h | ⟨a23, q24, rfl, h⟩
      · exact fb h
      replace h := seeV_use h
      rcases h with h | ⟨rfl, h⟩
      · exact fb h
      replace h := seeNil_use h
      rcases h with h | ⟨rfl, h⟩
      · exact fb h
      replace h := seeCons_use h
      rcases h with h | ⟨a25, q26, rfl, h⟩
      · exact fb h
      replace h := seeInts_use h
      rcases h with h | ⟨xs27, rfl, h⟩
      · exact fb h
      replace h := seeX_use h
      rcases h with h | ⟨rfl, h⟩
      · exact fb h
      replace h := seeCons_use h
      rcases h with h | ⟨a28, q29, rfl, h⟩
      · exact fb h
      replace h := seeInts_use h
      rcases h with h | ⟨xs30, rfl, h⟩
      · exact fb h
      replace h := seeX_use h
      rcases h with h | ⟨rfl, h⟩
      · exact fb h
      replace h := seeCons_use h
      rcases h with h | ⟨a31, q32, rfl, h⟩
      · exact fb h
      replace h := seeInts_use h
      rcases h with h | ⟨xs33, rfl, h⟩
      · exact fb h
      replace h := seeX_use h
      rcases h with h | ⟨rfl, h⟩
      · exact fb h
      replace h := seeCons_use h
      rcases h with h | ⟨a34, q35, rfl, h⟩
      · exact fb h
      replace h := seeInts_use h
      rcases h with h | ⟨xs36, rfl, h⟩
      · exact fb h
      replace h := seeX_use h
      rcases h with h | ⟨rfl, h⟩
      · exact fb h
      replace h := seeCons_use h
      rcases h with h | ⟨a37, q38, rfl, h⟩
      · exact fb h
      replace h := seeVals_use h
      rcases h with h | ⟨xs39, rfl, h⟩
      · exact fb h
      replace h := seeCons_use h
      rcases h with h | ⟨a40, q41, rfl, h⟩
      · exact fb h
      replace h := seeV_use h
      rcases h with h | ⟨rfl, h⟩
      · exact fb h
      replace h := seeNil_use h
      rcases h with h | ⟨rfl, h⟩
      · exact fb h
      replace h := seeCons_use h
      rcases h with h | ⟨a42, q43, rfl, h⟩
      · exact fb h
      replace h := seeVals_use h
      rcases h with h | ⟨xs44, rfl, h⟩
      · exact fb h
      replace h := seeCons_use h
      rcases h with h | ⟨a45, q46, rfl, h⟩
      · exact fb h
      replace h := seeV_use h
      rcases h with h | ⟨rfl, h⟩
      · exact fb h
      replace h := seeNil_use h
      rcases h with h | ⟨rfl, h⟩
      · exact fb h
      replace h := seeCons_use h
      rcases h with h | ⟨a47, q48, rfl, h⟩
      · exact fb h
      replace h := seeVals_use h
      rcases h with h | ⟨xs49, rfl, h⟩
      · exact fb h
      replace h := seeCons_use h
      rcases h with h | ⟨a50, q51, rfl, h⟩
      · exact fb h
      replace h := seeV_use h
      rcases h with h | ⟨rfl, h⟩
      · exact fb h
      replace h := seeNil_use h
      rcases h with h | ⟨rfl, h⟩
      · exact fb h
      replace h := seeNil_use h
      rcases h with h | ⟨rfl, h⟩
      · exact fb h
      replace h := seeNil_use h
      rcases h with h | ⟨rfl, h⟩
      · exact fb h
      obtain ⟨rfl, n, h⟩ := h
      exact loop_use named C3_ok (LoopsOk.none _ _) (RL5_7_ok  K n _ _ _ _ _ _ _) h hS0 ha hlen ⟨e1, e2, e3, trivial⟩ (eqm ▸ hS2) hρ2 hd hQ
    · cases h
  · exact hW r lf h
theorem at5 : Tryz.prog.funcs[5]? = some (fnOf Tryz.prog 5) := by kernel_rfl
abbrev Y5 : Type := Int → List Int → List (List Int) → List Int → List Int → List Int → List Int → (Int → Prop) → (Prop) → Prop
set_option maxHeartbeats 4000000 in
set_option maxRecDepth 100000 in
def F5  (l5_2 : YL5_2) (l5_7 : YL5_7) (ob : Int) (nm : List Int) (ns : List (List Int)) (os : List Int) (ad : List Int) (zs : List Int) (ts : List Int) (k1 : Int → Prop) (k2 : Prop) : Prop :=
  (l5_2 XL5_2 ob nm (0 : Int) ns os ad zs ts (fun (n1 : Int) => (k1 n1)) ((l5_7 XL5_7 nm (0 : Int) ns os ad zs ts (fun (n2 : Int) => (k1 n2)) ((k2)))))
theorem F5_ok  (l5_2 : YL5_2) (l5_7 : YL5_7) (ob : Int) (nm : List Int) (ns : List (List Int)) (os : List Int) (ad : List Int) (zs : List Int) (ts : List Int) (K : V → Mem → Prop) : cbody Tryz.prog C3 (WL5_2 l5_2 (WL5_7 l5_7 (fun _ => none))) 1000 (fnOf Tryz.prog 5) [(.agg [.nils, (.I .i64 (0 : Int)), (.I .i64 (0 : Int)), (.I .i64 (0 : Int)), (.I .i64 (0 : Int)), (.sl 0 (0 : Nat) (none : Option Nat) (none : Option Nat)), .nils, .nils]), (.I .i64 ob), (.S nm)] [⟨[.strs ns, .ints .i64 os, .ints .i64 ad, .ints .i64 zs, .ints .i64 ts], 29, true, false⟩] K =
    F5  l5_2 l5_7 ob nm ns os ad zs ts (fun (u0 : Int) => K (.tup [(.I .i64 u0), (.B true)]) [⟨[.strs ns, .ints .i64 os, .ints .i64 ad, .ints .i64 zs, .ints .i64 ts], 29, true, false⟩]) (K (.tup [(.I .i64 (0 : Int)), (.B false)]) [⟨[.strs ns, .ints .i64 os, .ints .i64 ad, .ints .i64 zs, .ints .i64 ts], 29, true, false⟩]) := by kernel_rfl
def G5 : Y5 := F5  GL5_2 GL5_7
def VT5 (f : Y5) (F : Prop) (args : List V) (m : Mem) (K : V → Mem → Prop) : Prop :=
  (seeCons args F fun a1 q2 => (seeV (.agg [.nils, (.I .i64 (0 : Int)), (.I .i64 (0 : Int)), (.I .i64 (0 : Int)), (.I .i64 (0 : Int)), (.sl 0 (0 : Nat) (none : Option Nat) (none : Option Nat)), .nils, .nils]) a1 F (seeCons q2 F fun a3 q4 => (seeI .i64 a3 F fun ob => (seeCons q4 F fun a5 q6 => (seeS a5 F fun nm => (seeNil q6 F (seeCons m F fun a7 q8 => (seeBlk 29 true false a7 F fun cs9 => (seeCons cs9 F fun a10 q11 => (seeStrs a10 F fun ns => (seeCons q11 F fun a12 q13 => (seeInts .i64 a12 F fun os => (seeCons q13 F fun a14 q15 => (seeInts .i64 a14 F fun ad => (seeCons q15 F fun a16 q17 => (seeInts .i64 a16 F fun zs => (seeCons q17 F fun a18 q19 => (seeInts .i64 a18 F fun ts => (seeNil q19 F (seeNil q8 F (f ob nm ns os ad zs ts (fun (u0 : Int) => K (.tup [(.I .i64 u0), (.B true)]) [⟨[.strs ns, .ints .i64 os, .ints .i64 ad, .ints .i64 zs, .ints .i64 ts], 29, true, false⟩]) (K (.tup [(.I .i64 (0 : Int)), (.B false)]) [⟨[.strs ns, .ints .i64 os, .ints .i64 ad, .ints .i64 zs, .ints .i64 ts], 29, true, false⟩])))))))))))))))))))))))
def T5 (f : Y5) (C : CC) : CC := fun g args m K =>
  match Nat.beq g 5 with
  | true => VT5 f (C g args m K) args m K
  | false => C g args m K
set_option maxRecDepth 100000 in
theorem T5_ok {C : CC} (hC : CallsOk Tryz.prog C) : CallsOk Tryz.prog (T5 G5 C) := by
  intro g args m K E w cargs hS ha h
  unfold T5 at h
  split at h
  · rename_i hg
    obtain rfl := Nat.eq_of_beq_eq_true hg
    unfold VT5 at h
    replace h := seeCons_use h
    rcases h with h | ⟨a1, q2, rfl, h⟩
    · exact hC _ _ _ _ _ _ _ hS ha h
    replace h := seeV_use h
    rcases h with h | ⟨rfl, h⟩
    · exact hC _ _ _ _ _ _ _ hS ha h
    replace h := seeCons_use h
    rcases h with h | ⟨a3, q4, rfl, h⟩
    · exact hC _ _ _ _ _ _ _ hS ha h
    replace h := seeI_use h
    rcases h with h | ⟨ob, rfl, h⟩
    · exact hC _ _ _ _ _ _ _ hS ha h
    replace h := seeCons_use h
    rcases h with h | ⟨a5, q6, rfl, h⟩
    · exact hC _ _ _ _ _ _ _ hS ha h
    replace h := seeS_use h
    rcases h with h | ⟨nm, rfl, h⟩
    · exact hC _ _ _ _ _ _ _ hS ha h
    replace h := seeNil_use h
    rcases h with h | ⟨rfl, h⟩
    · exact hC _ _ _ _ _ _ _ hS ha h
    replace h := seeCons_use h
    rcases h with h | ⟨a7, q8, rfl, h⟩
    · exact hC _ _ _ _ _ _ _ hS ha h
    replace h := seeBlk_use h
    rcases h with h | ⟨cs9, rfl, h⟩
    · exact hC _ _ _ _ _ _ _ hS ha h
    replace h := seeCons_use h
    rcases h with h | ⟨a10, q11, rfl, h⟩
    · exact hC _ _ _ _ _ _ _ hS ha h
    replace h := seeStrs_use h
    rcases h with h | ⟨ns, rfl, h⟩
    · exact hC _ _ _ _ _ _ _ hS ha h
    replace h := seeCons_use h
    rcases h with h | ⟨a12, q13, rfl, h⟩
    · exact hC _ _ _ _ _ _ _ hS ha h
    replace h := seeInts_use h
    rcases h with h | ⟨os, rfl, h⟩
    · exact hC _ _ _ _ _ _ _ hS ha h
    replace h := seeCons_use h
    rcases h with h | ⟨a14, q15, rfl, h⟩
    · exact hC _ _ _ _ _ _ _ hS ha h
    replace h := seeInts_use h
    rcases h with h | ⟨ad, rfl, h⟩
    · exact hC _ _ _ _ _ _ _ hS ha h
    replace h := seeCons_use h
    rcases h with h | ⟨a16, q17, rfl, h⟩
    · exact hC _ _ _ _ _ _ _ hS ha h
    replace h := seeInts_use h
    rcases h with h | ⟨zs, rfl, h⟩
    · exact hC _ _ _ _ _ _ _ hS ha h
    replace h := seeCons_use h
    rcases h with h | ⟨a18, q19, rfl, h⟩
    · exact hC _ _ _ _ _ _ _ hS ha h
    replace h := seeInts_use h
    rcases h with h | ⟨ts, rfl, h⟩
    · exact hC _ _ _ _ _ _ _ hS ha h
    replace h := seeNil_use h
    rcases h with h | ⟨rfl, h⟩
    · exact hC _ _ _ _ _ _ _ hS ha h
    replace h := seeNil_use h
    rcases h with h | ⟨rfl, h⟩
    · exact hC _ _ _ _ _ _ _ hS ha h
    exact cbody_use named C3_ok at5 (l := 1) rfl (WL5_2_ok (WL5_7_ok (LoopsOk.none _ _))) (F5_ok  GL5_2 GL5_7 ob nm ns os ad zs ts K) hS ha h
  · exact hC _ _ _ _ _ _ _ hS ha h
abbrev YL3_3 : Type := Code → Int → List Int → Int → List (List Int) → List Int → List Int → List Int → List Int → List (List Int) → List Int → List Int → List Int → List Int → (List (List Int) → List Int → List Int → List Int → List Int → Prop) → Prop
set_option maxHeartbeats 4000000 in
set_option maxRecDepth 100000 in
def HL3_3  (rec : Int → List (List Int) → List Int → List Int → List Int → List Int → Prop) (i_1 : Int) (xs_2 : List Int) (i_8 : Int) (ss_m_0_0 : List (List Int)) (xs_m_0_1 : List Int) (xs_m_0_2 : List Int) (xs_m_0_3 : List Int) (xs_m_0_4 : List Int) (ss_m_2_0 : List (List Int)) (xs_m_2_1 : List Int) (xs_m_2_2 : List Int) (xs_m_2_3 : List Int) (xs_m_2_4 : List Int) (k1 : List (List Int) → List Int → List Int → List Int → List Int → Prop) : Prop :=
  (bif (decide (i_8 < ((((List.length ss_m_0_0) - (0 : Nat)) : Nat) : Int))) then (bif ((decide ((0 : Int) ≤ i_8)) && (decide (i_8 < ((((List.length ss_m_0_0) - (0 : Nat)) : Nat) : Int)))) then (bif ((decide ((0 : Int) ≤ i_8)) && (decide (i_8 < ((((List.length ss_m_0_0) - (0 : Nat)) : Nat) : Int)))) then (bif ((decide ((0 : Int) ≤ i_8)) && (decide (i_8 < ((((List.length ss_m_0_0) - (0 : Nat)) : Nat) : Int)))) then (bif ((decide ((0 : Int) ≤ i_8)) && (decide (i_8 < ((((List.length ss_m_0_0) - (0 : Nat)) : Nat) : Int)))) then (bif ((decide ((0 : Int) ≤ i_8)) && (decide (i_8 < ((((List.length ss_m_0_0) - (0 : Nat)) : Nat) : Int)))) then (bif (((([(List.getD ss_m_0_0 (Int.toNat i_8) ([] : List Int))] : List (List Int)) == ([(List.getD ss_m_0_0 (Int.toNat i_8) ([] : List Int))] : List (List Int))) && ((([(List.getD xs_m_0_1 (Int.toNat i_8) (0 : Int))] : List Int) == ([(List.getD xs_m_0_1 (Int.toNat i_8) (0 : Int))] : List Int)) && ((([(List.getD xs_m_0_2 (Int.toNat i_8) (0 : Int))] : List Int) == ([(List.getD xs_m_0_2 (Int.toNat i_8) (0 : Int))] : List Int)) && ((([(List.getD xs_m_0_3 (Int.toNat i_8) (0 : Int))] : List Int) == ([(List.getD xs_m_0_3 (Int.toNat i_8) (0 : Int))] : List Int)) && ((([(List.getD xs_m_0_4 (Int.toNat i_8) (0 : Int))] : List Int) == ([(List.getD xs_m_0_4 (Int.toNat i_8) (0 : Int))] : List Int)) && true))))) && ((((List.getD ss_m_0_0 (Int.toNat i_8) ([] : List Int)) == (List.getD ss_m_0_0 (Int.toNat i_8) ([] : List Int))) && (((List.getD xs_m_0_1 (Int.toNat i_8) (0 : Int)) == (List.getD xs_m_0_1 (Int.toNat i_8) (0 : Int))) && (((List.getD xs_m_0_2 (Int.toNat i_8) (0 : Int)) == (List.getD xs_m_0_2 (Int.toNat i_8) (0 : Int))) && (((List.getD xs_m_0_3 (Int.toNat i_8) (0 : Int)) == (List.getD xs_m_0_3 (Int.toNat i_8) (0 : Int))) && (((List.getD xs_m_0_4 (Int.toNat i_8) (0 : Int)) == (List.getD xs_m_0_4 (Int.toNat i_8) (0 : Int))) && true))))) && (((List.getD xs_m_0_4 (Int.toNat i_8) (0 : Int)) == (List.getD xs_m_0_4 (Int.toNat i_8) (0 : Int))) && ((((Int.toNat i_8) == (Int.toNat i_8)) && true) && ((((decide ((0 : Int) ≤ i_8)) && (decide (i_8 < ((((List.length ss_m_0_0) - (0 : Nat)) : Nat) : Int)))) && (((Int.toNat i_8) == (Int.toNat i_8)) && true)) && ((i_8 == i_8) && (((List.getD xs_m_0_3 (Int.toNat i_8) (0 : Int)) == (List.getD xs_m_0_3 (Int.toNat i_8) (0 : Int))) && ((((Int.toNat i_8) == (Int.toNat i_8)) && true) && ((((decide ((0 : Int) ≤ i_8)) && (decide (i_8 < ((((List.length ss_m_0_0) - (0 : Nat)) : Nat) : Int)))) && (((Int.toNat i_8) == (Int.toNat i_8)) && true)) && ((i_8 == i_8) && (((List.getD xs_m_0_2 (Int.toNat i_8) (0 : Int)) == (List.getD xs_m_0_2 (Int.toNat i_8) (0 : Int))) && ((((Int.toNat i_8) == (Int.toNat i_8)) && true) && ((((decide ((0 : Int) ≤ i_8)) && (decide (i_8 < ((((List.length ss_m_0_0) - (0 : Nat)) : Nat) : Int)))) && (((Int.toNat i_8) == (Int.toNat i_8)) && true)) && ((i_8 == i_8) && (((List.getD xs_m_0_1 (Int.toNat i_8) (0 : Int)) == (List.getD xs_m_0_1 (Int.toNat i_8) (0 : Int))) && ((((Int.toNat i_8) == (Int.toNat i_8)) && true) && ((((decide ((0 : Int) ≤ i_8)) && (decide (i_8 < ((((List.length ss_m_0_0) - (0 : Nat)) : Nat) : Int)))) && (((Int.toNat i_8) == (Int.toNat i_8)) && true)) && ((i_8 == i_8) && (((List.getD ss_m_0_0 (Int.toNat i_8) ([] : List Int)) == (List.getD ss_m_0_0 (Int.toNat i_8) ([] : List Int))) && ((((Int.toNat i_8) == (Int.toNat i_8)) && true) && ((((decide ((0 : Int) ≤ i_8)) && (decide (i_8 < ((((List.length ss_m_0_0) - (0 : Nat)) : Nat) : Int)))) && (((Int.toNat i_8) == (Int.toNat i_8)) && true)) && ((i_8 == i_8) && true)))))))))))))))))))))) then (bif ((decide (((((List.length ss_m_2_0) - (0 : Nat)) + (1 : Nat)) * (48 : Nat)) ≤ (140737488355328 : Nat))) && (decide ((((List.length ss_m_2_0) - (0 : Nat)) + (1 : Nat)) ≤ (140737488355328 : Nat)))) then (rec (IntKind.wrap .i64 (i_8 + (1 : Int))) (ss_m_2_0 ++ ([(List.getD ss_m_0_0 (Int.toNat i_8) ([] : List Int))] : List (List Int))) (xs_m_2_1 ++ ([(List.getD xs_m_0_1 (Int.toNat i_8) (0 : Int))] : List Int)) (xs_m_2_2 ++ ([(List.getD xs_m_0_2 (Int.toNat i_8) (0 : Int))] : List Int)) (xs_m_2_3 ++ ([(List.getD xs_m_0_3 (Int.toNat i_8) (0 : Int))] : List Int)) (xs_m_2_4 ++ ([(List.getD xs_m_0_4 (Int.toNat i_8) (0 : Int))] : List Int))) else False) else False) else False) else False) else False) else False) else False) else (k1 ss_m_2_0 xs_m_2_1 xs_m_2_2 xs_m_2_3 xs_m_2_4))
def RL3_3  : Nat → Int → List Int → Int → List (List Int) → List Int → List Int → List Int → List Int → List (List Int) → List Int → List Int → List Int → List Int → (List (List Int) → List Int → List Int → List Int → List Int → Prop) → Prop
  | 0, _, _, _, _, _, _, _, _, _, _, _, _, _, _ => False
  | n + 1, i_1, xs_2, i_8, ss_m_0_0, xs_m_0_1, xs_m_0_2, xs_m_0_3, xs_m_0_4, ss_m_2_0, xs_m_2_1, xs_m_2_2, xs_m_2_3, xs_m_2_4, k1 => HL3_3  (fun (i_8 : Int) (ss_m_2_0 : List (List Int)) (xs_m_2_1 : List Int) (xs_m_2_2 : List Int) (xs_m_2_3 : List Int) (xs_m_2_4 : List Int) => RL3_3  n i_1 xs_2 i_8 ss_m_0_0 xs_m_0_1 xs_m_0_2 xs_m_0_3 xs_m_0_4 ss_m_2_0 xs_m_2_1 xs_m_2_2 xs_m_2_3 xs_m_2_4 k1) i_1 xs_2 i_8 ss_m_0_0 xs_m_0_1 xs_m_0_2 xs_m_0_3 xs_m_0_4 ss_m_2_0 xs_m_2_1 xs_m_2_2 xs_m_2_3 xs_m_2_4 k1
noncomputable def XL3_3 : Code := sub [true, true, false, true, false, false] (bodyOf Tryz.prog 3)
theorem HL3_3_ok  (n : Nat) (i_1 : Int) (xs_2 : List Int) (i_8 : Int) (ss_m_0_0 : List (List Int)) (xs_m_0_1 : List Int) (xs_m_0_2 : List Int) (xs_m_0_3 : List Int) (xs_m_0_4 : List Int) (ss_m_2_0 : List (List Int)) (xs_m_2_1 : List Int) (xs_m_2_2 : List Int) (xs_m_2_3 : List Int) (xs_m_2_4 : List Int) (K : Ex → Env → Mem → Prop) : cround 1 [0, 1, 2, 7, 8] [0, 1, 2, 7] (fun ρ m K => cexec Tryz.prog C3 (fun _ => none) 1 1000 XL3_3 ρ m K) (n + 1) (selE 76 [(0, (.sl 0 (0 : Nat) (none : Option Nat) (none : Option Nat))), (1, (.I .i64 i_1)), (2, (.S xs_2)), (7, (.ptr 1 (0 : Nat) 0)), (8, (.I .i64 i_8))]) [⟨[.strs ss_m_0_0, .ints .i64 xs_m_0_1, .ints .i64 xs_m_0_2, .ints .i64 xs_m_0_3, .ints .i64 xs_m_0_4], 29, true, false⟩, ⟨[.vals [.nils], .ints .i64 ([(0 : Int)] : List Int), .ints .i64 ([(0 : Int)] : List Int), .ints .i64 ([(0 : Int)] : List Int), .ints .i64 ([(0 : Int)] : List Int), .vals [(.sl 2 (0 : Nat) (none : Option Nat) (none : Option Nat))], .vals [.nils], .vals [.nils]], 27, false, true⟩, ⟨[.strs ss_m_2_0, .ints .i64 xs_m_2_1, .ints .i64 xs_m_2_2, .ints .i64 xs_m_2_3, .ints .i64 xs_m_2_4], 30, false, true⟩] K =
    HL3_3  (fun (i_8 : Int) (ss_m_2_0 : List (List Int)) (xs_m_2_1 : List Int) (xs_m_2_2 : List Int) (xs_m_2_3 : List Int) (xs_m_2_4 : List Int) => cround 1 [0, 1, 2, 7, 8] [0, 1, 2, 7] (fun ρ m K => cexec Tryz.prog C3 (fun _ => none) 1 1000 XL3_3 ρ m K) n (selE 76 [(0, (.sl 0 (0 : Nat) (none : Option Nat) (none : Option Nat))), (1, (.I .i64 i_1)), (2, (.S xs_2)), (7, (.ptr 1 (0 : Nat) 0)), (8, (.I .i64 i_8))]) [⟨[.strs ss_m_0_0, .ints .i64 xs_m_0_1, .ints .i64 xs_m_0_2, .ints .i64 xs_m_0_3, .ints .i64 xs_m_0_4], 29, true, false⟩, ⟨[.vals [.nils], .ints .i64 ([(0 : Int)] : List Int), .ints .i64 ([(0 : Int)] : List Int), .ints .i64 ([(0 : Int)] : List Int), .ints .i64 ([(0 : Int)] : List Int), .vals [(.sl 2 (0 : Nat) (none : Option Nat) (none : Option Nat))], .vals [.nils], .vals [.nils]], 27, false, true⟩, ⟨[.strs ss_m_2_0, .ints .i64 xs_m_2_1, .ints .i64 xs_m_2_2, .ints .i64 xs_m_2_3, .ints .i64 xs_m_2_4], 30, false, true⟩] K) i_1 xs_2 i_8 ss_m_0_0 xs_m_0_1 xs_m_0_2 xs_m_0_3 xs_m_0_4 ss_m_2_0 xs_m_2_1 xs_m_2_2 xs_m_2_3 xs_m_2_4 (fun (u0 : List (List Int)) (u1 : List Int) (u2 : List Int) (u3 : List Int) (u4 : List Int) => K (.exit 0) (selE 76 [(0, (.sl 0 (0 : Nat) (none : Option Nat) (none : Option Nat))), (1, (.I .i64 i_1)), (2, (.S xs_2)), (7, (.ptr 1 (0 : Nat) 0))]) [⟨[.strs ss_m_0_0, .ints .i64 xs_m_0_1, .ints .i64 xs_m_0_2, .ints .i64 xs_m_0_3, .ints .i64 xs_m_0_4], 29, true, false⟩, ⟨[.vals [.nils], .ints .i64 ([(0 : Int)] : List Int), .ints .i64 ([(0 : Int)] : List Int), .ints .i64 ([(0 : Int)] : List Int), .ints .i64 ([(0 : Int)] : List Int), .vals [(.sl 2 (0 : Nat) (none : Option Nat) (none : Option Nat))], .vals [.nils], .vals [.nils]], 27, false, true⟩, ⟨[.strs u0, .ints .i64 u1, .ints .i64 u2, .ints .i64 u3, .ints .i64 u4], 30, false, true⟩]) := by kernel_rfl
theorem RL3_3_ok  (K : Ex → Env → Mem → Prop) : ∀ (n : Nat) (i_1 : Int) (xs_2 : List Int) (i_8 : Int) (ss_m_0_0 : List (List Int)) (xs_m_0_1 : List Int) (xs_m_0_2 : List Int) (xs_m_0_3 : List Int) (xs_m_0_4 : List Int) (ss_m_2_0 : List (List Int)) (xs_m_2_1 : List Int) (xs_m_2_2 : List Int) (xs_m_2_3 : List Int) (xs_m_2_4 : List Int), cround 1 [0, 1, 2, 7, 8] [0, 1, 2, 7] (fun ρ m K => cexec Tryz.prog C3 (fun _ => none) 1 1000 XL3_3 ρ m K) n (selE 76 [(0, (.sl 0 (0 : Nat) (none : Option Nat) (none : Option Nat))), (1, (.I .i64 i_1)), (2, (.S xs_2)), (7, (.ptr 1 (0 : Nat) 0)), (8, (.I .i64 i_8))]) [⟨[.strs ss_m_0_0, .ints .i64 xs_m_0_1, .ints .i64 xs_m_0_2, .ints .i64 xs_m_0_3, .ints .i64 xs_m_0_4], 29, true, false⟩, ⟨[.vals [.nils], .ints .i64 ([(0 : Int)] : List Int), .ints .i64 ([(0 : Int)] : List Int), .ints .i64 ([(0 : Int)] : List Int), .ints .i64 ([(0 : Int)] : List Int), .vals [(.sl 2 (0 : Nat) (none : Option Nat) (none : Option Nat))], .vals [.nils], .vals [.nils]], 27, false, true⟩, ⟨[.strs ss_m_2_0, .ints .i64 xs_m_2_1, .ints .i64 xs_m_2_2, .ints .i64 xs_m_2_3, .ints .i64 xs_m_2_4], 30, false, true⟩] K = RL3_3  n i_1 xs_2 i_8 ss_m_0_0 xs_m_0_1 xs_m_0_2 xs_m_0_3 xs_m_0_4 ss_m_2_0 xs_m_2_1 xs_m_2_2 xs_m_2_3 xs_m_2_4 (fun (u0 : List (List Int)) (u1 : List Int) (u2 : List Int) (u3 : List Int) (u4 : List Int) => K (.exit 0) (selE 76 [(0, (.sl 0 (0 : Nat) (none : Option Nat) (none : Option Nat))), (1, (.I .i64 i_1)), (2, (.S xs_2)), (7, (.ptr 1 (0 : Nat) 0))]) [⟨[.strs ss_m_0_0, .ints .i64 xs_m_0_1, .ints .i64 xs_m_0_2, .ints .i64 xs_m_0_3, .ints .i64 xs_m_0_4], 29, true, false⟩, ⟨[.vals [.nils], .ints .i64 ([(0 : Int)] : List Int), .ints .i64 ([(0 : Int)] : List Int), .ints .i64 ([(0 : Int)] : List Int), .ints .i64 ([(0 : Int)] : List Int), .vals [(.sl 2 (0 : Nat) (none : Option Nat) (none : Option Nat))], .vals [.nils], .vals [.nils]], 27, false, true⟩, ⟨[.strs u0, .ints .i64 u1, .ints .i64 u2, .ints .i64 u3, .ints .i64 u4], 30, false, true⟩])
  | 0, i_1, xs_2, i_8, ss_m_0_0, xs_m_0_1, xs_m_0_2, xs_m_0_3, xs_m_0_4, ss_m_2_0, xs_m_2_1, xs_m_2_2, xs_m_2_3, xs_m_2_4 => rfl
  | n + 1, i_1, xs_2, i_8, ss_m_0_0, xs_m_0_1, xs_m_0_2, xs_m_0_3, xs_m_0_4, ss_m_2_0, xs_m_2_1, xs_m_2_2, xs_m_2_3, xs_m_2_4 => by
    have ih := RL3_3_ok  K n
    rw [HL3_3_ok  n i_1 xs_2 i_8 ss_m_0_0 xs_m_0_1 xs_m_0_2 xs_m_0_3 xs_m_0_4 ss_m_2_0 xs_m_2_1 xs_m_2_2 xs_m_2_3 xs_m_2_4 K]
    show HL3_3  _ i_1 xs_2 i_8 ss_m_0_0 xs_m_0_1 xs_m_0_2 xs_m_0_3 xs_m_0_4 ss_m_2_0 xs_m_2_1 xs_m_2_2 xs_m_2_3 xs_m_2_4 (fun (u0 : List (List Int)) (u1 : List Int) (u2 : List Int) (u3 : List Int) (u4 : List Int) => K (.exit 0) (selE 76 [(0, (.sl 0 (0 : Nat) (none : Option Nat) (none : Option Nat))), (1, (.I .i64 i_1)), (2, (.S xs_2)), (7, (.ptr 1 (0 : Nat) 0))]) [⟨[.strs ss_m_0_0, .ints .i64 xs_m_0_1, .ints .i64 xs_m_0_2, .ints .i64 xs_m_0_3, .ints .i64 xs_m_0_4], 29, true, false⟩, ⟨[.vals [.nils], .ints .i64 ([(0 : Int)] : List Int), .ints .i64 ([(0 : Int)] : List Int), .ints .i64 ([(0 : Int)] : List Int), .ints .i64 ([(0 : Int)] : List Int), .vals [(.sl 2 (0 : Nat) (none : Option Nat) (none : Option Nat))], .vals [.nils], .vals [.nils]], 27, false, true⟩, ⟨[.strs u0, .ints .i64 u1, .ints .i64 u2, .ints .i64 u3, .ints .i64 u4], 30, false, true⟩]) = HL3_3  _ i_1 xs_2 i_8 ss_m_0_0 xs_m_0_1 xs_m_0_2 xs_m_0_3 xs_m_0_4 ss_m_2_0 xs_m_2_1 xs_m_2_2 xs_m_2_3 xs_m_2_4 (fun (u0 : List (List Int)) (u1 : List Int) (u2 : List Int) (u3 : List Int) (u4 : List Int) => K (.exit 0) (selE 76 [(0, (.sl 0 (0 : Nat) (none : Option Nat) (none : Option Nat))), (1, (.I .i64 i_1)), (2, (.S xs_2)), (7, (.ptr 1 (0 : Nat) 0))]) [⟨[.strs ss_m_0_0, .ints .i64 xs_m_0_1, .ints .i64 xs_m_0_2, .ints .i64 xs_m_0_3, .ints .i64 xs_m_0_4], 29, true, false⟩, ⟨[.vals [.nils], .ints .i64 ([(0 : Int)] : List Int), .ints .i64 ([(0 : Int)] : List Int), .ints .i64 ([(0 : Int)] : List Int), .ints .i64 ([(0 : Int)] : List Int), .vals [(.sl 2 (0 : Nat) (none : Option Nat) (none : Option Nat))], .vals [.nils], .vals [.nils]], 27, false, true⟩, ⟨[.strs u0, .ints .i64 u1, .ints .i64 u2, .ints .i64 u3, .ints .i64 u4], 30, false, true⟩])
    refine congrArg (fun r => HL3_3  r i_1 xs_2 i_8 ss_m_0_0 xs_m_0_1 xs_m_0_2 xs_m_0_3 xs_m_0_4 ss_m_2_0 xs_m_2_1 xs_m_2_2 xs_m_2_3 xs_m_2_4 (fun (u0 : List (List Int)) (u1 : List Int) (u2 : List Int) (u3 : List Int) (u4 : List Int) => K (.exit 0) (selE 76 [(0, (.sl 0 (0 : Nat) (none : Option Nat) (none : Option Nat))), (1, (.I .i64 i_1)), (2, (.S xs_2)), (7, (.ptr 1 (0 : Nat) 0))]) [⟨[.strs ss_m_0_0, .ints .i64 xs_m_0_1, .ints .i64 xs_m_0_2, .ints .i64 xs_m_0_3, .ints .i64 xs_m_0_4], 29, true, false⟩, ⟨[.vals [.nils], .ints .i64 ([(0 : Int)] : List Int), .ints .i64 ([(0 : Int)] : List Int), .ints .i64 ([(0 : Int)] : List Int), .ints .i64 ([(0 : Int)] : List Int), .vals [(.sl 2 (0 : Nat) (none : Option Nat) (none : Option Nat))], .vals [.nils], .vals [.nils]], 27, false, true⟩, ⟨[.strs u0, .ints .i64 u1, .ints .i64 u2, .ints .i64 u3, .ints .i64 u4], 30, false, true⟩])) ?_
    funext i_8 ss_m_2_0 xs_m_2_1 xs_m_2_2 xs_m_2_3 xs_m_2_4
    exact ih i_1 xs_2 i_8 ss_m_0_0 xs_m_0_1 xs_m_0_2 xs_m_0_3 xs_m_0_4 ss_m_2_0 xs_m_2_1 xs_m_2_2 xs_m_2_3 xs_m_2_4
def GL3_3 : YL3_3 := fun x i_1 xs_2 i_8 ss_m_0_0 xs_m_0_1 xs_m_0_2 xs_m_0_3 xs_m_0_4 ss_m_2_0 xs_m_2_1 xs_m_2_2 xs_m_2_3 xs_m_2_4 k1 => x = XL3_3 ∧ ∃ n, RL3_3  n i_1 xs_2 i_8 ss_m_0_0 xs_m_0_1 xs_m_0_2 xs_m_0_3 xs_m_0_4 ss_m_2_0 xs_m_2_1 xs_m_2_2 xs_m_2_3 xs_m_2_4 k1
def FL3_3 : List Fil := [.cell 7 5 ⟨[.strs ([] : List (List Int)), .ints .i64 ([] : List Int), .ints .i64 ([] : List Int), .ints .i64 ([] : List Int), .ints .i64 ([] : List Int)], 30, false, true⟩]
def VL3_3 (l : YL3_3) (F : Prop) (x : Code) (ρ : Env) (m : Mem) (K : Ex → Env → Mem → Prop) : Prop :=
  match ρ.has (76 - 1) with
  | true => (seeV (.sl 0 (0 : Nat) (none : Option Nat) (none : Option Nat)) (ρ.get 0) F (seeI .i64 (ρ.get 1) F fun i_1 => (seeS (ρ.get 2) F fun xs_2 => (seeV (.ptr 1 (0 : Nat) 0) (ρ.get 7) F (seeI .i64 (ρ.get 8) F fun i_8 => (seeCons m F fun a6 q7 => (seeBlk 29 true false a6 F fun cs8 => (seeCons cs8 F fun a9 q10 => (seeStrs a9 F fun ss_m_0_0 => (seeCons q10 F fun a11 q12 => (seeInts .i64 a11 F fun xs_m_0_1 => (seeCons q12 F fun a13 q14 => (seeInts .i64 a13 F fun xs_m_0_2 => (seeCons q14 F fun a15 q16 => (seeInts .i64 a15 F fun xs_m_0_3 => (seeCons q16 F fun a17 q18 => (seeInts .i64 a17 F fun xs_m_0_4 => (seeNil q18 F (seeCons q7 F fun a19 q20 => (seeBlk 27 false true a19 F fun cs21 => (seeCons cs21 F fun a22 q23 => (seeVals a22 F fun xs24 => (seeCons xs24 F fun a25 q26 => (seeV .nils a25 F (seeNil q26 F (seeCons q23 F fun a27 q28 => (seeInts .i64 a27 F fun xs29 => (seeX ([(0 : Int)] : List Int) xs29 F (seeCons q28 F fun a30 q31 => (seeInts .i64 a30 F fun xs32 => (seeX ([(0 : Int)] : List Int) xs32 F (seeCons q31 F fun a33 q34 => (seeInts .i64 a33 F fun xs35 => (seeX ([(0 : Int)] : List Int) xs35 F (seeCons q34 F fun a36 q37 => (seeInts .i64 a36 F fun xs38 => (seeX ([(0 : Int)] : List Int) xs38 F (seeCons q37 F fun a39 q40 => (seeVals a39 F fun xs41 => (seeCons xs41 F fun a42 q43 => (seeV (.sl 2 (0 : Nat) (none : Option Nat) (none : Option Nat)) a42 F (seeNil q43 F (seeCons q40 F fun a44 q45 => (seeVals a44 F fun xs46 => (seeCons xs46 F fun a47 q48 => (seeV .nils a47 F (seeNil q48 F (seeCons q45 F fun a49 q50 => (seeVals a49 F fun xs51 => (seeCons xs51 F fun a52 q53 => (seeV .nils a52 F (seeNil q53 F (seeNil q50 F (seeCons q20 F fun a54 q55 => (seeBlk 30 false true a54 F fun cs56 => (seeCons cs56 F fun a57 q58 => (seeStrs a57 F fun ss_m_2_0 => (seeCons q58 F fun a59 q60 => (seeInts .i64 a59 F fun xs_m_2_1 => (seeCons q60 F fun a61 q62 => (seeInts .i64 a61 F fun xs_m_2_2 => (seeCons q62 F fun a63 q64 => (seeInts .i64 a63 F fun xs_m_2_3 => (seeCons q64 F fun a65 q66 => (seeInts .i64 a65 F fun xs_m_2_4 => (seeNil q66 F (seeNil q55 F (l x i_1 xs_2 i_8 ss_m_0_0 xs_m_0_1 xs_m_0_2 xs_m_0_3 xs_m_0_4 ss_m_2_0 xs_m_2_1 xs_m_2_2 xs_m_2_3 xs_m_2_4 (fun (u0 : List (List Int)) (u1 : List Int) (u2 : List Int) (u3 : List Int) (u4 : List Int) => K (.exit 0) (selE 76 [(0, (.sl 0 (0 : Nat) (none : Option Nat) (none : Option Nat))), (1, (.I .i64 i_1)), (2, (.S xs_2)), (7, (.ptr 1 (0 : Nat) 0))]) [⟨[.strs ss_m_0_0, .ints .i64 xs_m_0_1, .ints .i64 xs_m_0_2, .ints .i64 xs_m_0_3, .ints .i64 xs_m_0_4], 29, true, false⟩, ⟨[.vals [.nils], .ints .i64 ([(0 : Int)] : List Int), .ints .i64 ([(0 : Int)] : List Int), .ints .i64 ([(0 : Int)] : List Int), .ints .i64 ([(0 : Int)] : List Int), .vals [(.sl 2 (0 : Nat) (none : Option Nat) (none : Option Nat))], .vals [.nils], .vals [.nils]], 27, false, true⟩, ⟨[.strs u0, .ints .i64 u1, .ints .i64 u2, .ints .i64 u3, .ints .i64 u4], 30, false, true⟩])))))))))))))))))))))))))))))))))))))))))))))))))))))))))))))))))))))
  | false => False
def WL3_3 (l : YL3_3) (W : Masks) : Masks := fun r =>
  match Nat.beq r 3 with
  | true => some fun x ρ m K => VL3_3 l (match W r with | some lf => lf x ρ m K | none => False) x (tidyE 1 [0, 1, 2, 7, 8] (fil FL3_3 ρ m).1 (fil FL3_3 ρ m).2) (tidyM 1 [0, 1, 2, 7, 8] (fil FL3_3 ρ m).1 (fil FL3_3 ρ m).2) K
  | false => W r
set_option maxRecDepth 100000 in
theorem WL3_3_ok {W : Masks} (hW : LoopsOk Tryz.prog 1 W) : LoopsOk Tryz.prog 1 (WL3_3 GL3_3 W) := by
  intro r lf h
  unfold WL3_3 at h
  split at h
  · cases h
    intro x E0 m0 w0 ds hS0 ha ρ m K E a w Q hS hρ hd h hQ
    have fb : (match W r with | some lf => lf x ρ m K | none => False) → (Code.loop x).wp Tryz.prog Q a w := fun h => by
      split at h
      · rename_i lf hlf
        exact hW r lf hlf x hS0 ha ρ m K E a w Q hS hρ hd h hQ
      · cases h
    obtain ⟨E1, hS1, hρ1⟩ := fil_step hS hρ FL3_3
    obtain ⟨E2, hS2, hρ2⟩ := tidy_rel hS0 hS1 hρ1 [0, 1, 2, 7, 8]
    rw [ha] at hS2 hρ2
    unfold VL3_3 at h
    split at h
    · rename_i hlen
      replace h := seeV_use h
      rcases h with h | ⟨e1, h⟩
      · exact fb h
      replace h := seeI_use h
      rcases h with h | ⟨i_1, e2, h⟩
      · exact fb h
      replace h := seeS_use h
      rcases h with h | ⟨xs_2, e3, h⟩
      · exact fb h
      replace h := seeV_use h
      rcases h with h | ⟨e4, h⟩
      · exact fb h
      replace h := seeI_use h
      rcases h with h | ⟨i_8, e5, h⟩
      · exact fb h
      replace h := seeCons_use h
      rcases h with h | ⟨a6, q7, eqm, h⟩
      · exact fb h
      replace h := seeBlk_use h
      rcases h with h | ⟨cs8, rfl, h⟩
      · exact fb h
      replace h := seeCons_use h
      rcases h with h | ⟨a9, q10, rfl, h⟩
      · exact fb h
      replace h := seeStrs_use h
      rcases h with h | ⟨ss_m_0_0, rfl, h⟩
      · exact fb h
      replace h := seeCons_use h
      rcases h with h | ⟨a11, q12, rfl, h⟩
      · exact fb h
      replace h := seeInts_use h
      rcases h with h | ⟨xs_m_0_1, rfl, h⟩
      · exact fb h
      replace h := seeCons_use h
      rcases h with h | ⟨a13, q14, rfl, h⟩
      · exact fb h
      replace h := seeInts_use h
      rcases h with h | ⟨xs_m_0_2, rfl, h⟩
      · exact fb h
      replace h := seeCons_use h
      rcases h with h | ⟨a15, q16, rfl, h⟩
      · exact fb h
      replace h := seeInts_use h
      rcases h with h | ⟨xs_m_0_3, rfl, h⟩
      · exact fb h
      replace h := seeCons_use h
      rcases h with h | ⟨a17, q18, rfl, h⟩
      · exact fb h
      replace h := seeInts_use h
      rcases h with h | ⟨xs_m_0_4, rfl, h⟩
      · exact fb h
      replace h := seeNil_use h
      rcases h with h | ⟨rfl, h⟩
      · exact fb h
      replace h := seeCons_use h
      rcases h with h | ⟨a19, q20, rfl, h⟩
      · exact fb h
      replace h := seeBlk_use h
      rcases h with h | ⟨cs21, rfl, h⟩
      · exact fb h
      replace h := seeCons_use h
      rcases h with h | ⟨a22, q23, rfl, h⟩
      · exact fb h
      replace h := seeVals_use h
      rcases h with h | ⟨xs24, rfl, h⟩
      · exact fb h
      replace h := seeCons_use h
      rcases h with h | ⟨a25, q26, rfl, h⟩
      · exact fb h
      replace h := seeV_use h
      rcases h with h | ⟨rfl, h⟩
      · exact fb h
      replace h := seeNil_use h
      rcases h with h | ⟨rfl, h⟩
      · exact fb h
      replace h := seeCons_use h
      rcases h with h | ⟨a27, q28, rfl, h⟩
      · exact fb h
      replace h := seeInts_use h
      rcases h with h | ⟨xs29, rfl, h⟩
      · exact fb h
      replace h := seeX_use h
      rcases h with h | ⟨rfl, h⟩
      · exact fb h
      replace h := seeCons_use h
      rcases h with h | ⟨a30, q31, rfl, h⟩
      · exact fb h
      replace h := seeInts_use h
      rcases h with h | ⟨xs32, rfl, h⟩
      · exact fb h
      replace h := seeX_use h
      rcases h with h | ⟨rfl, h⟩
      · exact fb h
      replace h := seeCons_use h
      rcases h with h | ⟨a33, q34, rfl, h⟩
      · exact fb h
      replace h := seeInts_use h
      rcases h with h | ⟨xs35, rfl, h⟩
      · exact fb h
      replace h := seeX_use h
      rcases h with h | ⟨rfl, h⟩
      · exact fb h
      replace h := seeCons_use h
      rcases h with h | ⟨a36, q37, rfl, h⟩
      · exact fb h
      replace h := seeInts_use h
      rcases h with h | ⟨xs38, rfl, h⟩
      · exact fb h
      replace h := seeX_use h
      rcases h with h | ⟨rfl, h⟩
      · exact fb h
      replace h := seeCons_use h
      rcases h with h | ⟨a39, q40, rfl, h⟩
      · exact fb h
      replace h := seeVals_use h
      rcases h with h | ⟨xs41, rfl, h⟩
      · exact fb h
      replace h := seeCons_use h
      rcases h with h | ⟨a42, q43, rfl, h⟩
      · exact fb h
      replace h := seeV_use h
      rcases h with h | ⟨rfl, h⟩
      · exact fb h
      replace h := seeNil_use h
      rcases h with h | ⟨rfl, h⟩
      · exact fb h
      replace h := seeCons_use h
      rcases h with h | ⟨a44, q45, rfl, h⟩
      · exact fb h
      replace h := seeVals_use h
      rcases h with h | ⟨xs46, rfl, h⟩
      · exact fb h
      replace h := seeCons_use h
      rcases h with h | ⟨a47, q48, rfl, h⟩
      · exact fb h
      replace h := seeV_use h
      rcases h with h | ⟨rfl, h⟩
      · exact fb h
      replace h := seeNil_use h
      rcases h with h | ⟨rfl, h⟩
      · exact fb h
      replace h := seeCons_use h
      rcases h with h | ⟨a49, q50, rfl, h⟩
      · exact fb h
      replace h := seeVals_use h
      rcases h with h | ⟨xs51, rfl, h⟩
      · exact fb h
      replace h := seeCons_use h
      rcases h with h | ⟨a52, q53, rfl, h⟩
      · exact fb h
      replace h := seeV_use h
      rcases h with h | ⟨rfl, h⟩
      · exact fb h
      replace h := seeNil_use h
      rcases h with h | ⟨rfl, h⟩
      · exact fb h
      replace h := seeNil_use h
      rcases h with h | ⟨rfl, h⟩
      · exact fb h
      replace h := seeCons_use h
      rcases h with h | ⟨a54, q55, rfl, h⟩
      · exact fb h
      replace h := seeBlk_use h
      rcases h with h | ⟨cs56, rfl, h⟩
      · exact fb h
      replace h := seeCons_use h
      rcases h with h | ⟨a57, q58, rfl, h⟩
      · exact fb h
      replace h := seeStrs_use h
      rcases h with h | ⟨ss_m_2_0, rfl, h⟩
      · exact fb h
      replace h := seeCons_use h
      rcases h with h | ⟨a59, q60, rfl, h⟩
      · exact fb h
      replace h := seeInts_use h
      rcases h with h | ⟨xs_m_2_1, rfl, h⟩
      · exact fb h
      replace h := seeCons_use h
      rcases h with h | ⟨a61, q62, rfl, h⟩
      · exact fb h
      replace h := seeInts_use h
      rcases h with h | ⟨xs_m_2_2, rfl, h⟩
      · exact fb h
      replace h := seeCons_use h
      rcases h with h | ⟨a63, q64, rfl, h⟩
      · exact fb h
      replace h := seeInts_use h
      rcases h with h | ⟨xs_m_2_3, rfl, h⟩
      · exact fb h
      replace h := seeCons_use h
      rcases h with h | ⟨a65, q66, rfl, h⟩
      · exact fb h
      replace h := seeInts_use h
      rcases h with h | ⟨xs_m_2_4, rfl, h⟩
      · exact fb h
      replace h := seeNil_use h
      rcases h with h | ⟨rfl, h⟩
      · exact fb h
      replace h := seeNil_use h
      rcases h with h | ⟨rfl, h⟩
      · exact fb h
      obtain ⟨rfl, n, h⟩ := h
      exact loop_use named C3_ok (LoopsOk.none _ _) (RL3_3_ok  K n _ _ _ _ _ _ _ _ _ _ _ _ _) h hS0 ha hlen ⟨e1, e2, e3, e4, e5, trivial⟩ (eqm ▸ hS2) hρ2 hd hQ
    · cases h
  · exact hW r lf h
theorem at3 : Tryz.prog.funcs[3]? = some (fnOf Tryz.prog 3) := by kernel_rfl
abbrev Y3 : Type := Int → List Int → List (List Int) → List Int → List Int → List Int → List Int → (Prop) → (Prop) → Prop
set_option maxHeartbeats 4000000 in
set_option maxRecDepth 100000 in
def F3 (f4 : Y4) (f5 : Y5) (l3_3 : YL3_3) (ob : Int) (nm : List Int) (ns : List (List Int)) (os : List Int) (ad : List Int) (zs : List Int) (ts : List Int) (k1 : Prop) (k2 : Prop) : Prop :=
  (l3_3 XL3_3 ob nm (0 : Int) ns os ad zs ts ([] : List (List Int)) ([] : List Int) ([] : List Int) ([] : List Int) ([] : List Int) (fun (y1 : List (List Int)) (xs2 : List Int) (xs3 : List Int) (xs4 : List Int) (xs5 : List Int) => (f4 ob nm y1 xs2 xs3 xs4 xs5 (fun (n6 : Int) => (f5 ob nm ns os ad zs ts (fun (n7 : Int) => (bif (n6 == n7) then (k1) else (k2))) ((bif (n6 == (0 : Int)) then (k2) else (k2))))) ((f5 ob nm ns os ad zs ts (fun (n8 : Int) => (bif ((0 : Int) == n8) then (k2) else (k2))) ((k1)))))))
theorem F3_ok (f4 : Y4) (f5 : Y5) (l3_3 : YL3_3) (ob : Int) (nm : List Int) (ns : List (List Int)) (os : List Int) (ad : List Int) (zs : List Int) (ts : List Int) (K : V → Mem → Prop) : cbody Tryz.prog (T4 f4 (T5 f5 C3)) (WL3_3 l3_3 (fun _ => none)) 1000 (fnOf Tryz.prog 3) [(.sl 0 (0 : Nat) (none : Option Nat) (none : Option Nat)), (.I .i64 ob), (.S nm)] [⟨[.strs ns, .ints .i64 os, .ints .i64 ad, .ints .i64 zs, .ints .i64 ts], 29, true, false⟩] K =
    F3 f4 f5 l3_3 ob nm ns os ad zs ts (K (.B true) [⟨[.strs ns, .ints .i64 os, .ints .i64 ad, .ints .i64 zs, .ints .i64 ts], 29, true, false⟩]) (K (.B false) [⟨[.strs ns, .ints .i64 os, .ints .i64 ad, .ints .i64 zs, .ints .i64 ts], 29, true, false⟩]) := by kernel_rfl
def G3 : Y3 := F3 G4 G5 GL3_3
def VT3 (f : Y3) (F : Prop) (args : List V) (m : Mem) (K : V → Mem → Prop) : Prop :=
  (seeCons args F fun a1 q2 => (seeV (.sl 0 (0 : Nat) (none : Option Nat) (none : Option Nat)) a1 F (seeCons q2 F fun a3 q4 => (seeI .i64 a3 F fun ob => (seeCons q4 F fun a5 q6 => (seeS a5 F fun nm => (seeNil q6 F (seeCons m F fun a7 q8 => (seeBlk 29 true false a7 F fun cs9 => (seeCons cs9 F fun a10 q11 => (seeStrs a10 F fun ns => (seeCons q11 F fun a12 q13 => (seeInts .i64 a12 F fun os => (seeCons q13 F fun a14 q15 => (seeInts .i64 a14 F fun ad => (seeCons q15 F fun a16 q17 => (seeInts .i64 a16 F fun zs => (seeCons q17 F fun a18 q19 => (seeInts .i64 a18 F fun ts => (seeNil q19 F (seeNil q8 F (f ob nm ns os ad zs ts (K (.B true) [⟨[.strs ns, .ints .i64 os, .ints .i64 ad, .ints .i64 zs, .ints .i64 ts], 29, true, false⟩]) (K (.B false) [⟨[.strs ns, .ints .i64 os, .ints .i64 ad, .ints .i64 zs, .ints .i64 ts], 29, true, false⟩])))))))))))))))))))))))
def T3 (f : Y3) (C : CC) : CC := fun g args m K =>
  match Nat.beq g 3 with
  | true => VT3 f (C g args m K) args m K
  | false => C g args m K
set_option maxRecDepth 100000 in
theorem T3_ok {C : CC} (hC : CallsOk Tryz.prog C) : CallsOk Tryz.prog (T3 G3 C) := by
  intro g args m K E w cargs hS ha h
  unfold T3 at h
  split at h
  · rename_i hg
    obtain rfl := Nat.eq_of_beq_eq_true hg
    unfold VT3 at h
    replace h := seeCons_use h
    rcases h with h | ⟨a1, q2, rfl, h⟩
    · exact hC _ _ _ _ _ _ _ hS ha h
    replace h := seeV_use h
    rcases h with h | ⟨rfl, h⟩
    · exact hC _ _ _ _ _ _ _ hS ha h
    replace h := seeCons_use h
    rcases h with h | ⟨a3, q4, rfl, h⟩
    · exact hC _ _ _ _ _ _ _ hS ha h
    replace h := seeI_use h
    rcases h with h | ⟨ob, rfl, h⟩
    · exact hC _ _ _ _ _ _ _ hS ha h
    replace h := seeCons_use h
    rcases h with h | ⟨a5, q6, rfl, h⟩
    · exact hC _ _ _ _ _ _ _ hS ha h
    replace h := seeS_use h
    rcases h with h | ⟨nm, rfl, h⟩
    · exact hC _ _ _ _ _ _ _ hS ha h
    replace h := seeNil_use h
    rcases h with h | ⟨rfl, h⟩
    · exact hC _ _ _ _ _ _ _ hS ha h
    replace h := seeCons_use h
    rcases h with h | ⟨a7, q8, rfl, h⟩
    · exact hC _ _ _ _ _ _ _ hS ha h
    replace h := seeBlk_use h
    rcases h with h | ⟨cs9, rfl, h⟩
    · exact hC _ _ _ _ _ _ _ hS ha h
    replace h := seeCons_use h
    rcases h with h | ⟨a10, q11, rfl, h⟩
    · exact hC _ _ _ _ _ _ _ hS ha h
    replace h := seeStrs_use h
    rcases h with h | ⟨ns, rfl, h⟩
    · exact hC _ _ _ _ _ _ _ hS ha h
    replace h := seeCons_use h
    rcases h with h | ⟨a12, q13, rfl, h⟩
    · exact hC _ _ _ _ _ _ _ hS ha h
    replace h := seeInts_use h
    rcases h with h | ⟨os, rfl, h⟩
    · exact hC _ _ _ _ _ _ _ hS ha h
    replace h := seeCons_use h
    rcases h with h | ⟨a14, q15, rfl, h⟩
    · exact hC _ _ _ _ _ _ _ hS ha h
    replace h := seeInts_use h
    rcases h with h | ⟨ad, rfl, h⟩
    · exact hC _ _ _ _ _ _ _ hS ha h
    replace h := seeCons_use h
    rcases h with h | ⟨a16, q17, rfl, h⟩
    · exact hC _ _ _ _ _ _ _ hS ha h
    replace h := seeInts_use h
    rcases h with h | ⟨zs, rfl, h⟩
    · exact hC _ _ _ _ _ _ _ hS ha h
    replace h := seeCons_use h
    rcases h with h | ⟨a18, q19, rfl, h⟩
    · exact hC _ _ _ _ _ _ _ hS ha h
    replace h := seeInts_use h
    rcases h with h | ⟨ts, rfl, h⟩
    · exact hC _ _ _ _ _ _ _ hS ha h
    replace h := seeNil_use h
    rcases h with h | ⟨rfl, h⟩
    · exact hC _ _ _ _ _ _ _ hS ha h
    replace h := seeNil_use h
    rcases h with h | ⟨rfl, h⟩
    · exact hC _ _ _ _ _ _ _ hS ha h
    exact cbody_use named (T4_ok (T5_ok C3_ok)) at3 (l := 1) rfl (WL3_3_ok (LoopsOk.none _ _)) (F3_ok G4 G5 GL3_3 ob nm ns os ad zs ts K) hS ha h
  · exact hC _ _ _ _ _ _ _ hS ha h
end Go.Proofs.YtoikimbpbcjnkaaGreat.img
