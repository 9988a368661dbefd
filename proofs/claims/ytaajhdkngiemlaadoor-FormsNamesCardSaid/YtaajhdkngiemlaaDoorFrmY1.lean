import Derived.Test.YtaajhdkngiemlaaDoorFrmNa
import Derived.Test.YtaajhdkngiemlaaDoorFrmNb
import Derived.Test.YtaajhdkngiemlaaDoorFrmNc
set_option linter.unusedVariables false
set_option linter.unusedSimpArgs false
set_option maxHeartbeats 4000000
set_option maxRecDepth 100000
namespace Go.Proofs.YtaajhdkngiemlaaDoor.frm
open Go Go.Ab
def primsm : Prims := fun f =>
  match Nat.beq f 18 with
  | true => some P18
  | false =>   match Nat.beq f 19 with
  | true => some P19
  | false =>   match Nat.beq f 20 with
  | true => some P20
  | false =>   match Nat.beq f 21 with
  | true => some P21
  | false => prims0 f
theorem primsm_ok : PrimsOk Tryd.prog primsm := by
  intro f g hg
  unfold primsm at hg
  split at hg
  · rename_i hf
    obtain rfl := Nat.eq_of_beq_eq_true hf
    cases hg
    exact P18_ok
  · skip
    split at hg
    · rename_i hf
      obtain rfl := Nat.eq_of_beq_eq_true hf
      cases hg
      exact P19_ok
    · skip
      split at hg
      · rename_i hf
        obtain rfl := Nat.eq_of_beq_eq_true hf
        cases hg
        exact P20_ok
      · skip
        split at hg
        · rename_i hf
          obtain rfl := Nat.eq_of_beq_eq_true hf
          cases hg
          exact P21_ok
        · skip
          exact prims0_ok f g hg
def Cm : CC := call Tryd.prog primsm 1000
theorem Cm_ok : CallsOk Tryd.prog Cm := call_sound named primsm_ok 1000
abbrev YL15_9 : Type := Code → List Int → Int → Int → Int → (Int → Int → Prop) → (Prop) → Prop
def HL15_9  (rec : Int → Prop) (xs_0 : List Int) (i_7 i_8 i_9 : Int) (k1 : Int → Int → Prop) (k2 : Prop) : Prop :=
  (bif (decide (i_9 < (16 : Int))) then (bif (!(xs_0 == ([] : List Int))) then (bif ((decide ((0 : Int) ≤ i_8)) && (decide (i_8 < (4 : Int)))) then (bif ((nameI i_7 (List.getD ([(0 : Int), (1 : Int), (4 : Int), (8 : Int)] : List Int) (Int.toNat i_8) (0 : Int)) i_9) == xs_0) then (bif ((decide ((0 : Int) ≤ i_8)) && (decide (i_8 < (4 : Int)))) then (bif ((i_9 == i_9) && (((List.getD ([(0 : Int), (1 : Int), (4 : Int), (8 : Int)] : List Int) (Int.toNat i_8) (0 : Int)) == (List.getD ([(0 : Int), (1 : Int), (4 : Int), (8 : Int)] : List Int) (Int.toNat i_8) (0 : Int))) && ((((decide ((0 : Int) ≤ i_8)) && (decide (i_8 < (4 : Int)))) && (((Int.toNat i_8) == (Int.toNat i_8)) && true)) && ((i_8 == i_8) && true)))) then (bif ((i_9 == i_9) && true) then (k1 (List.getD ([(0 : Int), (1 : Int), (4 : Int), (8 : Int)] : List Int) (Int.toNat i_8) (0 : Int)) i_9) else False) else False) else False) else (rec (IntKind.wrap .i64 (i_9 + (1 : Int))))) else False) else (rec (IntKind.wrap .i64 (i_9 + (1 : Int))))) else k2)
def RL15_9  : Nat → List Int → Int → Int → Int → (Int → Int → Prop) → (Prop) → Prop
  | 0, _, _, _, _, _, _ => False
  | n + 1, xs_0, i_7, i_8, i_9, k1, k2 => HL15_9  (fun (i_9 : Int) => RL15_9  n xs_0 i_7 i_8 i_9 k1 k2) xs_0 i_7 i_8 i_9 k1 k2
noncomputable def XL15_9 : Code := sub [true, true, false, true, false, false, true, false, false, true, false, false, true, false, false, true, false, false] (bodyOf Tryd.prog 15)
theorem HL15_9_ok  (n : Nat) (xs_0 : List Int) (i_7 i_8 i_9 : Int) (K : Ex → Env → Mem → Prop) : cround 0 [0, 6, 7, 8, 9] [0, 2, 3, 4, 5, 6, 7, 8] (fun ρ m K => cexec Tryd.prog Cm (fun _ => none) 0 1000 XL15_9 ρ m K) (n + 1) (selE 42 [(0, (.S xs_0)), (6, (.sl 0 (0 : Nat) (none : Option Nat) (none : Option Nat))), (7, (.I .i64 i_7)), (8, (.I .i64 i_8)), (9, (.I .i64 i_9))]) [⟨[.ints .i64 ([(0 : Int), (1 : Int), (4 : Int), (8 : Int)] : List Int)], 3, false, true⟩] K =
    HL15_9  (fun (i_9 : Int) => cround 0 [0, 6, 7, 8, 9] [0, 2, 3, 4, 5, 6, 7, 8] (fun ρ m K => cexec Tryd.prog Cm (fun _ => none) 0 1000 XL15_9 ρ m K) n (selE 42 [(0, (.S xs_0)), (6, (.sl 0 (0 : Nat) (none : Option Nat) (none : Option Nat))), (7, (.I .i64 i_7)), (8, (.I .i64 i_8)), (9, (.I .i64 i_9))]) [⟨[.ints .i64 ([(0 : Int), (1 : Int), (4 : Int), (8 : Int)] : List Int)], 3, false, true⟩] K) xs_0 i_7 i_8 i_9 (fun (u0 u1 : Int) => K .ret (selE 42 [(0, (.S xs_0)), (2, (.I .i64 i_7)), (3, (.I .i64 u0)), (4, (.I .i64 u1)), (5, (.B true)), (6, (.sl 0 (0 : Nat) (none : Option Nat) (none : Option Nat))), (7, (.I .i64 i_7)), (8, (.I .i64 i_8))]) [⟨[.ints .i64 ([(0 : Int), (1 : Int), (4 : Int), (8 : Int)] : List Int)], 3, false, true⟩]) (K (.exit 4) (selE 42 [(0, (.S xs_0)), (2, .undef), (3, .undef), (4, .undef), (5, .undef), (6, (.sl 0 (0 : Nat) (none : Option Nat) (none : Option Nat))), (7, (.I .i64 i_7)), (8, (.I .i64 i_8))]) [⟨[.ints .i64 ([(0 : Int), (1 : Int), (4 : Int), (8 : Int)] : List Int)], 3, false, true⟩]) := by kernel_rfl
theorem RL15_9_ok  (K : Ex → Env → Mem → Prop) : ∀ (n : Nat) (xs_0 : List Int) (i_7 i_8 i_9 : Int), cround 0 [0, 6, 7, 8, 9] [0, 2, 3, 4, 5, 6, 7, 8] (fun ρ m K => cexec Tryd.prog Cm (fun _ => none) 0 1000 XL15_9 ρ m K) n (selE 42 [(0, (.S xs_0)), (6, (.sl 0 (0 : Nat) (none : Option Nat) (none : Option Nat))), (7, (.I .i64 i_7)), (8, (.I .i64 i_8)), (9, (.I .i64 i_9))]) [⟨[.ints .i64 ([(0 : Int), (1 : Int), (4 : Int), (8 : Int)] : List Int)], 3, false, true⟩] K = RL15_9  n xs_0 i_7 i_8 i_9 (fun (u0 u1 : Int) => K .ret (selE 42 [(0, (.S xs_0)), (2, (.I .i64 i_7)), (3, (.I .i64 u0)), (4, (.I .i64 u1)), (5, (.B true)), (6, (.sl 0 (0 : Nat) (none : Option Nat) (none : Option Nat))), (7, (.I .i64 i_7)), (8, (.I .i64 i_8))]) [⟨[.ints .i64 ([(0 : Int), (1 : Int), (4 : Int), (8 : Int)] : List Int)], 3, false, true⟩]) (K (.exit 4) (selE 42 [(0, (.S xs_0)), (2, .undef), (3, .undef), (4, .undef), (5, .undef), (6, (.sl 0 (0 : Nat) (none : Option Nat) (none : Option Nat))), (7, (.I .i64 i_7)), (8, (.I .i64 i_8))]) [⟨[.ints .i64 ([(0 : Int), (1 : Int), (4 : Int), (8 : Int)] : List Int)], 3, false, true⟩])
  | 0, xs_0, i_7, i_8, i_9 => rfl
  | n + 1, xs_0, i_7, i_8, i_9 => by
    have ih := RL15_9_ok  K n
    rw [HL15_9_ok  n xs_0 i_7 i_8 i_9 K]
    show HL15_9  _ xs_0 i_7 i_8 i_9 (fun (u0 u1 : Int) => K .ret (selE 42 [(0, (.S xs_0)), (2, (.I .i64 i_7)), (3, (.I .i64 u0)), (4, (.I .i64 u1)), (5, (.B true)), (6, (.sl 0 (0 : Nat) (none : Option Nat) (none : Option Nat))), (7, (.I .i64 i_7)), (8, (.I .i64 i_8))]) [⟨[.ints .i64 ([(0 : Int), (1 : Int), (4 : Int), (8 : Int)] : List Int)], 3, false, true⟩]) (K (.exit 4) (selE 42 [(0, (.S xs_0)), (2, .undef), (3, .undef), (4, .undef), (5, .undef), (6, (.sl 0 (0 : Nat) (none : Option Nat) (none : Option Nat))), (7, (.I .i64 i_7)), (8, (.I .i64 i_8))]) [⟨[.ints .i64 ([(0 : Int), (1 : Int), (4 : Int), (8 : Int)] : List Int)], 3, false, true⟩]) = HL15_9  _ xs_0 i_7 i_8 i_9 (fun (u0 u1 : Int) => K .ret (selE 42 [(0, (.S xs_0)), (2, (.I .i64 i_7)), (3, (.I .i64 u0)), (4, (.I .i64 u1)), (5, (.B true)), (6, (.sl 0 (0 : Nat) (none : Option Nat) (none : Option Nat))), (7, (.I .i64 i_7)), (8, (.I .i64 i_8))]) [⟨[.ints .i64 ([(0 : Int), (1 : Int), (4 : Int), (8 : Int)] : List Int)], 3, false, true⟩]) (K (.exit 4) (selE 42 [(0, (.S xs_0)), (2, .undef), (3, .undef), (4, .undef), (5, .undef), (6, (.sl 0 (0 : Nat) (none : Option Nat) (none : Option Nat))), (7, (.I .i64 i_7)), (8, (.I .i64 i_8))]) [⟨[.ints .i64 ([(0 : Int), (1 : Int), (4 : Int), (8 : Int)] : List Int)], 3, false, true⟩])
    refine congrArg (fun r => HL15_9  r xs_0 i_7 i_8 i_9 (fun (u0 u1 : Int) => K .ret (selE 42 [(0, (.S xs_0)), (2, (.I .i64 i_7)), (3, (.I .i64 u0)), (4, (.I .i64 u1)), (5, (.B true)), (6, (.sl 0 (0 : Nat) (none : Option Nat) (none : Option Nat))), (7, (.I .i64 i_7)), (8, (.I .i64 i_8))]) [⟨[.ints .i64 ([(0 : Int), (1 : Int), (4 : Int), (8 : Int)] : List Int)], 3, false, true⟩]) (K (.exit 4) (selE 42 [(0, (.S xs_0)), (2, .undef), (3, .undef), (4, .undef), (5, .undef), (6, (.sl 0 (0 : Nat) (none : Option Nat) (none : Option Nat))), (7, (.I .i64 i_7)), (8, (.I .i64 i_8))]) [⟨[.ints .i64 ([(0 : Int), (1 : Int), (4 : Int), (8 : Int)] : List Int)], 3, false, true⟩])) ?_
    funext i_9
    exact ih xs_0 i_7 i_8 i_9
def GL15_9 : YL15_9 := fun x xs_0 i_7 i_8 i_9 k1 k2 => x = XL15_9 ∧ ∃ n, RL15_9  n xs_0 i_7 i_8 i_9 k1 k2
def VL15_9 (l : YL15_9) (F : Prop) (x : Code) (ρ : Env) (m : Mem) (K : Ex → Env → Mem → Prop) : Prop :=
  match ρ.has (42 - 1) with
  | true => (seeS (ρ.get 0) F fun xs_0 => (seeV (.sl 0 (0 : Nat) (none : Option Nat) (none : Option Nat)) (ρ.get 6) F (seeI .i64 (ρ.get 7) F fun i_7 => (seeI .i64 (ρ.get 8) F fun i_8 => (seeI .i64 (ρ.get 9) F fun i_9 => (seeCons m F fun a6 q7 => (seeBlk 3 false true a6 F fun cs8 => (seeCons cs8 F fun a9 q10 => (seeInts .i64 a9 F fun xs11 => (seeX ([(0 : Int), (1 : Int), (4 : Int), (8 : Int)] : List Int) xs11 F (seeNil q10 F (seeNil q7 F (l x xs_0 i_7 i_8 i_9 (fun (u0 u1 : Int) => K .ret (selE 42 [(0, (.S xs_0)), (2, (.I .i64 i_7)), (3, (.I .i64 u0)), (4, (.I .i64 u1)), (5, (.B true)), (6, (.sl 0 (0 : Nat) (none : Option Nat) (none : Option Nat))), (7, (.I .i64 i_7)), (8, (.I .i64 i_8))]) [⟨[.ints .i64 ([(0 : Int), (1 : Int), (4 : Int), (8 : Int)] : List Int)], 3, false, true⟩]) (K (.exit 4) (selE 42 [(0, (.S xs_0)), (2, .undef), (3, .undef), (4, .undef), (5, .undef), (6, (.sl 0 (0 : Nat) (none : Option Nat) (none : Option Nat))), (7, (.I .i64 i_7)), (8, (.I .i64 i_8))]) [⟨[.ints .i64 ([(0 : Int), (1 : Int), (4 : Int), (8 : Int)] : List Int)], 3, false, true⟩]))))))))))))))
  | false => False
def WL15_9 (l : YL15_9) (W : Masks) : Masks := fun r =>
  match Nat.beq r 9 with
  | true => some fun x ρ m K => VL15_9 l (match W r with | some lf => lf x ρ m K | none => False) x (tidyE 0 [0, 6, 7, 8, 9] ρ m) (tidyM 0 [0, 6, 7, 8, 9] ρ m) K
  | false => W r
set_option maxRecDepth 100000 in
theorem WL15_9_ok {W : Masks} (hW : LoopsOk Tryd.prog 0 W) : LoopsOk Tryd.prog 0 (WL15_9 GL15_9 W) := by
  intro r lf h
  unfold WL15_9 at h
  split at h
  · cases h
    intro x E0 m0 w0 ds hS0 ha ρ m K E a w Q hS hρ hd h hQ
    have fb : (match W r with | some lf => lf x ρ m K | none => False) → (Code.loop x).wp Tryd.prog Q a w := fun h => by
      split at h
      · rename_i lf hlf
        exact hW r lf hlf x hS0 ha ρ m K E a w Q hS hρ hd h hQ
      · cases h
    obtain ⟨E2, hS2, hρ2⟩ := tidy_rel hS0 hS hρ [0, 6, 7, 8, 9]
    rw [ha] at hS2 hρ2
    unfold VL15_9 at h
    split at h
    · rename_i hlen
      replace h := seeS_use h
      rcases h with h | ⟨xs_0, e1, h⟩
      · exact fb h
      replace h := seeV_use h
      rcases h with h | ⟨e2, h⟩
      · exact fb h
      replace h := seeI_use h
      rcases h with h | ⟨i_7, e3, h⟩
      · exact fb h
      replace h := seeI_use h
      rcases h with h | ⟨i_8, e4, h⟩
      · exact fb h
      replace h := seeI_use h
      rcases h with h | ⟨i_9, e5, h⟩
      · exact fb h
      replace h := seeCons_use h
      rcases h with h | ⟨a6, q7, eqm, h⟩
      · exact fb h
      replace h := seeBlk_use h
      rcases h with h | ⟨cs8, rfl, h⟩
      · exact fb h
      replace h := seeCons_use h
      rcases h with h | ⟨a9, q10, rfl, h⟩
      · exact fb h
      replace h := seeInts_use h
      rcases h with h | ⟨xs11, rfl, h⟩
      · exact fb h
      replace h := seeX_use h
      rcases h with h | ⟨rfl, h⟩
      · exact fb h
      replace h := seeNil_use h
      rcases h with h | ⟨rfl, h⟩
      · exact fb h
      replace h := seeNil_use h
      rcases h with h | ⟨rfl, h⟩
      · exact fb h
      obtain ⟨rfl, n, h⟩ := h
      exact loop_use named Cm_ok (LoopsOk.none _ _) (RL15_9_ok  K n _ _ _ _) h hS0 ha hlen ⟨e1, e2, e3, e4, e5, trivial⟩ (eqm ▸ hS2) hρ2 hd hQ
    · cases h
  · exact hW r lf h
abbrev YL15_6 : Type := Code → List Int → Int → Int → (Int → Int → Prop) → (Prop) → Prop
def HL15_6  (l15_9 : YL15_9) (rec : Int → Prop) (xs_0 : List Int) (i_7 i_8 : Int) (k1 : Int → Int → Prop) (k2 : Prop) : Prop :=
  (bif (decide (i_8 < (4 : Int))) then (l15_9 XL15_9 xs_0 i_7 i_8 (0 : Int) (fun (n3 n4 : Int) => (k1 n3 n4)) ((rec (IntKind.wrap .i64 (i_8 + (1 : Int)))))) else k2)
def RL15_6  (l15_9 : YL15_9) : Nat → List Int → Int → Int → (Int → Int → Prop) → (Prop) → Prop
  | 0, _, _, _, _, _ => False
  | n + 1, xs_0, i_7, i_8, k1, k2 => HL15_6  l15_9 (fun (i_8 : Int) => RL15_6  l15_9 n xs_0 i_7 i_8 k1 k2) xs_0 i_7 i_8 k1 k2
noncomputable def XL15_6 : Code := sub [true, true, false, true, false, false, true, false, false, true, false, false] (bodyOf Tryd.prog 15)
theorem HL15_6_ok  (l15_9 : YL15_9) (n : Nat) (xs_0 : List Int) (i_7 i_8 : Int) (K : Ex → Env → Mem → Prop) : cround 0 [0, 6, 7, 8] [0, 2, 3, 4, 5, 6, 7] (fun ρ m K => cexec Tryd.prog Cm (WL15_9 l15_9 (fun _ => none)) 0 1000 XL15_6 ρ m K) (n + 1) (selE 42 [(0, (.S xs_0)), (6, (.sl 0 (0 : Nat) (none : Option Nat) (none : Option Nat))), (7, (.I .i64 i_7)), (8, (.I .i64 i_8))]) [⟨[.ints .i64 ([(0 : Int), (1 : Int), (4 : Int), (8 : Int)] : List Int)], 3, false, true⟩] K =
    HL15_6  l15_9 (fun (i_8 : Int) => cround 0 [0, 6, 7, 8] [0, 2, 3, 4, 5, 6, 7] (fun ρ m K => cexec Tryd.prog Cm (WL15_9 l15_9 (fun _ => none)) 0 1000 XL15_6 ρ m K) n (selE 42 [(0, (.S xs_0)), (6, (.sl 0 (0 : Nat) (none : Option Nat) (none : Option Nat))), (7, (.I .i64 i_7)), (8, (.I .i64 i_8))]) [⟨[.ints .i64 ([(0 : Int), (1 : Int), (4 : Int), (8 : Int)] : List Int)], 3, false, true⟩] K) xs_0 i_7 i_8 (fun (u0 u1 : Int) => K .ret (selE 42 [(0, (.S xs_0)), (2, (.I .i64 i_7)), (3, (.I .i64 u0)), (4, (.I .i64 u1)), (5, (.B true)), (6, (.sl 0 (0 : Nat) (none : Option Nat) (none : Option Nat))), (7, (.I .i64 i_7))]) [⟨[.ints .i64 ([(0 : Int), (1 : Int), (4 : Int), (8 : Int)] : List Int)], 3, false, true⟩]) (K (.exit 2) (selE 42 [(0, (.S xs_0)), (2, .undef), (3, .undef), (4, .undef), (5, .undef), (6, (.sl 0 (0 : Nat) (none : Option Nat) (none : Option Nat))), (7, (.I .i64 i_7))]) [⟨[.ints .i64 ([(0 : Int), (1 : Int), (4 : Int), (8 : Int)] : List Int)], 3, false, true⟩]) := by kernel_rfl
theorem RL15_6_ok  (l15_9 : YL15_9) (K : Ex → Env → Mem → Prop) : ∀ (n : Nat) (xs_0 : List Int) (i_7 i_8 : Int), cround 0 [0, 6, 7, 8] [0, 2, 3, 4, 5, 6, 7] (fun ρ m K => cexec Tryd.prog Cm (WL15_9 l15_9 (fun _ => none)) 0 1000 XL15_6 ρ m K) n (selE 42 [(0, (.S xs_0)), (6, (.sl 0 (0 : Nat) (none : Option Nat) (none : Option Nat))), (7, (.I .i64 i_7)), (8, (.I .i64 i_8))]) [⟨[.ints .i64 ([(0 : Int), (1 : Int), (4 : Int), (8 : Int)] : List Int)], 3, false, true⟩] K = RL15_6  l15_9 n xs_0 i_7 i_8 (fun (u0 u1 : Int) => K .ret (selE 42 [(0, (.S xs_0)), (2, (.I .i64 i_7)), (3, (.I .i64 u0)), (4, (.I .i64 u1)), (5, (.B true)), (6, (.sl 0 (0 : Nat) (none : Option Nat) (none : Option Nat))), (7, (.I .i64 i_7))]) [⟨[.ints .i64 ([(0 : Int), (1 : Int), (4 : Int), (8 : Int)] : List Int)], 3, false, true⟩]) (K (.exit 2) (selE 42 [(0, (.S xs_0)), (2, .undef), (3, .undef), (4, .undef), (5, .undef), (6, (.sl 0 (0 : Nat) (none : Option Nat) (none : Option Nat))), (7, (.I .i64 i_7))]) [⟨[.ints .i64 ([(0 : Int), (1 : Int), (4 : Int), (8 : Int)] : List Int)], 3, false, true⟩])
  | 0, xs_0, i_7, i_8 => rfl
  | n + 1, xs_0, i_7, i_8 => by
    have ih := RL15_6_ok  l15_9 K n
    rw [HL15_6_ok  l15_9 n xs_0 i_7 i_8 K]
    show HL15_6  l15_9 _ xs_0 i_7 i_8 (fun (u0 u1 : Int) => K .ret (selE 42 [(0, (.S xs_0)), (2, (.I .i64 i_7)), (3, (.I .i64 u0)), (4, (.I .i64 u1)), (5, (.B true)), (6, (.sl 0 (0 : Nat) (none : Option Nat) (none : Option Nat))), (7, (.I .i64 i_7))]) [⟨[.ints .i64 ([(0 : Int), (1 : Int), (4 : Int), (8 : Int)] : List Int)], 3, false, true⟩]) (K (.exit 2) (selE 42 [(0, (.S xs_0)), (2, .undef), (3, .undef), (4, .undef), (5, .undef), (6, (.sl 0 (0 : Nat) (none : Option Nat) (none : Option Nat))), (7, (.I .i64 i_7))]) [⟨[.ints .i64 ([(0 : Int), (1 : Int), (4 : Int), (8 : Int)] : List Int)], 3, false, true⟩]) = HL15_6  l15_9 _ xs_0 i_7 i_8 (fun (u0 u1 : Int) => K .ret (selE 42 [(0, (.S xs_0)), (2, (.I .i64 i_7)), (3, (.I .i64 u0)), (4, (.I .i64 u1)), (5, (.B true)), (6, (.sl 0 (0 : Nat) (none : Option Nat) (none : Option Nat))), (7, (.I .i64 i_7))]) [⟨[.ints .i64 ([(0 : Int), (1 : Int), (4 : Int), (8 : Int)] : List Int)], 3, false, true⟩]) (K (.exit 2) (selE 42 [(0, (.S xs_0)), (2, .undef), (3, .undef), (4, .undef), (5, .undef), (6, (.sl 0 (0 : Nat) (none : Option Nat) (none : Option Nat))), (7, (.I .i64 i_7))]) [⟨[.ints .i64 ([(0 : Int), (1 : Int), (4 : Int), (8 : Int)] : List Int)], 3, false, true⟩])
    refine congrArg (fun r => HL15_6  l15_9 r xs_0 i_7 i_8 (fun (u0 u1 : Int) => K .ret (selE 42 [(0, (.S xs_0)), (2, (.I .i64 i_7)), (3, (.I .i64 u0)), (4, (.I .i64 u1)), (5, (.B true)), (6, (.sl 0 (0 : Nat) (none : Option Nat) (none : Option Nat))), (7, (.I .i64 i_7))]) [⟨[.ints .i64 ([(0 : Int), (1 : Int), (4 : Int), (8 : Int)] : List Int)], 3, false, true⟩]) (K (.exit 2) (selE 42 [(0, (.S xs_0)), (2, .undef), (3, .undef), (4, .undef), (5, .undef), (6, (.sl 0 (0 : Nat) (none : Option Nat) (none : Option Nat))), (7, (.I .i64 i_7))]) [⟨[.ints .i64 ([(0 : Int), (1 : Int), (4 : Int), (8 : Int)] : List Int)], 3, false, true⟩])) ?_
    funext i_8
    exact ih xs_0 i_7 i_8
def GL15_6 : YL15_6 := fun x xs_0 i_7 i_8 k1 k2 => x = XL15_6 ∧ ∃ n, RL15_6  GL15_9 n xs_0 i_7 i_8 k1 k2
def VL15_6 (l : YL15_6) (F : Prop) (x : Code) (ρ : Env) (m : Mem) (K : Ex → Env → Mem → Prop) : Prop :=
  match ρ.has (42 - 1) with
  | true => (seeS (ρ.get 0) F fun xs_0 => (seeV (.sl 0 (0 : Nat) (none : Option Nat) (none : Option Nat)) (ρ.get 6) F (seeI .i64 (ρ.get 7) F fun i_7 => (seeI .i64 (ρ.get 8) F fun i_8 => (seeCons m F fun a5 q6 => (seeBlk 3 false true a5 F fun cs7 => (seeCons cs7 F fun a8 q9 => (seeInts .i64 a8 F fun xs10 => (seeX ([(0 : Int), (1 : Int), (4 : Int), (8 : Int)] : List Int) xs10 F (seeNil q9 F (seeNil q6 F (l x xs_0 i_7 i_8 (fun (u0 u1 : Int) => K .ret (selE 42 [(0, (.S xs_0)), (2, (.I .i64 i_7)), (3, (.I .i64 u0)), (4, (.I .i64 u1)), (5, (.B true)), (6, (.sl 0 (0 : Nat) (none : Option Nat) (none : Option Nat))), (7, (.I .i64 i_7))]) [⟨[.ints .i64 ([(0 : Int), (1 : Int), (4 : Int), (8 : Int)] : List Int)], 3, false, true⟩]) (K (.exit 2) (selE 42 [(0, (.S xs_0)), (2, .undef), (3, .undef), (4, .undef), (5, .undef), (6, (.sl 0 (0 : Nat) (none : Option Nat) (none : Option Nat))), (7, (.I .i64 i_7))]) [⟨[.ints .i64 ([(0 : Int), (1 : Int), (4 : Int), (8 : Int)] : List Int)], 3, false, true⟩])))))))))))))
  | false => False
def WL15_6 (l : YL15_6) (W : Masks) : Masks := fun r =>
  match Nat.beq r 6 with
  | true => some fun x ρ m K => VL15_6 l (match W r with | some lf => lf x ρ m K | none => False) x (tidyE 0 [0, 6, 7, 8] ρ m) (tidyM 0 [0, 6, 7, 8] ρ m) K
  | false => W r
set_option maxRecDepth 100000 in
theorem WL15_6_ok {W : Masks} (hW : LoopsOk Tryd.prog 0 W) : LoopsOk Tryd.prog 0 (WL15_6 GL15_6 W) := by
  intro r lf h
  unfold WL15_6 at h
  split at h
  · cases h
    intro x E0 m0 w0 ds hS0 ha ρ m K E a w Q hS hρ hd h hQ
    have fb : (match W r with | some lf => lf x ρ m K | none => False) → (Code.loop x).wp Tryd.prog Q a w := fun h => by
      split at h
      · rename_i lf hlf
        exact hW r lf hlf x hS0 ha ρ m K E a w Q hS hρ hd h hQ
      · cases h
    obtain ⟨E2, hS2, hρ2⟩ := tidy_rel hS0 hS hρ [0, 6, 7, 8]
    rw [ha] at hS2 hρ2
    unfold VL15_6 at h
    split at h
    · rename_i hlen
      replace h := seeS_use h
      rcases h with h | ⟨xs_0, e1, h⟩
      · exact fb h
      replace h := seeV_use h
      rcases h with h | ⟨e2, h⟩
      · exact fb h
      replace h := seeI_use h
      rcases h with h | ⟨i_7, e3, h⟩
      · exact fb h
      replace h := seeI_use h
      rcases h with h | ⟨i_8, e4, h⟩
      · exact fb h
      replace h := seeCons_use h
      rcases h with h | ⟨a5, q6, eqm, h⟩
      · exact fb h
      replace h := seeBlk_use h
      rcases h with h | ⟨cs7, rfl, h⟩
      · exact fb h
      replace h := seeCons_use h
      rcases h with h | ⟨a8, q9, rfl, h⟩
      · exact fb h
      replace h := seeInts_use h
      rcases h with h | ⟨xs10, rfl, h⟩
      · exact fb h
      replace h := seeX_use h
      rcases h with h | ⟨rfl, h⟩
      · exact fb h
      replace h := seeNil_use h
      rcases h with h | ⟨rfl, h⟩
      · exact fb h
      replace h := seeNil_use h
      rcases h with h | ⟨rfl, h⟩
      · exact fb h
      obtain ⟨rfl, n, h⟩ := h
      exact loop_use named Cm_ok (WL15_9_ok (LoopsOk.none _ _)) (RL15_6_ok  GL15_9 K n _ _ _) h hS0 ha hlen ⟨e1, e2, e3, e4, trivial⟩ (eqm ▸ hS2) hρ2 hd hQ
    · cases h
  · exact hW r lf h
abbrev YL15_3 : Type := Code → List Int → Int → (Int → Int → Int → Prop) → (Prop) → Prop
def HL15_3  (l15_6 : YL15_6) (rec : Int → Prop) (xs_0 : List Int) (i_7 : Int) (k1 : Int → Int → Int → Prop) (k2 : Prop) : Prop :=
  (bif (decide (i_7 ≤ (35 : Int))) then (l15_6 XL15_6 xs_0 i_7 (0 : Int) (fun (n3 n4 : Int) => (k1 i_7 n3 n4)) ((rec (IntKind.wrap .i64 (i_7 + (1 : Int)))))) else k2)
def RL15_3  (l15_6 : YL15_6) : Nat → List Int → Int → (Int → Int → Int → Prop) → (Prop) → Prop
  | 0, _, _, _, _ => False
  | n + 1, xs_0, i_7, k1, k2 => HL15_3  l15_6 (fun (i_7 : Int) => RL15_3  l15_6 n xs_0 i_7 k1 k2) xs_0 i_7 k1 k2
noncomputable def XL15_3 : Code := sub [true, true, false, true, false, false] (bodyOf Tryd.prog 15)
theorem HL15_3_ok  (l15_6 : YL15_6) (n : Nat) (xs_0 : List Int) (i_7 : Int) (K : Ex → Env → Mem → Prop) : cround 0 [0, 6, 7] [2, 3, 4, 5] (fun ρ m K => cexec Tryd.prog Cm (WL15_6 l15_6 (fun _ => none)) 0 1000 XL15_3 ρ m K) (n + 1) (selE 42 [(0, (.S xs_0)), (6, (.sl 0 (0 : Nat) (none : Option Nat) (none : Option Nat))), (7, (.I .i64 i_7))]) [⟨[.ints .i64 ([(0 : Int), (1 : Int), (4 : Int), (8 : Int)] : List Int)], 3, false, true⟩] K =
    HL15_3  l15_6 (fun (i_7 : Int) => cround 0 [0, 6, 7] [2, 3, 4, 5] (fun ρ m K => cexec Tryd.prog Cm (WL15_6 l15_6 (fun _ => none)) 0 1000 XL15_3 ρ m K) n (selE 42 [(0, (.S xs_0)), (6, (.sl 0 (0 : Nat) (none : Option Nat) (none : Option Nat))), (7, (.I .i64 i_7))]) [⟨[.ints .i64 ([(0 : Int), (1 : Int), (4 : Int), (8 : Int)] : List Int)], 3, false, true⟩] K) xs_0 i_7 (fun (u0 u1 u2 : Int) => K .ret (selE 42 [(2, (.I .i64 u0)), (3, (.I .i64 u1)), (4, (.I .i64 u2)), (5, (.B true))]) []) (K (.exit 0) (selE 42 [(2, .undef), (3, .undef), (4, .undef), (5, .undef)]) []) := by kernel_rfl
theorem RL15_3_ok  (l15_6 : YL15_6) (K : Ex → Env → Mem → Prop) : ∀ (n : Nat) (xs_0 : List Int) (i_7 : Int), cround 0 [0, 6, 7] [2, 3, 4, 5] (fun ρ m K => cexec Tryd.prog Cm (WL15_6 l15_6 (fun _ => none)) 0 1000 XL15_3 ρ m K) n (selE 42 [(0, (.S xs_0)), (6, (.sl 0 (0 : Nat) (none : Option Nat) (none : Option Nat))), (7, (.I .i64 i_7))]) [⟨[.ints .i64 ([(0 : Int), (1 : Int), (4 : Int), (8 : Int)] : List Int)], 3, false, true⟩] K = RL15_3  l15_6 n xs_0 i_7 (fun (u0 u1 u2 : Int) => K .ret (selE 42 [(2, (.I .i64 u0)), (3, (.I .i64 u1)), (4, (.I .i64 u2)), (5, (.B true))]) []) (K (.exit 0) (selE 42 [(2, .undef), (3, .undef), (4, .undef), (5, .undef)]) [])
  | 0, xs_0, i_7 => rfl
  | n + 1, xs_0, i_7 => by
    have ih := RL15_3_ok  l15_6 K n
    rw [HL15_3_ok  l15_6 n xs_0 i_7 K]
    show HL15_3  l15_6 _ xs_0 i_7 (fun (u0 u1 u2 : Int) => K .ret (selE 42 [(2, (.I .i64 u0)), (3, (.I .i64 u1)), (4, (.I .i64 u2)), (5, (.B true))]) []) (K (.exit 0) (selE 42 [(2, .undef), (3, .undef), (4, .undef), (5, .undef)]) []) = HL15_3  l15_6 _ xs_0 i_7 (fun (u0 u1 u2 : Int) => K .ret (selE 42 [(2, (.I .i64 u0)), (3, (.I .i64 u1)), (4, (.I .i64 u2)), (5, (.B true))]) []) (K (.exit 0) (selE 42 [(2, .undef), (3, .undef), (4, .undef), (5, .undef)]) [])
    refine congrArg (fun r => HL15_3  l15_6 r xs_0 i_7 (fun (u0 u1 u2 : Int) => K .ret (selE 42 [(2, (.I .i64 u0)), (3, (.I .i64 u1)), (4, (.I .i64 u2)), (5, (.B true))]) []) (K (.exit 0) (selE 42 [(2, .undef), (3, .undef), (4, .undef), (5, .undef)]) [])) ?_
    funext i_7
    exact ih xs_0 i_7
def GL15_3 : YL15_3 := fun x xs_0 i_7 k1 k2 => x = XL15_3 ∧ ∃ n, RL15_3  GL15_6 n xs_0 i_7 k1 k2
def VL15_3 (l : YL15_3) (F : Prop) (x : Code) (ρ : Env) (m : Mem) (K : Ex → Env → Mem → Prop) : Prop :=
  match ρ.has (42 - 1) with
  | true => (seeS (ρ.get 0) F fun xs_0 => (seeV (.sl 0 (0 : Nat) (none : Option Nat) (none : Option Nat)) (ρ.get 6) F (seeI .i64 (ρ.get 7) F fun i_7 => (seeCons m F fun a4 q5 => (seeBlk 3 false true a4 F fun cs6 => (seeCons cs6 F fun a7 q8 => (seeInts .i64 a7 F fun xs9 => (seeX ([(0 : Int), (1 : Int), (4 : Int), (8 : Int)] : List Int) xs9 F (seeNil q8 F (seeNil q5 F (l x xs_0 i_7 (fun (u0 u1 u2 : Int) => K .ret (selE 42 [(2, (.I .i64 u0)), (3, (.I .i64 u1)), (4, (.I .i64 u2)), (5, (.B true))]) []) (K (.exit 0) (selE 42 [(2, .undef), (3, .undef), (4, .undef), (5, .undef)]) []))))))))))))
  | false => False
def WL15_3 (l : YL15_3) (W : Masks) : Masks := fun r =>
  match Nat.beq r 3 with
  | true => some fun x ρ m K => VL15_3 l (match W r with | some lf => lf x ρ m K | none => False) x (tidyE 0 [0, 6, 7] ρ m) (tidyM 0 [0, 6, 7] ρ m) K
  | false => W r
set_option maxRecDepth 100000 in
theorem WL15_3_ok {W : Masks} (hW : LoopsOk Tryd.prog 0 W) : LoopsOk Tryd.prog 0 (WL15_3 GL15_3 W) := by
  intro r lf h
  unfold WL15_3 at h
  split at h
  · cases h
    intro x E0 m0 w0 ds hS0 ha ρ m K E a w Q hS hρ hd h hQ
    have fb : (match W r with | some lf => lf x ρ m K | none => False) → (Code.loop x).wp Tryd.prog Q a w := fun h => by
      split at h
      · rename_i lf hlf
        exact hW r lf hlf x hS0 ha ρ m K E a w Q hS hρ hd h hQ
      · cases h
    obtain ⟨E2, hS2, hρ2⟩ := tidy_rel hS0 hS hρ [0, 6, 7]
    rw [ha] at hS2 hρ2
    unfold VL15_3 at h
    split at h
    · rename_i hlen
      replace h := seeS_use h
      rcases h with h | ⟨xs_0, e1, h⟩
      · exact fb h
      replace h := seeV_use h
      rcases h with h | ⟨e2, h⟩
      · exact fb h
      replace h := seeI_use h
      rcases h with h | ⟨i_7, e3, h⟩
      · exact fb h
      replace h := seeCons_use h
      rcases h with h | ⟨a4, q5, eqm, h⟩
      · exact fb h
      replace h := seeBlk_use h
      rcases h with h | ⟨cs6, rfl, h⟩
      · exact fb h
      replace h := seeCons_use h
      rcases h with h | ⟨a7, q8, rfl, h⟩
      · exact fb h
      replace h := seeInts_use h
      rcases h with h | ⟨xs9, rfl, h⟩
      · exact fb h
      replace h := seeX_use h
      rcases h with h | ⟨rfl, h⟩
      · exact fb h
      replace h := seeNil_use h
      rcases h with h | ⟨rfl, h⟩
      · exact fb h
      replace h := seeNil_use h
      rcases h with h | ⟨rfl, h⟩
      · exact fb h
      obtain ⟨rfl, n, h⟩ := h
      exact loop_use named Cm_ok (WL15_6_ok (LoopsOk.none _ _)) (RL15_3_ok  GL15_6 K n _ _) h hS0 ha hlen ⟨e1, e2, e3, trivial⟩ (eqm ▸ hS2) hρ2 hd hQ
    · cases h
  · exact hW r lf h
theorem at15 : Tryd.prog.funcs[15]? = some (fnOf Tryd.prog 15) := by kernel_rfl
def F15  (l15_3 : YL15_3) (w : List Int) (k1 : Int → Int → Int → Prop) (k2 : Prop) : Prop :=
  (l15_3 XL15_3 w (1 : Int) (fun (n1 n2 n3 : Int) => (k1 n1 n2 n3)) ((k2)))
theorem F15_ok  (l15_3 : YL15_3) (w : List Int) (K : V → Mem → Prop) : cbody Tryd.prog Cm (WL15_3 l15_3 (fun _ => none)) 1000 (fnOf Tryd.prog 15) [(.S w)] [] K =
    F15  l15_3 w (fun (u0 u1 u2 : Int) => K (.tup [(.I .i64 u0), (.I .i64 u1), (.I .i64 u2), (.B true)]) []) (K (.tup [(.I .i64 (0 : Int)), (.I .i64 (0 : Int)), (.I .i64 (0 : Int)), (.B false)]) []) := by kernel_rfl
def G15 := F15  GL15_3
end Go.Proofs.YtaajhdkngiemlaaDoor.frm
