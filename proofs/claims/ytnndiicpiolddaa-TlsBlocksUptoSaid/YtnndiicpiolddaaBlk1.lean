import Derived.Test.YtnndiicpiolddaaProg
import Derived.Test.YtnndiicpiolddaaAbSee
set_option linter.unusedVariables false
namespace Go.Proofs.Ytnndiicpiolddaa.blk
open Go Go.Ab
def noPrims : Prims := fun _ => none
theorem named : Named Try.prog := by
  have h : Try.prog.funcs.toList.all (fun fn => !(fn.name == "runtime.NumGoroutine")) = true := by kernel_rfl
  intro g fn hf
  have := List.all_eq_true.1 h fn (by rw [Array.getElem?_eq_some_iff] at hf; obtain ⟨h1, rfl⟩ := hf; simp)
  simpa using this
def C0 : CC := call Try.prog noPrims 1000
theorem C0_ok : CallsOk Try.prog C0 := call_sound named (fun f g h => by cases h) 1000
theorem at14 : Try.prog.funcs[14]? = some (fnOf Try.prog 14) := by kernel_rfl
abbrev Y14 : Type := (Prop) → Prop
set_option maxHeartbeats 4000000 in
set_option maxRecDepth 100000 in
def F14   (k1 : Prop) : Prop :=
  (k1)
theorem F14_ok   (K : V → Mem → Prop) : cbody Try.prog C0 (fun _ => none) 1000 (fnOf Try.prog 14) [] [] K =
    F14   (K (.B true) []) := by kernel_rfl
def G14 : Y14 := F14 
def VT14 (f : Y14) (F : Prop) (args : List V) (m : Mem) (K : V → Mem → Prop) : Prop :=
  (seeNil args F (seeNil m F (f  (K (.B true) []))))
def T14 (f : Y14) (C : CC) : CC := fun g args m K =>
  match Nat.beq g 14 with
  | true => VT14 f (C g args m K) args m K
  | false => C g args m K
set_option maxRecDepth 100000 in
theorem T14_ok {C : CC} (hC : CallsOk Try.prog C) : CallsOk Try.prog (T14 G14 C) := by
  intro g args m K E w cargs hS ha h
  unfold T14 at h
  split at h
  · rename_i hg
    obtain rfl := Nat.eq_of_beq_eq_true hg
    unfold VT14 at h
    replace h := seeNil_use h
    rcases h with h | ⟨rfl, h⟩
    · exact hC _ _ _ _ _ _ _ hS ha h
    replace h := seeNil_use h
    rcases h with h | ⟨rfl, h⟩
    · exact hC _ _ _ _ _ _ _ hS ha h
    exact cbody_use named C0_ok at14 (l := 0) rfl (LoopsOk.none _ _) (F14_ok   K) hS ha h
  · exact hC _ _ _ _ _ _ _ hS ha h
theorem at13 : Try.prog.funcs[13]? = some (fnOf Try.prog 13) := by kernel_rfl
abbrev Y13 : Type := Int → (Prop) → Prop
set_option maxHeartbeats 4000000 in
set_option maxRecDepth 100000 in
def F13  (a : Int) (k1 : Prop) : Prop :=
  (k1)
theorem F13_ok  (a : Int) (K : V → Mem → Prop) : cbody Try.prog C0 (fun _ => none) 1000 (fnOf Try.prog 13) [(.I .i64 a)] [] K =
    F13  a (K (.I .i64 a) []) := by kernel_rfl
def G13 : Y13 := F13 
def VT13 (f : Y13) (F : Prop) (args : List V) (m : Mem) (K : V → Mem → Prop) : Prop :=
  (seeCons args F fun a1 q2 => (seeI .i64 a1 F fun a => (seeNil q2 F (seeNil m F (f a (K (.I .i64 a) []))))))
def T13 (f : Y13) (C : CC) : CC := fun g args m K =>
  match Nat.beq g 13 with
  | true => VT13 f (C g args m K) args m K
  | false => C g args m K
set_option maxRecDepth 100000 in
theorem T13_ok {C : CC} (hC : CallsOk Try.prog C) : CallsOk Try.prog (T13 G13 C) := by
  intro g args m K E w cargs hS ha h
  unfold T13 at h
  split at h
  · rename_i hg
    obtain rfl := Nat.eq_of_beq_eq_true hg
    unfold VT13 at h
    replace h := seeCons_use h
    rcases h with h | ⟨a1, q2, rfl, h⟩
    · exact hC _ _ _ _ _ _ _ hS ha h
    replace h := seeI_use h
    rcases h with h | ⟨a, rfl, h⟩
    · exact hC _ _ _ _ _ _ _ hS ha h
    replace h := seeNil_use h
    rcases h with h | ⟨rfl, h⟩
    · exact hC _ _ _ _ _ _ _ hS ha h
    replace h := seeNil_use h
    rcases h with h | ⟨rfl, h⟩
    · exact hC _ _ _ _ _ _ _ hS ha h
    exact cbody_use named C0_ok at13 (l := 0) rfl (LoopsOk.none _ _) (F13_ok  a K) hS ha h
  · exact hC _ _ _ _ _ _ _ hS ha h
theorem at16 : Try.prog.funcs[16]? = some (fnOf Try.prog 16) := by kernel_rfl
abbrev Y16 : Type := List Int → (Nat → List Int → Prop) → Prop
set_option maxHeartbeats 4000000 in
set_option maxRecDepth 100000 in
def F16  (xs : List Int) (k1 : Nat → List Int → Prop) : Prop :=
  (bif ((decide ((((0 : Nat) + ((List.length xs) - (0 : Nat))) * (1 : Nat)) ≤ (140737488355328 : Nat))) && (decide (((0 : Nat) + ((List.length xs) - (0 : Nat))) ≤ (140737488355328 : Nat)))) then (bif ((decide (((((List.length xs) - (0 : Nat)) + (2 : Nat)) * (1 : Nat)) ≤ (140737488355328 : Nat))) && (decide ((((List.length xs) - (0 : Nat)) + (2 : Nat)) ≤ (140737488355328 : Nat)))) then (bif ((decide ((0 : Int) ≤ ((((List.length xs) - (0 : Nat)) : Nat) : Int))) && (decide ((Int.toNat ((((List.length xs) - (0 : Nat)) : Nat) : Int)) ≤ ((List.length (xs ++ ([(201 : Int), (202 : Int)] : List Int))) - (0 : Nat))))) then (k1 (Int.toNat ((((List.length xs) - (0 : Nat)) : Nat) : Int)) (xs ++ ([(201 : Int), (202 : Int)] : List Int))) else False) else False) else False)
theorem F16_ok  (xs : List Int) (K : V → Mem → Prop) : cbody Try.prog C0 (fun _ => none) 1000 (fnOf Try.prog 16) [(.sl 0 (0 : Nat) (none : Option Nat) (none : Option Nat))] [⟨[.ints .u8 xs], 5, true, false⟩] K =
    F16  xs (fun (u0 : Nat) (u1 : List Int) => K (.sl 1 (0 : Nat) (some u0) (none : Option Nat)) [⟨[.ints .u8 xs], 5, true, false⟩, ⟨[.ints .u8 u1], 5, false, true⟩]) := by kernel_rfl
def G16 : Y16 := F16 
def VT16 (f : Y16) (F : Prop) (args : List V) (m : Mem) (K : V → Mem → Prop) : Prop :=
  (seeCons args F fun a1 q2 => (seeV (.sl 0 (0 : Nat) (none : Option Nat) (none : Option Nat)) a1 F (seeNil q2 F (seeCons m F fun a3 q4 => (seeBlk 5 true false a3 F fun cs5 => (seeCons cs5 F fun a6 q7 => (seeInts .u8 a6 F fun xs => (seeNil q7 F (seeNil q4 F (f xs (fun (u0 : Nat) (u1 : List Int) => K (.sl 1 (0 : Nat) (some u0) (none : Option Nat)) [⟨[.ints .u8 xs], 5, true, false⟩, ⟨[.ints .u8 u1], 5, false, true⟩])))))))))))
def T16 (f : Y16) (C : CC) : CC := fun g args m K =>
  match Nat.beq g 16 with
  | true => VT16 f (C g args m K) args m K
  | false => C g args m K
set_option maxRecDepth 100000 in
theorem T16_ok {C : CC} (hC : CallsOk Try.prog C) : CallsOk Try.prog (T16 G16 C) := by
  intro g args m K E w cargs hS ha h
  unfold T16 at h
  split at h
  · rename_i hg
    obtain rfl := Nat.eq_of_beq_eq_true hg
    unfold VT16 at h
    replace h := seeCons_use h
    rcases h with h | ⟨a1, q2, rfl, h⟩
    · exact hC _ _ _ _ _ _ _ hS ha h
    replace h := seeV_use h
    rcases h with h | ⟨rfl, h⟩
    · exact hC _ _ _ _ _ _ _ hS ha h
    replace h := seeNil_use h
    rcases h with h | ⟨rfl, h⟩
    · exact hC _ _ _ _ _ _ _ hS ha h
    replace h := seeCons_use h
    rcases h with h | ⟨a3, q4, rfl, h⟩
    · exact hC _ _ _ _ _ _ _ hS ha h
    replace h := seeBlk_use h
    rcases h with h | ⟨cs5, rfl, h⟩
    · exact hC _ _ _ _ _ _ _ hS ha h
    replace h := seeCons_use h
    rcases h with h | ⟨a6, q7, rfl, h⟩
    · exact hC _ _ _ _ _ _ _ hS ha h
    replace h := seeInts_use h
    rcases h with h | ⟨xs, rfl, h⟩
    · exact hC _ _ _ _ _ _ _ hS ha h
    replace h := seeNil_use h
    rcases h with h | ⟨rfl, h⟩
    · exact hC _ _ _ _ _ _ _ hS ha h
    replace h := seeNil_use h
    rcases h with h | ⟨rfl, h⟩
    · exact hC _ _ _ _ _ _ _ hS ha h
    exact cbody_use named C0_ok at16 (l := 1) rfl (LoopsOk.none _ _) (F16_ok  xs K) hS ha h
  · exact hC _ _ _ _ _ _ _ hS ha h
theorem at20 : Try.prog.funcs[20]? = some (fnOf Try.prog 20) := by kernel_rfl
abbrev Y20 : Type := Nat → List Int → List Int → (Bool → Prop) → (Prop) → Prop
set_option maxHeartbeats 4000000 in
set_option maxRecDepth 100000 in
def F20  (n : Nat) (xs : List Int) (ys : List Int) (k1 : Bool → Prop) (k2 : Prop) : Prop :=
  (bif ((decide ((0 : Int) ≤ (IntKind.wrap .i64 (((((List.length ys) - (0 : Nat)) : Nat) : Int) + (2 : Int))))) && (decide ((Int.toNat (IntKind.wrap .i64 (((((List.length ys) - (0 : Nat)) : Nat) : Int) + (2 : Int)))) ≤ ((List.length xs) - (0 : Nat))))) then (bif ((decide ((0 : Int) ≤ ((((List.length ys) - (0 : Nat)) : Nat) : Int))) && (decide ((Int.toNat ((((List.length ys) - (0 : Nat)) : Nat) : Int)) ≤ ((List.length xs) - (0 : Nat))))) then (bif ((List.take (Int.toNat ((((List.length ys) - (0 : Nat)) : Nat) : Int)) xs) == ys) then (bif ((decide ((0 : Int) ≤ ((((List.length ys) - (0 : Nat)) : Nat) : Int))) && (decide (((((List.length ys) - (0 : Nat)) : Nat) : Int) < (((Int.toNat (IntKind.wrap .i64 (((((List.length ys) - (0 : Nat)) : Nat) : Int) + (2 : Int)))) : Nat) : Int)))) then (bif ((List.getD xs (Int.toNat ((((List.length ys) - (0 : Nat)) : Nat) : Int)) (0 : Int)) == (201 : Int)) then (bif ((decide ((0 : Int) ≤ (IntKind.wrap .i64 (((((List.length ys) - (0 : Nat)) : Nat) : Int) + (1 : Int))))) && (decide ((IntKind.wrap .i64 (((((List.length ys) - (0 : Nat)) : Nat) : Int) + (1 : Int))) < (((Int.toNat (IntKind.wrap .i64 (((((List.length ys) - (0 : Nat)) : Nat) : Int) + (2 : Int)))) : Nat) : Int)))) then (k1 ((List.getD xs (Int.toNat (IntKind.wrap .i64 (((((List.length ys) - (0 : Nat)) : Nat) : Int) + (1 : Int)))) (0 : Int)) == (202 : Int))) else False) else (k2)) else False) else (k2)) else False) else False)
theorem F20_ok  (n : Nat) (xs : List Int) (ys : List Int) (K : V → Mem → Prop) : cbody Try.prog C0 (fun _ => none) 1000 (fnOf Try.prog 20) [(.sl 0 (0 : Nat) (some n) (none : Option Nat)), (.sl 1 (0 : Nat) (none : Option Nat) (none : Option Nat))] [⟨[.ints .u8 xs], 5, false, false⟩, ⟨[.ints .u8 ys], 5, true, false⟩] K =
    F20  n xs ys (fun (u0 : Bool) => K (.B u0) [⟨[.ints .u8 xs], 5, false, false⟩, ⟨[.ints .u8 ys], 5, true, false⟩]) (K (.B false) [⟨[.ints .u8 xs], 5, false, false⟩, ⟨[.ints .u8 ys], 5, true, false⟩]) := by kernel_rfl
def G20 : Y20 := F20 
def VT20 (f : Y20) (F : Prop) (args : List V) (m : Mem) (K : V → Mem → Prop) : Prop :=
  (seeCons args F fun a1 q2 => (seeSl 0 a1 F fun r3 l4 c5 => (seeN 0 r3 F (seeO l4 F fun n => (seeNo c5 F (seeCons q2 F fun a6 q7 => (seeV (.sl 1 (0 : Nat) (none : Option Nat) (none : Option Nat)) a6 F (seeNil q7 F (seeCons m F fun a8 q9 => (seeBlk 5 false false a8 F fun cs10 => (seeCons cs10 F fun a11 q12 => (seeInts .u8 a11 F fun xs => (seeNil q12 F (seeCons q9 F fun a13 q14 => (seeBlk 5 true false a13 F fun cs15 => (seeCons cs15 F fun a16 q17 => (seeInts .u8 a16 F fun ys => (seeNil q17 F (seeNil q14 F (f n xs ys (fun (u0 : Bool) => K (.B u0) [⟨[.ints .u8 xs], 5, false, false⟩, ⟨[.ints .u8 ys], 5, true, false⟩]) (K (.B false) [⟨[.ints .u8 xs], 5, false, false⟩, ⟨[.ints .u8 ys], 5, true, false⟩])))))))))))))))))))))
def T20 (f : Y20) (C : CC) : CC := fun g args m K =>
  match Nat.beq g 20 with
  | true => VT20 f (C g args m K) args m K
  | false => C g args m K
set_option maxRecDepth 100000 in
theorem T20_ok {C : CC} (hC : CallsOk Try.prog C) : CallsOk Try.prog (T20 G20 C) := by
  intro g args m K E w cargs hS ha h
  unfold T20 at h
  split at h
  · rename_i hg
    obtain rfl := Nat.eq_of_beq_eq_true hg
    unfold VT20 at h
    replace h := seeCons_use h
    rcases h with h | ⟨a1, q2, rfl, h⟩
    · exact hC _ _ _ _ _ _ _ hS ha h
    replace h := seeSl_use h
    rcases h with h | ⟨r3, l4, c5, rfl, h⟩
    · exact hC _ _ _ _ _ _ _ hS ha h
    replace h := seeN_use h
    rcases h with h | ⟨rfl, h⟩
    · exact hC _ _ _ _ _ _ _ hS ha h
    replace h := seeO_use h
    rcases h with h | ⟨n, rfl, h⟩
    · exact hC _ _ _ _ _ _ _ hS ha h
    replace h := seeNo_use h
    rcases h with h | ⟨rfl, h⟩
    · exact hC _ _ _ _ _ _ _ hS ha h
    replace h := seeCons_use h
    rcases h with h | ⟨a6, q7, rfl, h⟩
    · exact hC _ _ _ _ _ _ _ hS ha h
    replace h := seeV_use h
    rcases h with h | ⟨rfl, h⟩
    · exact hC _ _ _ _ _ _ _ hS ha h
    replace h := seeNil_use h
    rcases h with h | ⟨rfl, h⟩
    · exact hC _ _ _ _ _ _ _ hS ha h
    replace h := seeCons_use h
    rcases h with h | ⟨a8, q9, rfl, h⟩
    · exact hC _ _ _ _ _ _ _ hS ha h
    replace h := seeBlk_use h
    rcases h with h | ⟨cs10, rfl, h⟩
    · exact hC _ _ _ _ _ _ _ hS ha h
    replace h := seeCons_use h
    rcases h with h | ⟨a11, q12, rfl, h⟩
    · exact hC _ _ _ _ _ _ _ hS ha h
    replace h := seeInts_use h
    rcases h with h | ⟨xs, rfl, h⟩
    · exact hC _ _ _ _ _ _ _ hS ha h
    replace h := seeNil_use h
    rcases h with h | ⟨rfl, h⟩
    · exact hC _ _ _ _ _ _ _ hS ha h
    replace h := seeCons_use h
    rcases h with h | ⟨a13, q14, rfl, h⟩
    · exact hC _ _ _ _ _ _ _ hS ha h
    replace h := seeBlk_use h
    rcases h with h | ⟨cs15, rfl, h⟩
    · exact hC _ _ _ _ _ _ _ hS ha h
    replace h := seeCons_use h
    rcases h with h | ⟨a16, q17, rfl, h⟩
    · exact hC _ _ _ _ _ _ _ hS ha h
    replace h := seeInts_use h
    rcases h with h | ⟨ys, rfl, h⟩
    · exact hC _ _ _ _ _ _ _ hS ha h
    replace h := seeNil_use h
    rcases h with h | ⟨rfl, h⟩
    · exact hC _ _ _ _ _ _ _ hS ha h
    replace h := seeNil_use h
    rcases h with h | ⟨rfl, h⟩
    · exact hC _ _ _ _ _ _ _ hS ha h
    exact cbody_use named C0_ok at20 (l := 2) rfl (LoopsOk.none _ _) (F20_ok  n xs ys K) hS ha h
  · exact hC _ _ _ _ _ _ _ hS ha h
theorem at51 : Try.prog.funcs[51]? = some (fnOf Try.prog 51) := by kernel_rfl
abbrev Y51 : Type := Int → Int → (Prop) → (Prop) → (Prop) → (Int → Prop) → Prop
set_option maxHeartbeats 4000000 in
set_option maxRecDepth 100000 in
def F51  (sz : Int) (al : Int) (k1 : Prop) (k2 : Prop) (k3 : Prop) (k4 : Int → Prop) : Prop :=
  (bif (decide (al < (1 : Int))) then (k1) else (bif (decide (al > (1073741824 : Int))) then (k1) else (bif ((ibits .and .i64 (IntKind.wrap .i64 (IntKind.wrap .u64 ((IntKind.wrap .u64 ((IntKind.wrap .u64 ((ibits .and .u64 (IntKind.wrap .u64 ((Int.fdiv (IntKind.wrap .u64 ((ibits .and .u64 (Int.fdiv (IntKind.wrap .u64 ((ibits .and .u64 (Int.fdiv (IntKind.wrap .u64 al) (2 ^ 1)) (6148914691236517205 : Int)) + (ibits .and .u64 (IntKind.wrap .u64 al) (6148914691236517205 : Int)))) (2 ^ 2)) (3689348814741910323 : Int)) + (ibits .and .u64 (IntKind.wrap .u64 ((ibits .and .u64 (Int.fdiv (IntKind.wrap .u64 al) (2 ^ 1)) (6148914691236517205 : Int)) + (ibits .and .u64 (IntKind.wrap .u64 al) (6148914691236517205 : Int)))) (3689348814741910323 : Int)))) (2 ^ 4)) + (IntKind.wrap .u64 ((ibits .and .u64 (Int.fdiv (IntKind.wrap .u64 ((ibits .and .u64 (Int.fdiv (IntKind.wrap .u64 al) (2 ^ 1)) (6148914691236517205 : Int)) + (ibits .and .u64 (IntKind.wrap .u64 al) (6148914691236517205 : Int)))) (2 ^ 2)) (3689348814741910323 : Int)) + (ibits .and .u64 (IntKind.wrap .u64 ((ibits .and .u64 (Int.fdiv (IntKind.wrap .u64 al) (2 ^ 1)) (6148914691236517205 : Int)) + (ibits .and .u64 (IntKind.wrap .u64 al) (6148914691236517205 : Int)))) (3689348814741910323 : Int)))))) (1085102592571150095 : Int)) + (Int.fdiv (ibits .and .u64 (IntKind.wrap .u64 ((Int.fdiv (IntKind.wrap .u64 ((ibits .and .u64 (Int.fdiv (IntKind.wrap .u64 ((ibits .and .u64 (Int.fdiv (IntKind.wrap .u64 al) (2 ^ 1)) (6148914691236517205 : Int)) + (ibits .and .u64 (IntKind.wrap .u64 al) (6148914691236517205 : Int)))) (2 ^ 2)) (3689348814741910323 : Int)) + (ibits .and .u64 (IntKind.wrap .u64 ((ibits .and .u64 (Int.fdiv (IntKind.wrap .u64 al) (2 ^ 1)) (6148914691236517205 : Int)) + (ibits .and .u64 (IntKind.wrap .u64 al) (6148914691236517205 : Int)))) (3689348814741910323 : Int)))) (2 ^ 4)) + (IntKind.wrap .u64 ((ibits .and .u64 (Int.fdiv (IntKind.wrap .u64 ((ibits .and .u64 (Int.fdiv (IntKind.wrap .u64 al) (2 ^ 1)) (6148914691236517205 : Int)) + (ibits .and .u64 (IntKind.wrap .u64 al) (6148914691236517205 : Int)))) (2 ^ 2)) (3689348814741910323 : Int)) + (ibits .and .u64 (IntKind.wrap .u64 ((ibits .and .u64 (Int.fdiv (IntKind.wrap .u64 al) (2 ^ 1)) (6148914691236517205 : Int)) + (ibits .and .u64 (IntKind.wrap .u64 al) (6148914691236517205 : Int)))) (3689348814741910323 : Int)))))) (1085102592571150095 : Int)) (2 ^ 8)))) + (Int.fdiv (IntKind.wrap .u64 ((ibits .and .u64 (IntKind.wrap .u64 ((Int.fdiv (IntKind.wrap .u64 ((ibits .and .u64 (Int.fdiv (IntKind.wrap .u64 ((ibits .and .u64 (Int.fdiv (IntKind.wrap .u64 al) (2 ^ 1)) (6148914691236517205 : Int)) + (ibits .and .u64 (IntKind.wrap .u64 al) (6148914691236517205 : Int)))) (2 ^ 2)) (3689348814741910323 : Int)) + (ibits .and .u64 (IntKind.wrap .u64 ((ibits .and .u64 (Int.fdiv (IntKind.wrap .u64 al) (2 ^ 1)) (6148914691236517205 : Int)) + (ibits .and .u64 (IntKind.wrap .u64 al) (6148914691236517205 : Int)))) (3689348814741910323 : Int)))) (2 ^ 4)) + (IntKind.wrap .u64 ((ibits .and .u64 (Int.fdiv (IntKind.wrap .u64 ((ibits .and .u64 (Int.fdiv (IntKind.wrap .u64 al) (2 ^ 1)) (6148914691236517205 : Int)) + (ibits .and .u64 (IntKind.wrap .u64 al) (6148914691236517205 : Int)))) (2 ^ 2)) (3689348814741910323 : Int)) + (ibits .and .u64 (IntKind.wrap .u64 ((ibits .and .u64 (Int.fdiv (IntKind.wrap .u64 al) (2 ^ 1)) (6148914691236517205 : Int)) + (ibits .and .u64 (IntKind.wrap .u64 al) (6148914691236517205 : Int)))) (3689348814741910323 : Int)))))) (1085102592571150095 : Int)) + (Int.fdiv (ibits .and .u64 (IntKind.wrap .u64 ((Int.fdiv (IntKind.wrap .u64 ((ibits .and .u64 (Int.fdiv (IntKind.wrap .u64 ((ibits .and .u64 (Int.fdiv (IntKind.wrap .u64 al) (2 ^ 1)) (6148914691236517205 : Int)) + (ibits .and .u64 (IntKind.wrap .u64 al) (6148914691236517205 : Int)))) (2 ^ 2)) (3689348814741910323 : Int)) + (ibits .and .u64 (IntKind.wrap .u64 ((ibits .and .u64 (Int.fdiv (IntKind.wrap .u64 al) (2 ^ 1)) (6148914691236517205 : Int)) + (ibits .and .u64 (IntKind.wrap .u64 al) (6148914691236517205 : Int)))) (3689348814741910323 : Int)))) (2 ^ 4)) + (IntKind.wrap .u64 ((ibits .and .u64 (Int.fdiv (IntKind.wrap .u64 ((ibits .and .u64 (Int.fdiv (IntKind.wrap .u64 al) (2 ^ 1)) (6148914691236517205 : Int)) + (ibits .and .u64 (IntKind.wrap .u64 al) (6148914691236517205 : Int)))) (2 ^ 2)) (3689348814741910323 : Int)) + (ibits .and .u64 (IntKind.wrap .u64 ((ibits .and .u64 (Int.fdiv (IntKind.wrap .u64 al) (2 ^ 1)) (6148914691236517205 : Int)) + (ibits .and .u64 (IntKind.wrap .u64 al) (6148914691236517205 : Int)))) (3689348814741910323 : Int)))))) (1085102592571150095 : Int)) (2 ^ 8)))) (2 ^ 16)))) + (Int.fdiv (IntKind.wrap .u64 ((IntKind.wrap .u64 ((ibits .and .u64 (IntKind.wrap .u64 ((Int.fdiv (IntKind.wrap .u64 ((ibits .and .u64 (Int.fdiv (IntKind.wrap .u64 ((ibits .and .u64 (Int.fdiv (IntKind.wrap .u64 al) (2 ^ 1)) (6148914691236517205 : Int)) + (ibits .and .u64 (IntKind.wrap .u64 al) (6148914691236517205 : Int)))) (2 ^ 2)) (3689348814741910323 : Int)) + (ibits .and .u64 (IntKind.wrap .u64 ((ibits .and .u64 (Int.fdiv (IntKind.wrap .u64 al) (2 ^ 1)) (6148914691236517205 : Int)) + (ibits .and .u64 (IntKind.wrap .u64 al) (6148914691236517205 : Int)))) (3689348814741910323 : Int)))) (2 ^ 4)) + (IntKind.wrap .u64 ((ibits .and .u64 (Int.fdiv (IntKind.wrap .u64 ((ibits .and .u64 (Int.fdiv (IntKind.wrap .u64 al) (2 ^ 1)) (6148914691236517205 : Int)) + (ibits .and .u64 (IntKind.wrap .u64 al) (6148914691236517205 : Int)))) (2 ^ 2)) (3689348814741910323 : Int)) + (ibits .and .u64 (IntKind.wrap .u64 ((ibits .and .u64 (Int.fdiv (IntKind.wrap .u64 al) (2 ^ 1)) (6148914691236517205 : Int)) + (ibits .and .u64 (IntKind.wrap .u64 al) (6148914691236517205 : Int)))) (3689348814741910323 : Int)))))) (1085102592571150095 : Int)) + (Int.fdiv (ibits .and .u64 (IntKind.wrap .u64 ((Int.fdiv (IntKind.wrap .u64 ((ibits .and .u64 (Int.fdiv (IntKind.wrap .u64 ((ibits .and .u64 (Int.fdiv (IntKind.wrap .u64 al) (2 ^ 1)) (6148914691236517205 : Int)) + (ibits .and .u64 (IntKind.wrap .u64 al) (6148914691236517205 : Int)))) (2 ^ 2)) (3689348814741910323 : Int)) + (ibits .and .u64 (IntKind.wrap .u64 ((ibits .and .u64 (Int.fdiv (IntKind.wrap .u64 al) (2 ^ 1)) (6148914691236517205 : Int)) + (ibits .and .u64 (IntKind.wrap .u64 al) (6148914691236517205 : Int)))) (3689348814741910323 : Int)))) (2 ^ 4)) + (IntKind.wrap .u64 ((ibits .and .u64 (Int.fdiv (IntKind.wrap .u64 ((ibits .and .u64 (Int.fdiv (IntKind.wrap .u64 al) (2 ^ 1)) (6148914691236517205 : Int)) + (ibits .and .u64 (IntKind.wrap .u64 al) (6148914691236517205 : Int)))) (2 ^ 2)) (3689348814741910323 : Int)) + (ibits .and .u64 (IntKind.wrap .u64 ((ibits .and .u64 (Int.fdiv (IntKind.wrap .u64 al) (2 ^ 1)) (6148914691236517205 : Int)) + (ibits .and .u64 (IntKind.wrap .u64 al) (6148914691236517205 : Int)))) (3689348814741910323 : Int)))))) (1085102592571150095 : Int)) (2 ^ 8)))) + (Int.fdiv (IntKind.wrap .u64 ((ibits .and .u64 (IntKind.wrap .u64 ((Int.fdiv (IntKind.wrap .u64 ((ibits .and .u64 (Int.fdiv (IntKind.wrap .u64 ((ibits .and .u64 (Int.fdiv (IntKind.wrap .u64 al) (2 ^ 1)) (6148914691236517205 : Int)) + (ibits .and .u64 (IntKind.wrap .u64 al) (6148914691236517205 : Int)))) (2 ^ 2)) (3689348814741910323 : Int)) + (ibits .and .u64 (IntKind.wrap .u64 ((ibits .and .u64 (Int.fdiv (IntKind.wrap .u64 al) (2 ^ 1)) (6148914691236517205 : Int)) + (ibits .and .u64 (IntKind.wrap .u64 al) (6148914691236517205 : Int)))) (3689348814741910323 : Int)))) (2 ^ 4)) + (IntKind.wrap .u64 ((ibits .and .u64 (Int.fdiv (IntKind.wrap .u64 ((ibits .and .u64 (Int.fdiv (IntKind.wrap .u64 al) (2 ^ 1)) (6148914691236517205 : Int)) + (ibits .and .u64 (IntKind.wrap .u64 al) (6148914691236517205 : Int)))) (2 ^ 2)) (3689348814741910323 : Int)) + (ibits .and .u64 (IntKind.wrap .u64 ((ibits .and .u64 (Int.fdiv (IntKind.wrap .u64 al) (2 ^ 1)) (6148914691236517205 : Int)) + (ibits .and .u64 (IntKind.wrap .u64 al) (6148914691236517205 : Int)))) (3689348814741910323 : Int)))))) (1085102592571150095 : Int)) + (Int.fdiv (ibits .and .u64 (IntKind.wrap .u64 ((Int.fdiv (IntKind.wrap .u64 ((ibits .and .u64 (Int.fdiv (IntKind.wrap .u64 ((ibits .and .u64 (Int.fdiv (IntKind.wrap .u64 al) (2 ^ 1)) (6148914691236517205 : Int)) + (ibits .and .u64 (IntKind.wrap .u64 al) (6148914691236517205 : Int)))) (2 ^ 2)) (3689348814741910323 : Int)) + (ibits .and .u64 (IntKind.wrap .u64 ((ibits .and .u64 (Int.fdiv (IntKind.wrap .u64 al) (2 ^ 1)) (6148914691236517205 : Int)) + (ibits .and .u64 (IntKind.wrap .u64 al) (6148914691236517205 : Int)))) (3689348814741910323 : Int)))) (2 ^ 4)) + (IntKind.wrap .u64 ((ibits .and .u64 (Int.fdiv (IntKind.wrap .u64 ((ibits .and .u64 (Int.fdiv (IntKind.wrap .u64 al) (2 ^ 1)) (6148914691236517205 : Int)) + (ibits .and .u64 (IntKind.wrap .u64 al) (6148914691236517205 : Int)))) (2 ^ 2)) (3689348814741910323 : Int)) + (ibits .and .u64 (IntKind.wrap .u64 ((ibits .and .u64 (Int.fdiv (IntKind.wrap .u64 al) (2 ^ 1)) (6148914691236517205 : Int)) + (ibits .and .u64 (IntKind.wrap .u64 al) (6148914691236517205 : Int)))) (3689348814741910323 : Int)))))) (1085102592571150095 : Int)) (2 ^ 8)))) (2 ^ 16)))) (2 ^ 32))))) (127 : Int)) != (1 : Int)) then (k1) else (bif (decide (sz < (0 : Int))) then (bif (decide (sz < (0 : Int))) then (k2) else (bif ((ibits .and .i64 sz (IntKind.wrap .i64 (al - (1 : Int)))) != (0 : Int)) then (k2) else (k3))) else (bif (decide (sz > (IntKind.wrap .i64 ((9223372036854775807 : Int) - (IntKind.wrap .i64 (al - (1 : Int))))))) then (bif (decide (sz < (0 : Int))) then (k2) else (bif ((ibits .and .i64 sz (IntKind.wrap .i64 (al - (1 : Int)))) != (0 : Int)) then (k2) else (k3))) else (k4 (ibits .andNot .i64 (IntKind.wrap .i64 ((IntKind.wrap .i64 (sz + al)) - (1 : Int))) (IntKind.wrap .i64 (al - (1 : Int))))))))))
theorem F51_ok  (sz : Int) (al : Int) (K : V → Mem → Prop) : cbody Try.prog C0 (fun _ => none) 1000 (fnOf Try.prog 51) [(.I .i64 sz), (.I .i64 al)] [] K =
    F51  sz al (K (.tup [(.I .i64 (0 : Int)), (.I .i64 (1 : Int))]) []) (K (.tup [(.I .i64 (0 : Int)), (.I .i64 (11 : Int))]) []) (K (.tup [(.I .i64 sz), (.I .i64 (0 : Int))]) []) (fun (u0 : Int) => K (.tup [(.I .i64 u0), (.I .i64 (0 : Int))]) []) := by kernel_rfl
def G51 : Y51 := F51 
def VT51 (f : Y51) (F : Prop) (args : List V) (m : Mem) (K : V → Mem → Prop) : Prop :=
  (seeCons args F fun a1 q2 => (seeI .i64 a1 F fun sz => (seeCons q2 F fun a3 q4 => (seeI .i64 a3 F fun al => (seeNil q4 F (seeNil m F (f sz al (K (.tup [(.I .i64 (0 : Int)), (.I .i64 (1 : Int))]) []) (K (.tup [(.I .i64 (0 : Int)), (.I .i64 (11 : Int))]) []) (K (.tup [(.I .i64 sz), (.I .i64 (0 : Int))]) []) (fun (u0 : Int) => K (.tup [(.I .i64 u0), (.I .i64 (0 : Int))]) []))))))))
def T51 (f : Y51) (C : CC) : CC := fun g args m K =>
  match Nat.beq g 51 with
  | true => VT51 f (C g args m K) args m K
  | false => C g args m K
set_option maxRecDepth 100000 in
theorem T51_ok {C : CC} (hC : CallsOk Try.prog C) : CallsOk Try.prog (T51 G51 C) := by
  intro g args m K E w cargs hS ha h
  unfold T51 at h
  split at h
  · rename_i hg
    obtain rfl := Nat.eq_of_beq_eq_true hg
    unfold VT51 at h
    replace h := seeCons_use h
    rcases h with h | ⟨a1, q2, rfl, h⟩
    · exact hC _ _ _ _ _ _ _ hS ha h
    replace h := seeI_use h
    rcases h with h | ⟨sz, rfl, h⟩
    · exact hC _ _ _ _ _ _ _ hS ha h
    replace h := seeCons_use h
    rcases h with h | ⟨a3, q4, rfl, h⟩
    · exact hC _ _ _ _ _ _ _ hS ha h
    replace h := seeI_use h
    rcases h with h | ⟨al, rfl, h⟩
    · exact hC _ _ _ _ _ _ _ hS ha h
    replace h := seeNil_use h
    rcases h with h | ⟨rfl, h⟩
    · exact hC _ _ _ _ _ _ _ hS ha h
    replace h := seeNil_use h
    rcases h with h | ⟨rfl, h⟩
    · exact hC _ _ _ _ _ _ _ hS ha h
    exact cbody_use named C0_ok at51 (l := 0) rfl (LoopsOk.none _ _) (F51_ok  sz al K) hS ha h
  · exact hC _ _ _ _ _ _ _ hS ha h
theorem at52 : Try.prog.funcs[52]? = some (fnOf Try.prog 52) := by kernel_rfl
abbrev Y52 : Type := Int → (Bool → Prop) → (Prop) → Prop
set_option maxHeartbeats 4000000 in
set_option maxRecDepth 100000 in
def F52  (al : Int) (k1 : Bool → Prop) (k2 : Prop) : Prop :=
  (bif (decide (al ≥ (1 : Int))) then (bif (decide (al ≤ (1073741824 : Int))) then (k1 ((ibits .and .i64 al (IntKind.wrap .i64 (al - (1 : Int)))) == (0 : Int))) else (k2)) else (k2))
theorem F52_ok  (al : Int) (K : V → Mem → Prop) : cbody Try.prog C0 (fun _ => none) 1000 (fnOf Try.prog 52) [(.I .i64 al)] [] K =
    F52  al (fun (u0 : Bool) => K (.B u0) []) (K (.B false) []) := by kernel_rfl
def G52 : Y52 := F52 
def VT52 (f : Y52) (F : Prop) (args : List V) (m : Mem) (K : V → Mem → Prop) : Prop :=
  (seeCons args F fun a1 q2 => (seeI .i64 a1 F fun al => (seeNil q2 F (seeNil m F (f al (fun (u0 : Bool) => K (.B u0) []) (K (.B false) []))))))
def T52 (f : Y52) (C : CC) : CC := fun g args m K =>
  match Nat.beq g 52 with
  | true => VT52 f (C g args m K) args m K
  | false => C g args m K
set_option maxRecDepth 100000 in
theorem T52_ok {C : CC} (hC : CallsOk Try.prog C) : CallsOk Try.prog (T52 G52 C) := by
  intro g args m K E w cargs hS ha h
  unfold T52 at h
  split at h
  · rename_i hg
    obtain rfl := Nat.eq_of_beq_eq_true hg
    unfold VT52 at h
    replace h := seeCons_use h
    rcases h with h | ⟨a1, q2, rfl, h⟩
    · exact hC _ _ _ _ _ _ _ hS ha h
    replace h := seeI_use h
    rcases h with h | ⟨al, rfl, h⟩
    · exact hC _ _ _ _ _ _ _ hS ha h
    replace h := seeNil_use h
    rcases h with h | ⟨rfl, h⟩
    · exact hC _ _ _ _ _ _ _ hS ha h
    replace h := seeNil_use h
    rcases h with h | ⟨rfl, h⟩
    · exact hC _ _ _ _ _ _ _ hS ha h
    exact cbody_use named C0_ok at52 (l := 0) rfl (LoopsOk.none _ _) (F52_ok  al K) hS ha h
  · exact hC _ _ _ _ _ _ _ hS ha h
theorem at53 : Try.prog.funcs[53]? = some (fnOf Try.prog 53) := by kernel_rfl
abbrev Y53 : Type := Int → Int → (Prop) → (Prop) → (Prop) → (Int → Prop) → Prop
set_option maxHeartbeats 4000000 in
set_option maxRecDepth 100000 in
def F53 (f52 : Y52) (sz : Int) (al : Int) (k1 : Prop) (k2 : Prop) (k3 : Prop) (k4 : Int → Prop) : Prop :=
  (f52 al (fun (b1 : Bool) => (bif (!b1) then (k1) else (bif (decide (sz < (0 : Int))) then (k2) else (bif (!(al == (0 : Int))) then (bif ((Int.tmod sz al) == (0 : Int)) then (k3) else (bif (!(al == (0 : Int))) then (bif (decide ((IntKind.wrap .i64 (sz - (Int.tmod sz al))) > (IntKind.wrap .i64 ((9223372036854775807 : Int) - al)))) then (k2) else (k4 (IntKind.wrap .i64 ((IntKind.wrap .i64 (sz - (Int.tmod sz al))) + al)))) else False)) else False)))) ((k1)))
theorem F53_ok (f52 : Y52) (sz : Int) (al : Int) (K : V → Mem → Prop) : cbody Try.prog (T52 f52 C0) (fun _ => none) 1000 (fnOf Try.prog 53) [(.I .i64 sz), (.I .i64 al)] [] K =
    F53 f52 sz al (K (.tup [(.I .i64 (0 : Int)), (.I .i64 (1 : Int))]) []) (K (.tup [(.I .i64 (0 : Int)), (.I .i64 (11 : Int))]) []) (K (.tup [(.I .i64 sz), (.I .i64 (0 : Int))]) []) (fun (u0 : Int) => K (.tup [(.I .i64 u0), (.I .i64 (0 : Int))]) []) := by kernel_rfl
def G53 : Y53 := F53 G52
def VT53 (f : Y53) (F : Prop) (args : List V) (m : Mem) (K : V → Mem → Prop) : Prop :=
  (seeCons args F fun a1 q2 => (seeI .i64 a1 F fun sz => (seeCons q2 F fun a3 q4 => (seeI .i64 a3 F fun al => (seeNil q4 F (seeNil m F (f sz al (K (.tup [(.I .i64 (0 : Int)), (.I .i64 (1 : Int))]) []) (K (.tup [(.I .i64 (0 : Int)), (.I .i64 (11 : Int))]) []) (K (.tup [(.I .i64 sz), (.I .i64 (0 : Int))]) []) (fun (u0 : Int) => K (.tup [(.I .i64 u0), (.I .i64 (0 : Int))]) []))))))))
def T53 (f : Y53) (C : CC) : CC := fun g args m K =>
  match Nat.beq g 53 with
  | true => VT53 f (C g args m K) args m K
  | false => C g args m K
set_option maxRecDepth 100000 in
theorem T53_ok {C : CC} (hC : CallsOk Try.prog C) : CallsOk Try.prog (T53 G53 C) := by
  intro g args m K E w cargs hS ha h
  unfold T53 at h
  split at h
  · rename_i hg
    obtain rfl := Nat.eq_of_beq_eq_true hg
    unfold VT53 at h
    replace h := seeCons_use h
    rcases h with h | ⟨a1, q2, rfl, h⟩
    · exact hC _ _ _ _ _ _ _ hS ha h
    replace h := seeI_use h
    rcases h with h | ⟨sz, rfl, h⟩
    · exact hC _ _ _ _ _ _ _ hS ha h
    replace h := seeCons_use h
    rcases h with h | ⟨a3, q4, rfl, h⟩
    · exact hC _ _ _ _ _ _ _ hS ha h
    replace h := seeI_use h
    rcases h with h | ⟨al, rfl, h⟩
    · exact hC _ _ _ _ _ _ _ hS ha h
    replace h := seeNil_use h
    rcases h with h | ⟨rfl, h⟩
    · exact hC _ _ _ _ _ _ _ hS ha h
    replace h := seeNil_use h
    rcases h with h | ⟨rfl, h⟩
    · exact hC _ _ _ _ _ _ _ hS ha h
    exact cbody_use named (T52_ok C0_ok) at53 (l := 0) rfl (LoopsOk.none _ _) (F53_ok G52 sz al K) hS ha h
  · exact hC _ _ _ _ _ _ _ hS ha h
theorem at21 : Try.prog.funcs[21]? = some (fnOf Try.prog 21) := by kernel_rfl
abbrev Y21 : Type := Nat → Int → Int → List Int → (Prop) → (List Int → Prop) → (List Int → Prop) → (Int → List Int → Prop) → Prop
set_option maxHeartbeats 4000000 in
set_option maxRecDepth 100000 in
def F21 (f51 : Y51) (n : Nat) (sz : Int) (al : Int) (xs : List Int) (k1 : Prop) (k2 : List Int → Prop) (k3 : List Int → Prop) (k4 : Int → List Int → Prop) : Prop :=
  (bif (decide (al < (1 : Int))) then (k1) else (bif (decide (al > (4096 : Int))) then (k1) else (bif ((ibits .and .i64 al (IntKind.wrap .i64 (al - (1 : Int)))) != (0 : Int)) then (k1) else (bif (decide (sz < ((n : Nat) : Int))) then (k1) else (bif (decide (sz > (1048576 : Int))) then (k1) else (f51 sz al ((bif ((decide ((n * (1 : Nat)) ≤ (140737488355328 : Nat))) && (decide (n ≤ (140737488355328 : Nat)))) then (bif ((decide ((0 : Int) ≤ (IntKind.wrap .i64 ((IntKind.wrap .i64 ((0 : Int) - ((n : Nat) : Int))) + (8 : Int))))) && ((decide (((Int.toNat (IntKind.wrap .i64 ((IntKind.wrap .i64 ((0 : Int) - ((n : Nat) : Int))) + (8 : Int)))) * (1 : Nat)) ≤ (140737488355328 : Nat))) && ((decide (((((List.length (List.take n xs)) - (0 : Nat)) + (Int.toNat (IntKind.wrap .i64 ((IntKind.wrap .i64 ((0 : Int) - ((n : Nat) : Int))) + (8 : Int))))) * (1 : Nat)) ≤ (140737488355328 : Nat))) && (decide ((((List.length (List.take n xs)) - (0 : Nat)) + (Int.toNat (IntKind.wrap .i64 ((IntKind.wrap .i64 ((0 : Int) - ((n : Nat) : Int))) + (8 : Int))))) ≤ (140737488355328 : Nat)))))) then (k2 ((List.take n xs) ++ (List.replicate (Int.toNat (IntKind.wrap .i64 ((IntKind.wrap .i64 ((0 : Int) - ((n : Nat) : Int))) + (8 : Int)))) (0 : Int)))) else False) else False)) ((bif ((decide ((n * (1 : Nat)) ≤ (140737488355328 : Nat))) && (decide (n ≤ (140737488355328 : Nat)))) then (bif ((decide ((0 : Int) ≤ (IntKind.wrap .i64 ((IntKind.wrap .i64 ((0 : Int) - ((n : Nat) : Int))) + (8 : Int))))) && ((decide (((Int.toNat (IntKind.wrap .i64 ((IntKind.wrap .i64 ((0 : Int) - ((n : Nat) : Int))) + (8 : Int)))) * (1 : Nat)) ≤ (140737488355328 : Nat))) && ((decide (((((List.length (List.take n xs)) - (0 : Nat)) + (Int.toNat (IntKind.wrap .i64 ((IntKind.wrap .i64 ((0 : Int) - ((n : Nat) : Int))) + (8 : Int))))) * (1 : Nat)) ≤ (140737488355328 : Nat))) && (decide ((((List.length (List.take n xs)) - (0 : Nat)) + (Int.toNat (IntKind.wrap .i64 ((IntKind.wrap .i64 ((0 : Int) - ((n : Nat) : Int))) + (8 : Int))))) ≤ (140737488355328 : Nat)))))) then (k2 ((List.take n xs) ++ (List.replicate (Int.toNat (IntKind.wrap .i64 ((IntKind.wrap .i64 ((0 : Int) - ((n : Nat) : Int))) + (8 : Int)))) (0 : Int)))) else False) else False)) ((bif ((decide ((n * (1 : Nat)) ≤ (140737488355328 : Nat))) && (decide (n ≤ (140737488355328 : Nat)))) then (bif ((decide ((0 : Int) ≤ (IntKind.wrap .i64 ((IntKind.wrap .i64 (sz - ((n : Nat) : Int))) + (8 : Int))))) && ((decide (((Int.toNat (IntKind.wrap .i64 ((IntKind.wrap .i64 (sz - ((n : Nat) : Int))) + (8 : Int)))) * (1 : Nat)) ≤ (140737488355328 : Nat))) && ((decide (((((List.length (List.take n xs)) - (0 : Nat)) + (Int.toNat (IntKind.wrap .i64 ((IntKind.wrap .i64 (sz - ((n : Nat) : Int))) + (8 : Int))))) * (1 : Nat)) ≤ (140737488355328 : Nat))) && (decide ((((List.length (List.take n xs)) - (0 : Nat)) + (Int.toNat (IntKind.wrap .i64 ((IntKind.wrap .i64 (sz - ((n : Nat) : Int))) + (8 : Int))))) ≤ (140737488355328 : Nat)))))) then (k3 ((List.take n xs) ++ (List.replicate (Int.toNat (IntKind.wrap .i64 ((IntKind.wrap .i64 (sz - ((n : Nat) : Int))) + (8 : Int)))) (0 : Int)))) else False) else False)) (fun (n1 : Int) => (bif ((decide ((n * (1 : Nat)) ≤ (140737488355328 : Nat))) && (decide (n ≤ (140737488355328 : Nat)))) then (bif ((decide ((0 : Int) ≤ (IntKind.wrap .i64 ((IntKind.wrap .i64 (n1 - ((n : Nat) : Int))) + (8 : Int))))) && ((decide (((Int.toNat (IntKind.wrap .i64 ((IntKind.wrap .i64 (n1 - ((n : Nat) : Int))) + (8 : Int)))) * (1 : Nat)) ≤ (140737488355328 : Nat))) && ((decide (((((List.length (List.take n xs)) - (0 : Nat)) + (Int.toNat (IntKind.wrap .i64 ((IntKind.wrap .i64 (n1 - ((n : Nat) : Int))) + (8 : Int))))) * (1 : Nat)) ≤ (140737488355328 : Nat))) && (decide ((((List.length (List.take n xs)) - (0 : Nat)) + (Int.toNat (IntKind.wrap .i64 ((IntKind.wrap .i64 (n1 - ((n : Nat) : Int))) + (8 : Int))))) ≤ (140737488355328 : Nat)))))) then (k4 n1 ((List.take n xs) ++ (List.replicate (Int.toNat (IntKind.wrap .i64 ((IntKind.wrap .i64 (n1 - ((n : Nat) : Int))) + (8 : Int)))) (0 : Int)))) else False) else False))))))))
theorem F21_ok (f51 : Y51) (n : Nat) (sz : Int) (al : Int) (xs : List Int) (K : V → Mem → Prop) : cbody Try.prog (T51 f51 C0) (fun _ => none) 1000 (fnOf Try.prog 21) [(.sl 0 (0 : Nat) (some n) (none : Option Nat)), (.I .i64 sz), (.I .i64 al)] [⟨[.ints .u8 xs], 5, false, false⟩] K =
    F21 f51 n sz al xs (K (.tup [.nils, (.I .i64 (0 : Int)), (.I .i64 (1 : Int))]) [⟨[.ints .u8 xs], 5, false, false⟩]) (fun (u0 : List Int) => K (.tup [(.sl 1 (0 : Nat) (none : Option Nat) (none : Option Nat)), (.I .i64 (0 : Int)), (.I .i64 (0 : Int))]) [⟨[.ints .u8 xs], 5, false, false⟩, ⟨[.ints .u8 u0], 5, false, true⟩]) (fun (u0 : List Int) => K (.tup [(.sl 1 (0 : Nat) (none : Option Nat) (none : Option Nat)), (.I .i64 sz), (.I .i64 (0 : Int))]) [⟨[.ints .u8 xs], 5, false, false⟩, ⟨[.ints .u8 u0], 5, false, true⟩]) (fun (u0 : Int) (u1 : List Int) => K (.tup [(.sl 1 (0 : Nat) (none : Option Nat) (none : Option Nat)), (.I .i64 u0), (.I .i64 (0 : Int))]) [⟨[.ints .u8 xs], 5, false, false⟩, ⟨[.ints .u8 u1], 5, false, true⟩]) := by kernel_rfl
def G21 : Y21 := F21 G51
def VT21 (f : Y21) (F : Prop) (args : List V) (m : Mem) (K : V → Mem → Prop) : Prop :=
  (seeCons args F fun a1 q2 => (seeSl 0 a1 F fun r3 l4 c5 => (seeN 0 r3 F (seeO l4 F fun n => (seeNo c5 F (seeCons q2 F fun a6 q7 => (seeI .i64 a6 F fun sz => (seeCons q7 F fun a8 q9 => (seeI .i64 a8 F fun al => (seeNil q9 F (seeCons m F fun a10 q11 => (seeBlk 5 false false a10 F fun cs12 => (seeCons cs12 F fun a13 q14 => (seeInts .u8 a13 F fun xs => (seeNil q14 F (seeNil q11 F (f n sz al xs (K (.tup [.nils, (.I .i64 (0 : Int)), (.I .i64 (1 : Int))]) [⟨[.ints .u8 xs], 5, false, false⟩]) (fun (u0 : List Int) => K (.tup [(.sl 1 (0 : Nat) (none : Option Nat) (none : Option Nat)), (.I .i64 (0 : Int)), (.I .i64 (0 : Int))]) [⟨[.ints .u8 xs], 5, false, false⟩, ⟨[.ints .u8 u0], 5, false, true⟩]) (fun (u0 : List Int) => K (.tup [(.sl 1 (0 : Nat) (none : Option Nat) (none : Option Nat)), (.I .i64 sz), (.I .i64 (0 : Int))]) [⟨[.ints .u8 xs], 5, false, false⟩, ⟨[.ints .u8 u0], 5, false, true⟩]) (fun (u0 : Int) (u1 : List Int) => K (.tup [(.sl 1 (0 : Nat) (none : Option Nat) (none : Option Nat)), (.I .i64 u0), (.I .i64 (0 : Int))]) [⟨[.ints .u8 xs], 5, false, false⟩, ⟨[.ints .u8 u1], 5, false, true⟩]))))))))))))))))))
def T21 (f : Y21) (C : CC) : CC := fun g args m K =>
  match Nat.beq g 21 with
  | true => VT21 f (C g args m K) args m K
  | false => C g args m K
set_option maxRecDepth 100000 in
theorem T21_ok {C : CC} (hC : CallsOk Try.prog C) : CallsOk Try.prog (T21 G21 C) := by
  intro g args m K E w cargs hS ha h
  unfold T21 at h
  split at h
  · rename_i hg
    obtain rfl := Nat.eq_of_beq_eq_true hg
    unfold VT21 at h
    replace h := seeCons_use h
    rcases h with h | ⟨a1, q2, rfl, h⟩
    · exact hC _ _ _ _ _ _ _ hS ha h
    replace h := seeSl_use h
    rcases h with h | ⟨r3, l4, c5, rfl, h⟩
    · exact hC _ _ _ _ _ _ _ hS ha h
    replace h := seeN_use h
    rcases h with h | ⟨rfl, h⟩
    · exact hC _ _ _ _ _ _ _ hS ha h
    replace h := seeO_use h
    rcases h with h | ⟨n, rfl, h⟩
    · exact hC _ _ _ _ _ _ _ hS ha h
    replace h := seeNo_use h
    rcases h with h | ⟨rfl, h⟩
    · exact hC _ _ _ _ _ _ _ hS ha h
    replace h := seeCons_use h
    rcases h with h | ⟨a6, q7, rfl, h⟩
    · exact hC _ _ _ _ _ _ _ hS ha h
    replace h := seeI_use h
    rcases h with h | ⟨sz, rfl, h⟩
    · exact hC _ _ _ _ _ _ _ hS ha h
    replace h := seeCons_use h
    rcases h with h | ⟨a8, q9, rfl, h⟩
    · exact hC _ _ _ _ _ _ _ hS ha h
    replace h := seeI_use h
    rcases h with h | ⟨al, rfl, h⟩
    · exact hC _ _ _ _ _ _ _ hS ha h
    replace h := seeNil_use h
    rcases h with h | ⟨rfl, h⟩
    · exact hC _ _ _ _ _ _ _ hS ha h
    replace h := seeCons_use h
    rcases h with h | ⟨a10, q11, rfl, h⟩
    · exact hC _ _ _ _ _ _ _ hS ha h
    replace h := seeBlk_use h
    rcases h with h | ⟨cs12, rfl, h⟩
    · exact hC _ _ _ _ _ _ _ hS ha h
    replace h := seeCons_use h
    rcases h with h | ⟨a13, q14, rfl, h⟩
    · exact hC _ _ _ _ _ _ _ hS ha h
    replace h := seeInts_use h
    rcases h with h | ⟨xs, rfl, h⟩
    · exact hC _ _ _ _ _ _ _ hS ha h
    replace h := seeNil_use h
    rcases h with h | ⟨rfl, h⟩
    · exact hC _ _ _ _ _ _ _ hS ha h
    replace h := seeNil_use h
    rcases h with h | ⟨rfl, h⟩
    · exact hC _ _ _ _ _ _ _ hS ha h
    exact cbody_use named (T51_ok C0_ok) at21 (l := 1) rfl (LoopsOk.none _ _) (F21_ok G51 n sz al xs K) hS ha h
  · exact hC _ _ _ _ _ _ _ hS ha h
abbrev YL22_6 : Type := Code → Int → Int → List Int → List Int → (List Int → Prop) → Prop
set_option maxHeartbeats 4000000 in
set_option maxRecDepth 100000 in
def HL22_6  (rec : Int → List Int → Prop) (i_9 : Int) (i_12 : Int) (xs_m_0_0 : List Int) (xs_m_1_0 : List Int) (k1 : List Int → Prop) : Prop :=
  (bif (decide (i_12 < ((((List.length xs_m_0_0) - (0 : Nat)) : Nat) : Int))) then (bif ((decide ((0 : Int) ≤ i_12)) && (decide (i_12 < ((((List.length xs_m_0_0) - (0 : Nat)) : Nat) : Int)))) then (bif ((decide ((0 : Int) ≤ i_12)) && (decide (i_12 < ((((List.length xs_m_1_0) - (0 : Nat)) : Nat) : Int)))) then (rec (IntKind.wrap .i64 (i_12 + (1 : Int))) (List.set xs_m_1_0 (Int.toNat i_12) (List.getD xs_m_0_0 (Int.toNat i_12) (0 : Int)))) else False) else False) else (k1 xs_m_1_0))
def RL22_6  : Nat → Int → Int → List Int → List Int → (List Int → Prop) → Prop
  | 0, _, _, _, _, _ => False
  | n + 1, i_9, i_12, xs_m_0_0, xs_m_1_0, k1 => HL22_6  (fun (i_12 : Int) (xs_m_1_0 : List Int) => RL22_6  n i_9 i_12 xs_m_0_0 xs_m_1_0 k1) i_9 i_12 xs_m_0_0 xs_m_1_0 k1
noncomputable def XL22_6 : Code := sub [true, true, true, true, false, true, false, false] (bodyOf Try.prog 22)
theorem HL22_6_ok  (n : Nat) (i_9 : Int) (i_12 : Int) (xs_m_0_0 : List Int) (xs_m_1_0 : List Int) (K : Ex → Env → Mem → Prop) : cround 1 [0, 9, 11, 12] [9, 11] (fun ρ m K => cexec Try.prog C0 (fun _ => none) 1 1000 XL22_6 ρ m K) (n + 1) (selE 54 [(0, (.sl 0 (0 : Nat) (none : Option Nat) (none : Option Nat))), (9, (.I .i64 i_9)), (11, (.sl 1 (0 : Nat) (none : Option Nat) (none : Option Nat))), (12, (.I .i64 i_12))]) [⟨[.ints .u8 xs_m_0_0], 5, true, false⟩, ⟨[.ints .u8 xs_m_1_0], 5, false, true⟩] K =
    HL22_6  (fun (i_12 : Int) (xs_m_1_0 : List Int) => cround 1 [0, 9, 11, 12] [9, 11] (fun ρ m K => cexec Try.prog C0 (fun _ => none) 1 1000 XL22_6 ρ m K) n (selE 54 [(0, (.sl 0 (0 : Nat) (none : Option Nat) (none : Option Nat))), (9, (.I .i64 i_9)), (11, (.sl 1 (0 : Nat) (none : Option Nat) (none : Option Nat))), (12, (.I .i64 i_12))]) [⟨[.ints .u8 xs_m_0_0], 5, true, false⟩, ⟨[.ints .u8 xs_m_1_0], 5, false, true⟩] K) i_9 i_12 xs_m_0_0 xs_m_1_0 (fun (u0 : List Int) => K (.exit 0) (selE 54 [(9, (.I .i64 i_9)), (11, (.sl 1 (0 : Nat) (none : Option Nat) (none : Option Nat)))]) [⟨[.ints .u8 xs_m_0_0], 5, true, false⟩, ⟨[.ints .u8 u0], 5, false, true⟩]) := by kernel_rfl
theorem RL22_6_ok  (K : Ex → Env → Mem → Prop) : ∀ (n : Nat) (i_9 : Int) (i_12 : Int) (xs_m_0_0 : List Int) (xs_m_1_0 : List Int), cround 1 [0, 9, 11, 12] [9, 11] (fun ρ m K => cexec Try.prog C0 (fun _ => none) 1 1000 XL22_6 ρ m K) n (selE 54 [(0, (.sl 0 (0 : Nat) (none : Option Nat) (none : Option Nat))), (9, (.I .i64 i_9)), (11, (.sl 1 (0 : Nat) (none : Option Nat) (none : Option Nat))), (12, (.I .i64 i_12))]) [⟨[.ints .u8 xs_m_0_0], 5, true, false⟩, ⟨[.ints .u8 xs_m_1_0], 5, false, true⟩] K = RL22_6  n i_9 i_12 xs_m_0_0 xs_m_1_0 (fun (u0 : List Int) => K (.exit 0) (selE 54 [(9, (.I .i64 i_9)), (11, (.sl 1 (0 : Nat) (none : Option Nat) (none : Option Nat)))]) [⟨[.ints .u8 xs_m_0_0], 5, true, false⟩, ⟨[.ints .u8 u0], 5, false, true⟩])
  | 0, i_9, i_12, xs_m_0_0, xs_m_1_0 => rfl
  | n + 1, i_9, i_12, xs_m_0_0, xs_m_1_0 => by
    have ih := RL22_6_ok  K n
    rw [HL22_6_ok  n i_9 i_12 xs_m_0_0 xs_m_1_0 K]
    show HL22_6  _ i_9 i_12 xs_m_0_0 xs_m_1_0 (fun (u0 : List Int) => K (.exit 0) (selE 54 [(9, (.I .i64 i_9)), (11, (.sl 1 (0 : Nat) (none : Option Nat) (none : Option Nat)))]) [⟨[.ints .u8 xs_m_0_0], 5, true, false⟩, ⟨[.ints .u8 u0], 5, false, true⟩]) = HL22_6  _ i_9 i_12 xs_m_0_0 xs_m_1_0 (fun (u0 : List Int) => K (.exit 0) (selE 54 [(9, (.I .i64 i_9)), (11, (.sl 1 (0 : Nat) (none : Option Nat) (none : Option Nat)))]) [⟨[.ints .u8 xs_m_0_0], 5, true, false⟩, ⟨[.ints .u8 u0], 5, false, true⟩])
    refine congrArg (fun r => HL22_6  r i_9 i_12 xs_m_0_0 xs_m_1_0 (fun (u0 : List Int) => K (.exit 0) (selE 54 [(9, (.I .i64 i_9)), (11, (.sl 1 (0 : Nat) (none : Option Nat) (none : Option Nat)))]) [⟨[.ints .u8 xs_m_0_0], 5, true, false⟩, ⟨[.ints .u8 u0], 5, false, true⟩])) ?_
    funext i_12 xs_m_1_0
    exact ih i_9 i_12 xs_m_0_0 xs_m_1_0
def GL22_6 : YL22_6 := fun x i_9 i_12 xs_m_0_0 xs_m_1_0 k1 => x = XL22_6 ∧ ∃ n, RL22_6  n i_9 i_12 xs_m_0_0 xs_m_1_0 k1
def VL22_6 (l : YL22_6) (F : Prop) (x : Code) (ρ : Env) (m : Mem) (K : Ex → Env → Mem → Prop) : Prop :=
  match ρ.has (54 - 1) with
  | true => (seeV (.sl 0 (0 : Nat) (none : Option Nat) (none : Option Nat)) (ρ.get 0) F (seeI .i64 (ρ.get 9) F fun i_9 => (seeV (.sl 1 (0 : Nat) (none : Option Nat) (none : Option Nat)) (ρ.get 11) F (seeI .i64 (ρ.get 12) F fun i_12 => (seeCons m F fun a5 q6 => (seeBlk 5 true false a5 F fun cs7 => (seeCons cs7 F fun a8 q9 => (seeInts .u8 a8 F fun xs_m_0_0 => (seeNil q9 F (seeCons q6 F fun a10 q11 => (seeBlk 5 false true a10 F fun cs12 => (seeCons cs12 F fun a13 q14 => (seeInts .u8 a13 F fun xs_m_1_0 => (seeNil q14 F (seeNil q11 F (l x i_9 i_12 xs_m_0_0 xs_m_1_0 (fun (u0 : List Int) => K (.exit 0) (selE 54 [(9, (.I .i64 i_9)), (11, (.sl 1 (0 : Nat) (none : Option Nat) (none : Option Nat)))]) [⟨[.ints .u8 xs_m_0_0], 5, true, false⟩, ⟨[.ints .u8 u0], 5, false, true⟩])))))))))))))))))
  | false => False
def WL22_6 (l : YL22_6) (W : Masks) : Masks := fun r =>
  match Nat.beq r 6 with
  | true => some fun x ρ m K => VL22_6 l (match W r with | some lf => lf x ρ m K | none => False) x (tidyE 1 [0, 9, 11, 12] ρ m) (tidyM 1 [0, 9, 11, 12] ρ m) K
  | false => W r
set_option maxRecDepth 100000 in
theorem WL22_6_ok {W : Masks} (hW : LoopsOk Try.prog 1 W) : LoopsOk Try.prog 1 (WL22_6 GL22_6 W) := by
  intro r lf h
  unfold WL22_6 at h
  split at h
  · cases h
    intro x E0 m0 w0 ds hS0 ha ρ m K E a w Q hS hρ hd h hQ
    have fb : (match W r with | some lf => lf x ρ m K | none => False) → (Code.loop x).wp Try.prog Q a w := fun h => by
      split at h
      · rename_i lf hlf
        exact hW r lf hlf x hS0 ha ρ m K E a w Q hS hρ hd h hQ
      · cases h
    obtain ⟨E2, hS2, hρ2⟩ := tidy_rel hS0 hS hρ [0, 9, 11, 12]
    rw [ha] at hS2 hρ2
    unfold VL22_6 at h
    split at h
    · rename_i hlen
      replace h := seeV_use h
      rcases h with h | ⟨e1, h⟩
      · exact fb h
      replace h := seeI_use h
      rcases h with h | ⟨i_9, e2, h⟩
      · exact fb h
      replace h := seeV_use h
      rcases h with h | ⟨e3, h⟩
      · exact fb h
      replace h := seeI_use h
      rcases h with h | ⟨i_12, e4, h⟩
      · exact fb h
      replace h := seeCons_use h
      rcases h with h | ⟨a5, q6, eqm, h⟩
      · exact fb h
      replace h := seeBlk_use h
      rcases h with h | ⟨cs7, rfl, h⟩
      · exact fb h
      replace h := seeCons_use h
      rcases h with h | ⟨a8, q9, rfl, h⟩
      · exact fb h
      replace h := seeInts_use h
      rcases h with h | ⟨xs_m_0_0, rfl, h⟩
      · exact fb h
      replace h := seeNil_use h
      rcases h with h | ⟨rfl, h⟩
      · exact fb h
      replace h := seeCons_use h
      rcases h with h | ⟨a10, q11, rfl, h⟩
      · exact fb h
      replace h := seeBlk_use h
      rcases h with h | ⟨cs12, rfl, h⟩
      · exact fb h
      replace h := seeCons_use h
      rcases h with h | ⟨a13, q14, rfl, h⟩
      · exact fb h
      replace h := seeInts_use h
      rcases h with h | ⟨xs_m_1_0, rfl, h⟩
      · exact fb h
      replace h := seeNil_use h
      rcases h with h | ⟨rfl, h⟩
      · exact fb h
      replace h := seeNil_use h
      rcases h with h | ⟨rfl, h⟩
      · exact fb h
      obtain ⟨rfl, n, h⟩ := h
      exact loop_use named C0_ok (LoopsOk.none _ _) (RL22_6_ok  K n _ _ _ _) h hS0 ha hlen ⟨e1, e2, e3, e4, trivial⟩ (eqm ▸ hS2) hρ2 hd hQ
    · cases h
  · exact hW r lf h
theorem at22 : Try.prog.funcs[22]? = some (fnOf Try.prog 22) := by kernel_rfl
abbrev Y22 : Type := Int → Int → List Int → (Prop) → (List Int → Prop) → (List Int → Prop) → (Int → List Int → Prop) → Prop
set_option maxHeartbeats 4000000 in
set_option maxRecDepth 100000 in
def F22 (f52 : Y52) (f53 : Y53) (l22_6 : YL22_6) (sz : Int) (al : Int) (xs : List Int) (k1 : Prop) (k2 : List Int → Prop) (k3 : List Int → Prop) (k4 : Int → List Int → Prop) : Prop :=
  (f52 al (fun (b1 : Bool) => (bif (!b1) then (k1) else (bif (decide (al > (4096 : Int))) then (k1) else (bif (decide (sz < ((((List.length xs) - (0 : Nat)) : Nat) : Int))) then (k1) else (bif (decide (sz > (1048576 : Int))) then (k1) else (f53 sz al ((l22_6 XL22_6 (0 : Int) (0 : Int) xs ([(0 : Int), (0 : Int), (0 : Int), (0 : Int), (0 : Int), (0 : Int), (0 : Int), (0 : Int)] : List Int) (fun (xs2 : List Int) => (k2 xs2)))) ((l22_6 XL22_6 (0 : Int) (0 : Int) xs ([(0 : Int), (0 : Int), (0 : Int), (0 : Int), (0 : Int), (0 : Int), (0 : Int), (0 : Int)] : List Int) (fun (xs3 : List Int) => (k2 xs3)))) ((bif ((decide ((0 : Int) ≤ (IntKind.wrap .i64 (sz + (8 : Int))))) && ((decide ((IntKind.wrap .i64 (sz + (8 : Int))) ≤ (IntKind.wrap .i64 (sz + (8 : Int))))) && ((decide ((IntKind.wrap .i64 (sz + (8 : Int))) ≤ (140737488355328 : Int))) && (decide (((1 : Nat) * (IntKind.wrap .i64 (sz + (8 : Int)))) ≤ (140737488355328 : Int)))))) then (l22_6 XL22_6 sz (0 : Int) xs (List.replicate (Int.toNat (IntKind.wrap .i64 (sz + (8 : Int)))) (0 : Int)) (fun (xs4 : List Int) => (k3 xs4))) else False)) (fun (n5 : Int) => (bif ((decide ((0 : Int) ≤ (IntKind.wrap .i64 (n5 + (8 : Int))))) && ((decide ((IntKind.wrap .i64 (n5 + (8 : Int))) ≤ (IntKind.wrap .i64 (n5 + (8 : Int))))) && ((decide ((IntKind.wrap .i64 (n5 + (8 : Int))) ≤ (140737488355328 : Int))) && (decide (((1 : Nat) * (IntKind.wrap .i64 (n5 + (8 : Int)))) ≤ (140737488355328 : Int)))))) then (l22_6 XL22_6 n5 (0 : Int) xs (List.replicate (Int.toNat (IntKind.wrap .i64 (n5 + (8 : Int)))) (0 : Int)) (fun (xs6 : List Int) => (k4 n5 xs6))) else False)))))))) ((k1)))
theorem F22_ok (f52 : Y52) (f53 : Y53) (l22_6 : YL22_6) (sz : Int) (al : Int) (xs : List Int) (K : V → Mem → Prop) : cbody Try.prog (T52 f52 (T53 f53 C0)) (WL22_6 l22_6 (fun _ => none)) 1000 (fnOf Try.prog 22) [(.sl 0 (0 : Nat) (none : Option Nat) (none : Option Nat)), (.I .i64 sz), (.I .i64 al)] [⟨[.ints .u8 xs], 5, true, false⟩] K =
    F22 f52 f53 l22_6 sz al xs (K (.tup [.nils, (.I .i64 (0 : Int)), (.I .i64 (1 : Int))]) [⟨[.ints .u8 xs], 5, true, false⟩]) (fun (u0 : List Int) => K (.tup [(.sl 1 (0 : Nat) (none : Option Nat) (none : Option Nat)), (.I .i64 (0 : Int)), (.I .i64 (0 : Int))]) [⟨[.ints .u8 xs], 5, true, false⟩, ⟨[.ints .u8 u0], 5, false, true⟩]) (fun (u0 : List Int) => K (.tup [(.sl 1 (0 : Nat) (none : Option Nat) (none : Option Nat)), (.I .i64 sz), (.I .i64 (0 : Int))]) [⟨[.ints .u8 xs], 5, true, false⟩, ⟨[.ints .u8 u0], 5, false, true⟩]) (fun (u0 : Int) (u1 : List Int) => K (.tup [(.sl 1 (0 : Nat) (none : Option Nat) (none : Option Nat)), (.I .i64 u0), (.I .i64 (0 : Int))]) [⟨[.ints .u8 xs], 5, true, false⟩, ⟨[.ints .u8 u1], 5, false, true⟩]) := by kernel_rfl
def G22 : Y22 := F22 G52 G53 GL22_6
def VT22 (f : Y22) (F : Prop) (args : List V) (m : Mem) (K : V → Mem → Prop) : Prop :=
  (seeCons args F fun a1 q2 => (seeV (.sl 0 (0 : Nat) (none : Option Nat) (none : Option Nat)) a1 F (seeCons q2 F fun a3 q4 => (seeI .i64 a3 F fun sz => (seeCons q4 F fun a5 q6 => (seeI .i64 a5 F fun al => (seeNil q6 F (seeCons m F fun a7 q8 => (seeBlk 5 true false a7 F fun cs9 => (seeCons cs9 F fun a10 q11 => (seeInts .u8 a10 F fun xs => (seeNil q11 F (seeNil q8 F (f sz al xs (K (.tup [.nils, (.I .i64 (0 : Int)), (.I .i64 (1 : Int))]) [⟨[.ints .u8 xs], 5, true, false⟩]) (fun (u0 : List Int) => K (.tup [(.sl 1 (0 : Nat) (none : Option Nat) (none : Option Nat)), (.I .i64 (0 : Int)), (.I .i64 (0 : Int))]) [⟨[.ints .u8 xs], 5, true, false⟩, ⟨[.ints .u8 u0], 5, false, true⟩]) (fun (u0 : List Int) => K (.tup [(.sl 1 (0 : Nat) (none : Option Nat) (none : Option Nat)), (.I .i64 sz), (.I .i64 (0 : Int))]) [⟨[.ints .u8 xs], 5, true, false⟩, ⟨[.ints .u8 u0], 5, false, true⟩]) (fun (u0 : Int) (u1 : List Int) => K (.tup [(.sl 1 (0 : Nat) (none : Option Nat) (none : Option Nat)), (.I .i64 u0), (.I .i64 (0 : Int))]) [⟨[.ints .u8 xs], 5, true, false⟩, ⟨[.ints .u8 u1], 5, false, true⟩])))))))))))))))
def T22 (f : Y22) (C : CC) : CC := fun g args m K =>
  match Nat.beq g 22 with
  | true => VT22 f (C g args m K) args m K
  | false => C g args m K
set_option maxRecDepth 100000 in
theorem T22_ok {C : CC} (hC : CallsOk Try.prog C) : CallsOk Try.prog (T22 G22 C) := by
  intro g args m K E w cargs hS ha h
  unfold T22 at h
  split at h
  · rename_i hg
    obtain rfl := Nat.eq_of_beq_eq_true hg
    unfold VT22 at h
    replace h := seeCons_use h
    rcases h with h | ⟨a1, q2, rfl, h⟩
    · exact hC _ _ _ _ _ _ _ hS ha h
    replace h := seeV_use h
    rcases h with h | ⟨rfl, h⟩
    · exact hC _ _ _ _ _ _ _ hS ha h
    replace h := seeCons_use h
    rcases h with h | ⟨a3, q4, rfl, h⟩
    · exact hC _ _ _ _ _ _ _ hS ha h
    replace h := seeI_use h
    rcases h with h | ⟨sz, rfl, h⟩
    · exact hC _ _ _ _ _ _ _ hS ha h
    replace h := seeCons_use h
    rcases h with h | ⟨a5, q6, rfl, h⟩
    · exact hC _ _ _ _ _ _ _ hS ha h
    replace h := seeI_use h
    rcases h with h | ⟨al, rfl, h⟩
    · exact hC _ _ _ _ _ _ _ hS ha h
    replace h := seeNil_use h
    rcases h with h | ⟨rfl, h⟩
    · exact hC _ _ _ _ _ _ _ hS ha h
    replace h := seeCons_use h
    rcases h with h | ⟨a7, q8, rfl, h⟩
    · exact hC _ _ _ _ _ _ _ hS ha h
    replace h := seeBlk_use h
    rcases h with h | ⟨cs9, rfl, h⟩
    · exact hC _ _ _ _ _ _ _ hS ha h
    replace h := seeCons_use h
    rcases h with h | ⟨a10, q11, rfl, h⟩
    · exact hC _ _ _ _ _ _ _ hS ha h
    replace h := seeInts_use h
    rcases h with h | ⟨xs, rfl, h⟩
    · exact hC _ _ _ _ _ _ _ hS ha h
    replace h := seeNil_use h
    rcases h with h | ⟨rfl, h⟩
    · exact hC _ _ _ _ _ _ _ hS ha h
    replace h := seeNil_use h
    rcases h with h | ⟨rfl, h⟩
    · exact hC _ _ _ _ _ _ _ hS ha h
    exact cbody_use named (T52_ok (T53_ok C0_ok)) at22 (l := 1) rfl (WL22_6_ok (LoopsOk.none _ _)) (F22_ok G52 G53 GL22_6 sz al xs K) hS ha h
  · exact hC _ _ _ _ _ _ _ hS ha h
theorem at6 : Try.prog.funcs[6]? = some (fnOf Try.prog 6) := by kernel_rfl
abbrev Y6 : Type := Int → Int → List Int → (Prop) → (Prop) → Prop
set_option maxHeartbeats 4000000 in
set_option maxRecDepth 100000 in
def F6 (f14 : Y14) (f13 : Y13) (f16 : Y16) (f20 : Y20) (f21 : Y21) (f22 : Y22) (sz : Int) (al : Int) (xs : List Int) (k1 : Prop) (k2 : Prop) : Prop :=
  (f16 xs (fun (y1 : Nat) (xs2 : List Int) => (f21 y1 sz al xs2 ((f22 sz al xs ((f13 (1 : Int) ((f20 y1 xs2 xs (fun (b3 : Bool) => (bif b3 then (f14 ((k1))) else (k2))) ((k2)))))) (fun (xs4 : List Int) => (bif (([] : List Int) == xs4) then (f13 (1 : Int) ((k2))) else (k2))) (fun (xs5 : List Int) => (bif (([] : List Int) == xs5) then (bif ((0 : Int) == sz) then (f13 (1 : Int) ((k2))) else (k2)) else (k2))) (fun (n6 : Int) (xs7 : List Int) => (bif (([] : List Int) == xs7) then (bif ((0 : Int) == n6) then (f13 (1 : Int) ((k2))) else (k2)) else (k2))))) (fun (xs8 : List Int) => (f22 sz al xs ((bif (xs8 == ([] : List Int)) then (f13 (0 : Int) ((k2))) else (k2))) (fun (xs9 : List Int) => (bif (xs8 == xs9) then (f13 (0 : Int) ((f20 y1 xs2 xs (fun (b10 : Bool) => (bif b10 then (f14 ((k1))) else (k2))) ((k2))))) else (k2))) (fun (xs11 : List Int) => (bif (xs8 == xs11) then (bif ((0 : Int) == sz) then (f13 (0 : Int) ((f20 y1 xs2 xs (fun (b12 : Bool) => (bif b12 then (f14 ((k1))) else (k2))) ((k2))))) else (k2)) else (k2))) (fun (n13 : Int) (xs14 : List Int) => (bif (xs8 == xs14) then (bif ((0 : Int) == n13) then (f13 (0 : Int) ((f20 y1 xs2 xs (fun (b15 : Bool) => (bif b15 then (f14 ((k1))) else (k2))) ((k2))))) else (k2)) else (k2))))) (fun (xs16 : List Int) => (f22 sz al xs ((bif (xs16 == ([] : List Int)) then (bif (sz == (0 : Int)) then (f13 (0 : Int) ((k2))) else (k2)) else (k2))) (fun (xs17 : List Int) => (bif (xs16 == xs17) then (bif (sz == (0 : Int)) then (f13 (0 : Int) ((f20 y1 xs2 xs (fun (b18 : Bool) => (bif b18 then (f14 ((k1))) else (k2))) ((k2))))) else (k2)) else (k2))) (fun (xs19 : List Int) => (bif (xs16 == xs19) then (bif (sz == sz) then (f13 (0 : Int) ((f20 y1 xs2 xs (fun (b20 : Bool) => (bif b20 then (f14 ((k1))) else (k2))) ((k2))))) else (k2)) else (k2))) (fun (n21 : Int) (xs22 : List Int) => (bif (xs16 == xs22) then (bif (sz == n21) then (f13 (0 : Int) ((f20 y1 xs2 xs (fun (b23 : Bool) => (bif b23 then (f14 ((k1))) else (k2))) ((k2))))) else (k2)) else (k2))))) (fun (n24 : Int) (xs25 : List Int) => (f22 sz al xs ((bif (xs25 == ([] : List Int)) then (bif (n24 == (0 : Int)) then (f13 (0 : Int) ((k2))) else (k2)) else (k2))) (fun (xs26 : List Int) => (bif (xs25 == xs26) then (bif (n24 == (0 : Int)) then (f13 (0 : Int) ((f20 y1 xs2 xs (fun (b27 : Bool) => (bif b27 then (f14 ((k1))) else (k2))) ((k2))))) else (k2)) else (k2))) (fun (xs28 : List Int) => (bif (xs25 == xs28) then (bif (n24 == sz) then (f13 (0 : Int) ((f20 y1 xs2 xs (fun (b29 : Bool) => (bif b29 then (f14 ((k1))) else (k2))) ((k2))))) else (k2)) else (k2))) (fun (n30 : Int) (xs31 : List Int) => (bif (xs25 == xs31) then (bif (n24 == n30) then (f13 (0 : Int) ((f20 y1 xs2 xs (fun (b32 : Bool) => (bif b32 then (f14 ((k1))) else (k2))) ((k2))))) else (k2)) else (k2))))))))
theorem F6_ok (f14 : Y14) (f13 : Y13) (f16 : Y16) (f20 : Y20) (f21 : Y21) (f22 : Y22) (sz : Int) (al : Int) (xs : List Int) (K : V → Mem → Prop) : cbody Try.prog (T14 f14 (T13 f13 (T16 f16 (T20 f20 (T21 f21 (T22 f22 C0)))))) (fun _ => none) 1000 (fnOf Try.prog 6) [(.sl 0 (0 : Nat) (none : Option Nat) (none : Option Nat)), (.I .i64 sz), (.I .i64 al)] [⟨[.ints .u8 xs], 5, true, false⟩] K =
    F6 f14 f13 f16 f20 f21 f22 sz al xs (K (.B true) [⟨[.ints .u8 xs], 5, true, false⟩]) (K (.B false) [⟨[.ints .u8 xs], 5, true, false⟩]) := by kernel_rfl
def G6 : Y6 := F6 G14 G13 G16 G20 G21 G22
def VT6 (f : Y6) (F : Prop) (args : List V) (m : Mem) (K : V → Mem → Prop) : Prop :=
  (seeCons args F fun a1 q2 => (seeV (.sl 0 (0 : Nat) (none : Option Nat) (none : Option Nat)) a1 F (seeCons q2 F fun a3 q4 => (seeI .i64 a3 F fun sz => (seeCons q4 F fun a5 q6 => (seeI .i64 a5 F fun al => (seeNil q6 F (seeCons m F fun a7 q8 => (seeBlk 5 true false a7 F fun cs9 => (seeCons cs9 F fun a10 q11 => (seeInts .u8 a10 F fun xs => (seeNil q11 F (seeNil q8 F (f sz al xs (K (.B true) [⟨[.ints .u8 xs], 5, true, false⟩]) (K (.B false) [⟨[.ints .u8 xs], 5, true, false⟩])))))))))))))))
def T6 (f : Y6) (C : CC) : CC := fun g args m K =>
  match Nat.beq g 6 with
  | true => VT6 f (C g args m K) args m K
  | false => C g args m K
set_option maxRecDepth 100000 in
theorem T6_ok {C : CC} (hC : CallsOk Try.prog C) : CallsOk Try.prog (T6 G6 C) := by
  intro g args m K E w cargs hS ha h
  unfold T6 at h
  split at h
  · rename_i hg
    obtain rfl := Nat.eq_of_beq_eq_true hg
    unfold VT6 at h
    replace h := seeCons_use h
    rcases h with h | ⟨a1, q2, rfl, h⟩
    · exact hC _ _ _ _ _ _ _ hS ha h
    replace h := seeV_use h
    rcases h with h | ⟨rfl, h⟩
    · exact hC _ _ _ _ _ _ _ hS ha h
    replace h := seeCons_use h
    rcases h with h | ⟨a3, q4, rfl, h⟩
    · exact hC _ _ _ _ _ _ _ hS ha h
    replace h := seeI_use h
    rcases h with h | ⟨sz, rfl, h⟩
    · exact hC _ _ _ _ _ _ _ hS ha h
    replace h := seeCons_use h
    rcases h with h | ⟨a5, q6, rfl, h⟩
    · exact hC _ _ _ _ _ _ _ hS ha h
    replace h := seeI_use h
    rcases h with h | ⟨al, rfl, h⟩
    · exact hC _ _ _ _ _ _ _ hS ha h
    replace h := seeNil_use h
    rcases h with h | ⟨rfl, h⟩
    · exact hC _ _ _ _ _ _ _ hS ha h
    replace h := seeCons_use h
    rcases h with h | ⟨a7, q8, rfl, h⟩
    · exact hC _ _ _ _ _ _ _ hS ha h
    replace h := seeBlk_use h
    rcases h with h | ⟨cs9, rfl, h⟩
    · exact hC _ _ _ _ _ _ _ hS ha h
    replace h := seeCons_use h
    rcases h with h | ⟨a10, q11, rfl, h⟩
    · exact hC _ _ _ _ _ _ _ hS ha h
    replace h := seeInts_use h
    rcases h with h | ⟨xs, rfl, h⟩
    · exact hC _ _ _ _ _ _ _ hS ha h
    replace h := seeNil_use h
    rcases h with h | ⟨rfl, h⟩
    · exact hC _ _ _ _ _ _ _ hS ha h
    replace h := seeNil_use h
    rcases h with h | ⟨rfl, h⟩
    · exact hC _ _ _ _ _ _ _ hS ha h
    exact cbody_use named (T14_ok (T13_ok (T16_ok (T20_ok (T21_ok (T22_ok C0_ok)))))) at6 (l := 1) rfl (LoopsOk.none _ _) (F6_ok G14 G13 G16 G20 G21 G22 sz al xs K) hS ha h
  · exact hC _ _ _ _ _ _ _ hS ha h
end Go.Proofs.Ytnndiicpiolddaa.blk
