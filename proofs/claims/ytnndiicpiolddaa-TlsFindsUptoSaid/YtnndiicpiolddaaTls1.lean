import Derived.Test.YtnndiicpiolddaaProg
import Derived.Test.YtnndiicpiolddaaAbSee
set_option linter.unusedVariables false
namespace Go.Proofs.Ytnndiicpiolddaa.tls
open Go Go.Ab
def noPrims : Prims := fun _ => none
theorem named : Named Try.prog := by
  have h : Try.prog.funcs.toList.all (fun fn => !(fn.name == "runtime.NumGoroutine")) = true := by kernel_rfl
  intro g fn hf
  have := List.all_eq_true.1 h fn (by rw [Array.getElem?_eq_some_iff] at hf; obtain ⟨h1, rfl⟩ := hf; simp)
  simpa using this
def C0 : CC := call Try.prog noPrims 1000
theorem C0_ok : CallsOk Try.prog C0 := call_sound named (fun f g h => by cases h) 1000
theorem at82 : Try.prog.funcs[82]? = some (fnOf Try.prog 82) := by kernel_rfl
abbrev Y82 : Type := Int → Int → List Int → Int → List Int → (Prop) → (List Int → Prop) → Prop
def F82  (pa : Int) (t : Int) (nm : List Int) (ad : Int) (xs : List Int) (k1 : Prop) (k2 : List Int → Prop) : Prop :=
  (bif (decide (pa < (0 : Int))) then (k1) else (bif (decide (pa > ((((List.length xs) - (0 : Nat)) : Nat) : Int))) then (k1) else (bif (decide ((4 : Int) > (IntKind.wrap .i64 (((((List.length xs) - (0 : Nat)) : Nat) : Int) - pa)))) then (k1) else (bif ((decide ((((List.length xs) - (0 : Nat)) * (1 : Nat)) ≤ (140737488355328 : Nat))) && (decide (((List.length xs) - (0 : Nat)) ≤ (140737488355328 : Nat)))) then (bif ((decide ((0 : Int) ≤ pa)) && (decide ((Int.toNat pa) ≤ ((List.length xs) - (0 : Nat))))) then (bif ((((decide ((0 : Int) ≤ pa)) && (decide ((Int.toNat pa) ≤ ((List.length xs) - (0 : Nat))))) && (((Int.toNat pa) == (Int.toNat pa)) && true)) && ((pa == pa) && true)) then (k2 (((List.take (Int.toNat pa) xs) ++ (List.take (min (4 : Nat) ((List.length xs) - (Int.toNat pa))) ([(0 : Int), (0 : Int), (0 : Int), (0 : Int), (0 : Int), (0 : Int), (0 : Int), (0 : Int)] : List Int))) ++ (List.drop ((Int.toNat pa) + (min (4 : Nat) ((List.length xs) - (Int.toNat pa)))) xs))) else False) else False) else False))))
theorem F82_ok  (pa : Int) (t : Int) (nm : List Int) (ad : Int) (xs : List Int) (K : V → Mem → Prop) : cbody Try.prog C0 (fun _ => none) 1000 (fnOf Try.prog 82) [(.sl 0 (0 : Nat) (none : Option Nat) (none : Option Nat)), (.agg [(.I .i64 pa), (.I .i64 (4 : Int)), (.I .i64 t), (.S nm), (.I .i64 ad)]), (.I .i64 (0 : Int))] [⟨[.ints .u8 xs], 5, false, false⟩] K =
    F82  pa t nm ad xs (K (.tup [.nils, (.I .i64 (11 : Int))]) [⟨[.ints .u8 xs], 5, false, false⟩]) (fun (u0 : List Int) => K (.tup [(.sl 1 (0 : Nat) (none : Option Nat) (none : Option Nat)), (.I .i64 (0 : Int))]) [⟨[.ints .u8 xs], 5, false, false⟩, ⟨[.ints .u8 u0], 5, false, true⟩]) := by kernel_rfl
def G82 : Y82 := F82 
def VT82 (f : Y82) (F : Prop) (args : List V) (m : Mem) (K : V → Mem → Prop) : Prop :=
  (seeCons args F fun a1 q2 => (seeV (.sl 0 (0 : Nat) (none : Option Nat) (none : Option Nat)) a1 F (seeCons q2 F fun a3 q4 => (seeAgg a3 F fun vs5 => (seeCons vs5 F fun a6 q7 => (seeI .i64 a6 F fun pa => (seeCons q7 F fun a8 q9 => (seeV (.I .i64 (4 : Int)) a8 F (seeCons q9 F fun a10 q11 => (seeI .i64 a10 F fun t => (seeCons q11 F fun a12 q13 => (seeS a12 F fun nm => (seeCons q13 F fun a14 q15 => (seeI .i64 a14 F fun ad => (seeNil q15 F (seeCons q4 F fun a16 q17 => (seeV (.I .i64 (0 : Int)) a16 F (seeNil q17 F (seeCons m F fun a18 q19 => (seeBlk 5 false false a18 F fun cs20 => (seeCons cs20 F fun a21 q22 => (seeInts .u8 a21 F fun xs => (seeNil q22 F (seeNil q19 F (f pa t nm ad xs (K (.tup [.nils, (.I .i64 (11 : Int))]) [⟨[.ints .u8 xs], 5, false, false⟩]) (fun (u0 : List Int) => K (.tup [(.sl 1 (0 : Nat) (none : Option Nat) (none : Option Nat)), (.I .i64 (0 : Int))]) [⟨[.ints .u8 xs], 5, false, false⟩, ⟨[.ints .u8 u0], 5, false, true⟩]))))))))))))))))))))))))))
def T82 (f : Y82) (C : CC) : CC := fun g args m K =>
  match Nat.beq g 82 with
  | true => VT82 f (C g args m K) args m K
  | false => C g args m K
set_option maxRecDepth 100000 in
theorem T82_ok {C : CC} (hC : CallsOk Try.prog C) : CallsOk Try.prog (T82 G82 C) := by
  intro g args m K E w cargs hS ha h
  unfold T82 at h
  split at h
  · rename_i hg
    obtain rfl := Nat.eq_of_beq_eq_true hg
    unfold VT82 at h
    replace h := seeCons_use h
    rcases h with h | ⟨a1, q2, rfl, h⟩
    · exact hC _ _ _ _ _ _ _ hS ha h
    replace h := seeV_use h
    rcases h with h | ⟨rfl, h⟩
    · exact hC _ _ _ _ _ _ _ hS ha h
    replace h := seeCons_use h
    rcases h with h | ⟨a3, q4, rfl, h⟩
    · exact hC _ _ _ _ _ _ _ hS ha h
    replace h := seeAgg_use h
    rcases h with h | ⟨vs5, rfl, h⟩
    · exact hC _ _ _ _ _ _ _ hS ha h
    replace h := seeCons_use h
    rcases h with h | ⟨a6, q7, rfl, h⟩
    · exact hC _ _ _ _ _ _ _ hS ha h
    replace h := seeI_use h
    rcases h with h | ⟨pa, rfl, h⟩
    · exact hC _ _ _ _ _ _ _ hS ha h
    replace h := seeCons_use h
    rcases h with h | ⟨a8, q9, rfl, h⟩
    · exact hC _ _ _ _ _ _ _ hS ha h
    replace h := seeV_use h
    rcases h with h | ⟨rfl, h⟩
    · exact hC _ _ _ _ _ _ _ hS ha h
    replace h := seeCons_use h
    rcases h with h | ⟨a10, q11, rfl, h⟩
    · exact hC _ _ _ _ _ _ _ hS ha h
    replace h := seeI_use h
    rcases h with h | ⟨t, rfl, h⟩
    · exact hC _ _ _ _ _ _ _ hS ha h
    replace h := seeCons_use h
    rcases h with h | ⟨a12, q13, rfl, h⟩
    · exact hC _ _ _ _ _ _ _ hS ha h
    replace h := seeS_use h
    rcases h with h | ⟨nm, rfl, h⟩
    · exact hC _ _ _ _ _ _ _ hS ha h
    replace h := seeCons_use h
    rcases h with h | ⟨a14, q15, rfl, h⟩
    · exact hC _ _ _ _ _ _ _ hS ha h
    replace h := seeI_use h
    rcases h with h | ⟨ad, rfl, h⟩
    · exact hC _ _ _ _ _ _ _ hS ha h
    replace h := seeNil_use h
    rcases h with h | ⟨rfl, h⟩
    · exact hC _ _ _ _ _ _ _ hS ha h
    replace h := seeCons_use h
    rcases h with h | ⟨a16, q17, rfl, h⟩
    · exact hC _ _ _ _ _ _ _ hS ha h
    replace h := seeV_use h
    rcases h with h | ⟨rfl, h⟩
    · exact hC _ _ _ _ _ _ _ hS ha h
    replace h := seeNil_use h
    rcases h with h | ⟨rfl, h⟩
    · exact hC _ _ _ _ _ _ _ hS ha h
    replace h := seeCons_use h
    rcases h with h | ⟨a18, q19, rfl, h⟩
    · exact hC _ _ _ _ _ _ _ hS ha h
    replace h := seeBlk_use h
    rcases h with h | ⟨cs20, rfl, h⟩
    · exact hC _ _ _ _ _ _ _ hS ha h
    replace h := seeCons_use h
    rcases h with h | ⟨a21, q22, rfl, h⟩
    · exact hC _ _ _ _ _ _ _ hS ha h
    replace h := seeInts_use h
    rcases h with h | ⟨xs, rfl, h⟩
    · exact hC _ _ _ _ _ _ _ hS ha h
    replace h := seeNil_use h
    rcases h with h | ⟨rfl, h⟩
    · exact hC _ _ _ _ _ _ _ hS ha h
    replace h := seeNil_use h
    rcases h with h | ⟨rfl, h⟩
    · exact hC _ _ _ _ _ _ _ hS ha h
    exact cbody_use named C0_ok at82 (l := 1) rfl (LoopsOk.none _ _) (F82_ok  pa t nm ad xs K) hS ha h
  · exact hC _ _ _ _ _ _ _ hS ha h
theorem at46 : Try.prog.funcs[46]? = some (fnOf Try.prog 46) := by kernel_rfl
abbrev Y46 : Type := Int → (Bool → Prop) → (Prop) → Prop
def F46  (n : Int) (k1 : Bool → Prop) (k2 : Prop) : Prop :=
  (bif (decide (n ≥ (-2147483648 : Int))) then (k1 (decide (n < (2147483648 : Int)))) else (k2))
theorem F46_ok  (n : Int) (K : V → Mem → Prop) : cbody Try.prog C0 (fun _ => none) 1000 (fnOf Try.prog 46) [(.I .i64 n), (.I .i64 (32 : Int)), (.B true)] [] K =
    F46  n (fun (u0 : Bool) => K (.B u0) []) (K (.B false) []) := by kernel_rfl
def G46 : Y46 := F46 
def VT46 (f : Y46) (F : Prop) (args : List V) (m : Mem) (K : V → Mem → Prop) : Prop :=
  (seeCons args F fun a1 q2 => (seeI .i64 a1 F fun n => (seeCons q2 F fun a3 q4 => (seeV (.I .i64 (32 : Int)) a3 F (seeCons q4 F fun a5 q6 => (seeV (.B true) a5 F (seeNil q6 F (seeNil m F (f n (fun (u0 : Bool) => K (.B u0) []) (K (.B false) []))))))))))
def T46 (f : Y46) (C : CC) : CC := fun g args m K =>
  match Nat.beq g 46 with
  | true => VT46 f (C g args m K) args m K
  | false => C g args m K
set_option maxRecDepth 100000 in
theorem T46_ok {C : CC} (hC : CallsOk Try.prog C) : CallsOk Try.prog (T46 G46 C) := by
  intro g args m K E w cargs hS ha h
  unfold T46 at h
  split at h
  · rename_i hg
    obtain rfl := Nat.eq_of_beq_eq_true hg
    unfold VT46 at h
    replace h := seeCons_use h
    rcases h with h | ⟨a1, q2, rfl, h⟩
    · exact hC _ _ _ _ _ _ _ hS ha h
    replace h := seeI_use h
    rcases h with h | ⟨n, rfl, h⟩
    · exact hC _ _ _ _ _ _ _ hS ha h
    replace h := seeCons_use h
    rcases h with h | ⟨a3, q4, rfl, h⟩
    · exact hC _ _ _ _ _ _ _ hS ha h
    replace h := seeV_use h
    rcases h with h | ⟨rfl, h⟩
    · exact hC _ _ _ _ _ _ _ hS ha h
    replace h := seeCons_use h
    rcases h with h | ⟨a5, q6, rfl, h⟩
    · exact hC _ _ _ _ _ _ _ hS ha h
    replace h := seeV_use h
    rcases h with h | ⟨rfl, h⟩
    · exact hC _ _ _ _ _ _ _ hS ha h
    replace h := seeNil_use h
    rcases h with h | ⟨rfl, h⟩
    · exact hC _ _ _ _ _ _ _ hS ha h
    replace h := seeNil_use h
    rcases h with h | ⟨rfl, h⟩
    · exact hC _ _ _ _ _ _ _ hS ha h
    exact cbody_use named C0_ok at46 (l := 0) rfl (LoopsOk.none _ _) (F46_ok  n K) hS ha h
  · exact hC _ _ _ _ _ _ _ hS ha h
theorem at47 : Try.prog.funcs[47]? = some (fnOf Try.prog 47) := by kernel_rfl
abbrev Y47 : Type := Int → (Prop) → (List Int → Prop) → Prop
def F47  (n : Int) (k1 : Prop) (k2 : List Int → Prop) : Prop :=
  (bif (decide (n < (-2147483648 : Int))) then (k1) else (bif (decide (n ≥ (4294967296 : Int))) then (k1) else (k2 ([(IntKind.wrap .u8 (Int.fdiv (IntKind.wrap .u64 n) (2 ^ 0))), (IntKind.wrap .u8 (Int.fdiv (IntKind.wrap .u64 n) (2 ^ 8))), (IntKind.wrap .u8 (Int.fdiv (IntKind.wrap .u64 n) (2 ^ 16))), (IntKind.wrap .u8 (Int.fdiv (IntKind.wrap .u64 n) (2 ^ 24)))] : List Int))))
theorem F47_ok  (n : Int) (K : V → Mem → Prop) : cbody Try.prog C0 (fun _ => none) 1000 (fnOf Try.prog 47) [(.I .i64 n)] [] K =
    F47  n (K .nils []) (fun (u0 : List Int) => K (.sl 0 (0 : Nat) (none : Option Nat) (none : Option Nat)) [⟨[.ints .u8 u0], 5, false, true⟩]) := by kernel_rfl
def G47 : Y47 := F47 
def VT47 (f : Y47) (F : Prop) (args : List V) (m : Mem) (K : V → Mem → Prop) : Prop :=
  (seeCons args F fun a1 q2 => (seeI .i64 a1 F fun n => (seeNil q2 F (seeNil m F (f n (K .nils []) (fun (u0 : List Int) => K (.sl 0 (0 : Nat) (none : Option Nat) (none : Option Nat)) [⟨[.ints .u8 u0], 5, false, true⟩]))))))
def T47 (f : Y47) (C : CC) : CC := fun g args m K =>
  match Nat.beq g 47 with
  | true => VT47 f (C g args m K) args m K
  | false => C g args m K
set_option maxRecDepth 100000 in
theorem T47_ok {C : CC} (hC : CallsOk Try.prog C) : CallsOk Try.prog (T47 G47 C) := by
  intro g args m K E w cargs hS ha h
  unfold T47 at h
  split at h
  · rename_i hg
    obtain rfl := Nat.eq_of_beq_eq_true hg
    unfold VT47 at h
    replace h := seeCons_use h
    rcases h with h | ⟨a1, q2, rfl, h⟩
    · exact hC _ _ _ _ _ _ _ hS ha h
    replace h := seeI_use h
    rcases h with h | ⟨n, rfl, h⟩
    · exact hC _ _ _ _ _ _ _ hS ha h
    replace h := seeNil_use h
    rcases h with h | ⟨rfl, h⟩
    · exact hC _ _ _ _ _ _ _ hS ha h
    replace h := seeNil_use h
    rcases h with h | ⟨rfl, h⟩
    · exact hC _ _ _ _ _ _ _ hS ha h
    exact cbody_use named C0_ok at47 (l := 0) rfl (LoopsOk.none _ _) (F47_ok  n K) hS ha h
  · exact hC _ _ _ _ _ _ _ hS ha h
theorem at49 : Try.prog.funcs[49]? = some (fnOf Try.prog 49) := by kernel_rfl
abbrev Y49 : Type := Int → (Bool → Prop) → (Prop) → Prop
def F49  (n : Int) (k1 : Bool → Prop) (k2 : Prop) : Prop :=
  (bif (decide (n ≥ (-2147483648 : Int))) then (k1 (decide (n < (2147483648 : Int)))) else (k2))
theorem F49_ok  (n : Int) (K : V → Mem → Prop) : cbody Try.prog C0 (fun _ => none) 1000 (fnOf Try.prog 49) [(.I .i64 n), (.I .i64 (32 : Int)), (.B true)] [] K =
    F49  n (fun (u0 : Bool) => K (.B u0) []) (K (.B false) []) := by kernel_rfl
def G49 : Y49 := F49 
def VT49 (f : Y49) (F : Prop) (args : List V) (m : Mem) (K : V → Mem → Prop) : Prop :=
  (seeCons args F fun a1 q2 => (seeI .i64 a1 F fun n => (seeCons q2 F fun a3 q4 => (seeV (.I .i64 (32 : Int)) a3 F (seeCons q4 F fun a5 q6 => (seeV (.B true) a5 F (seeNil q6 F (seeNil m F (f n (fun (u0 : Bool) => K (.B u0) []) (K (.B false) []))))))))))
def T49 (f : Y49) (C : CC) : CC := fun g args m K =>
  match Nat.beq g 49 with
  | true => VT49 f (C g args m K) args m K
  | false => C g args m K
set_option maxRecDepth 100000 in
theorem T49_ok {C : CC} (hC : CallsOk Try.prog C) : CallsOk Try.prog (T49 G49 C) := by
  intro g args m K E w cargs hS ha h
  unfold T49 at h
  split at h
  · rename_i hg
    obtain rfl := Nat.eq_of_beq_eq_true hg
    unfold VT49 at h
    replace h := seeCons_use h
    rcases h with h | ⟨a1, q2, rfl, h⟩
    · exact hC _ _ _ _ _ _ _ hS ha h
    replace h := seeI_use h
    rcases h with h | ⟨n, rfl, h⟩
    · exact hC _ _ _ _ _ _ _ hS ha h
    replace h := seeCons_use h
    rcases h with h | ⟨a3, q4, rfl, h⟩
    · exact hC _ _ _ _ _ _ _ hS ha h
    replace h := seeV_use h
    rcases h with h | ⟨rfl, h⟩
    · exact hC _ _ _ _ _ _ _ hS ha h
    replace h := seeCons_use h
    rcases h with h | ⟨a5, q6, rfl, h⟩
    · exact hC _ _ _ _ _ _ _ hS ha h
    replace h := seeV_use h
    rcases h with h | ⟨rfl, h⟩
    · exact hC _ _ _ _ _ _ _ hS ha h
    replace h := seeNil_use h
    rcases h with h | ⟨rfl, h⟩
    · exact hC _ _ _ _ _ _ _ hS ha h
    replace h := seeNil_use h
    rcases h with h | ⟨rfl, h⟩
    · exact hC _ _ _ _ _ _ _ hS ha h
    exact cbody_use named C0_ok at49 (l := 0) rfl (LoopsOk.none _ _) (F49_ok  n K) hS ha h
  · exact hC _ _ _ _ _ _ _ hS ha h
theorem at50 : Try.prog.funcs[50]? = some (fnOf Try.prog 50) := by kernel_rfl
abbrev Y50 : Type := Int → (Prop) → (List Int → Prop) → Prop
def F50  (n : Int) (k1 : Prop) (k2 : List Int → Prop) : Prop :=
  (bif (decide (n < (-2147483648 : Int))) then (k1) else (bif (decide (n ≥ (4294967296 : Int))) then (k1) else (k2 ([(IntKind.wrap .u8 (IntKind.wrap .u64 n)), (IntKind.wrap .u8 (Int.fdiv (IntKind.wrap .u64 n) (2 ^ 8))), (IntKind.wrap .u8 (Int.fdiv (Int.fdiv (IntKind.wrap .u64 n) (2 ^ 8)) (2 ^ 8))), (IntKind.wrap .u8 (Int.fdiv (Int.fdiv (Int.fdiv (IntKind.wrap .u64 n) (2 ^ 8)) (2 ^ 8)) (2 ^ 8)))] : List Int))))
theorem F50_ok  (n : Int) (K : V → Mem → Prop) : cbody Try.prog C0 (fun _ => none) 1000 (fnOf Try.prog 50) [(.I .i64 n), (.I .i64 (4 : Int))] [] K =
    F50  n (K (.tup [.nils, (.I .i64 (11 : Int))]) []) (fun (u0 : List Int) => K (.tup [(.sl 0 (0 : Nat) (none : Option Nat) (none : Option Nat)), (.I .i64 (0 : Int))]) [⟨[.ints .u8 u0], 5, false, true⟩]) := by kernel_rfl
def G50 : Y50 := F50 
def VT50 (f : Y50) (F : Prop) (args : List V) (m : Mem) (K : V → Mem → Prop) : Prop :=
  (seeCons args F fun a1 q2 => (seeI .i64 a1 F fun n => (seeCons q2 F fun a3 q4 => (seeV (.I .i64 (4 : Int)) a3 F (seeNil q4 F (seeNil m F (f n (K (.tup [.nils, (.I .i64 (11 : Int))]) []) (fun (u0 : List Int) => K (.tup [(.sl 0 (0 : Nat) (none : Option Nat) (none : Option Nat)), (.I .i64 (0 : Int))]) [⟨[.ints .u8 u0], 5, false, true⟩]))))))))
def T50 (f : Y50) (C : CC) : CC := fun g args m K =>
  match Nat.beq g 50 with
  | true => VT50 f (C g args m K) args m K
  | false => C g args m K
set_option maxRecDepth 100000 in
theorem T50_ok {C : CC} (hC : CallsOk Try.prog C) : CallsOk Try.prog (T50 G50 C) := by
  intro g args m K E w cargs hS ha h
  unfold T50 at h
  split at h
  · rename_i hg
    obtain rfl := Nat.eq_of_beq_eq_true hg
    unfold VT50 at h
    replace h := seeCons_use h
    rcases h with h | ⟨a1, q2, rfl, h⟩
    · exact hC _ _ _ _ _ _ _ hS ha h
    replace h := seeI_use h
    rcases h with h | ⟨n, rfl, h⟩
    · exact hC _ _ _ _ _ _ _ hS ha h
    replace h := seeCons_use h
    rcases h with h | ⟨a3, q4, rfl, h⟩
    · exact hC _ _ _ _ _ _ _ hS ha h
    replace h := seeV_use h
    rcases h with h | ⟨rfl, h⟩
    · exact hC _ _ _ _ _ _ _ hS ha h
    replace h := seeNil_use h
    rcases h with h | ⟨rfl, h⟩
    · exact hC _ _ _ _ _ _ _ hS ha h
    replace h := seeNil_use h
    rcases h with h | ⟨rfl, h⟩
    · exact hC _ _ _ _ _ _ _ hS ha h
    exact cbody_use named C0_ok at50 (l := 0) rfl (LoopsOk.none _ _) (F50_ok  n K) hS ha h
  · exact hC _ _ _ _ _ _ _ hS ha h
theorem at70 : Try.prog.funcs[70]? = some (fnOf Try.prog 70) := by kernel_rfl
abbrev Y70_1 : Type := Nat → Nat → List Int → Int → Int → List Int → Int → (List Int → Prop) → Prop
def F70_1 (f82 : Y82) (r : Nat) (n : Nat) (xs : List Int) (a0 : Int) (t0 : Int) (s0 : List Int) (d0 : Int) (k1 : List Int → Prop) : Prop :=
  (bif ((decide ((n * (1 : Nat)) ≤ (140737488355328 : Nat))) && (decide (n ≤ (140737488355328 : Nat)))) then (f82 a0 t0 s0 d0 (List.take n (List.drop r xs)) ((k1 (List.take n (List.drop r xs)))) (fun (xs1 : List Int) => (k1 xs1))) else False)
theorem F70_1_ok (f82 : Y82) (r : Nat) (n : Nat) (xs : List Int) (a0 : Int) (t0 : Int) (s0 : List Int) (d0 : Int) (K : V → Mem → Prop) : cbody Try.prog (T82 f82 C0) (fun _ => none) 1000 (fnOf Try.prog 70) [(.sl 0 r (some n) (none : Option Nat)), (.sl 1 (0 : Nat) (none : Option Nat) (none : Option Nat))] [⟨[.ints .u8 xs], 5, false, false⟩, ⟨[.ints .i64 ([a0] : List Int), .ints .i64 ([(4 : Int)] : List Int), .ints .i64 ([t0] : List Int), .strs ([s0] : List (List Int)), .ints .i64 ([d0] : List Int)], 32, false, false⟩] K =
    F70_1 f82 r n xs a0 t0 s0 d0 (fun (u0 : List Int) => K (.S u0) [⟨[.ints .u8 xs], 5, false, false⟩, ⟨[.ints .i64 ([a0] : List Int), .ints .i64 ([(4 : Int)] : List Int), .ints .i64 ([t0] : List Int), .strs ([s0] : List (List Int)), .ints .i64 ([d0] : List Int)], 32, false, false⟩]) := by kernel_rfl
def G70_1 : Y70_1 := F70_1 G82
def VT70_1 (f : Y70_1) (F : Prop) (args : List V) (m : Mem) (K : V → Mem → Prop) : Prop :=
  (seeCons args F fun a1 q2 => (seeSl 0 a1 F fun r l3 c4 => (seeO l3 F fun n => (seeNo c4 F (seeCons q2 F fun a5 q6 => (seeV (.sl 1 (0 : Nat) (none : Option Nat) (none : Option Nat)) a5 F (seeNil q6 F (seeCons m F fun a7 q8 => (seeBlk 5 false false a7 F fun cs9 => (seeCons cs9 F fun a10 q11 => (seeInts .u8 a10 F fun xs => (seeNil q11 F (seeCons q8 F fun a12 q13 => (seeBlk 32 false false a12 F fun cs14 => (seeCons cs14 F fun a15 q16 => (seeInts .i64 a15 F fun xs17 => (seeCons xs17 F fun a18 q19 => (seeId a18 fun a0 => (seeNil q19 F (seeCons q16 F fun a20 q21 => (seeInts .i64 a20 F fun xs22 => (seeX ([(4 : Int)] : List Int) xs22 F (seeCons q21 F fun a23 q24 => (seeInts .i64 a23 F fun xs25 => (seeCons xs25 F fun a26 q27 => (seeId a26 fun t0 => (seeNil q27 F (seeCons q24 F fun a28 q29 => (seeStrs a28 F fun xs30 => (seeCons xs30 F fun a31 q32 => (seeId a31 fun s0 => (seeNil q32 F (seeCons q29 F fun a33 q34 => (seeInts .i64 a33 F fun xs35 => (seeCons xs35 F fun a36 q37 => (seeId a36 fun d0 => (seeNil q37 F (seeNil q34 F (seeNil q13 F (f r n xs a0 t0 s0 d0 (fun (u0 : List Int) => K (.S u0) [⟨[.ints .u8 xs], 5, false, false⟩, ⟨[.ints .i64 ([a0] : List Int), .ints .i64 ([(4 : Int)] : List Int), .ints .i64 ([t0] : List Int), .strs ([s0] : List (List Int)), .ints .i64 ([d0] : List Int)], 32, false, false⟩])))))))))))))))))))))))))))))))))))))))))
def T70_1 (f : Y70_1) (C : CC) : CC := fun g args m K =>
  match Nat.beq g 70 with
  | true => VT70_1 f (C g args m K) args m K
  | false => C g args m K
set_option maxRecDepth 100000 in
theorem T70_1_ok {C : CC} (hC : CallsOk Try.prog C) : CallsOk Try.prog (T70_1 G70_1 C) := by
  intro g args m K E w cargs hS ha h
  unfold T70_1 at h
  split at h
  · rename_i hg
    obtain rfl := Nat.eq_of_beq_eq_true hg
    unfold VT70_1 at h
    replace h := seeCons_use h
    rcases h with h | ⟨a1, q2, rfl, h⟩
    · exact hC _ _ _ _ _ _ _ hS ha h
    replace h := seeSl_use h
    rcases h with h | ⟨r, l3, c4, rfl, h⟩
    · exact hC _ _ _ _ _ _ _ hS ha h
    replace h := seeO_use h
    rcases h with h | ⟨n, rfl, h⟩
    · exact hC _ _ _ _ _ _ _ hS ha h
    replace h := seeNo_use h
    rcases h with h | ⟨rfl, h⟩
    · exact hC _ _ _ _ _ _ _ hS ha h
    replace h := seeCons_use h
    rcases h with h | ⟨a5, q6, rfl, h⟩
    · exact hC _ _ _ _ _ _ _ hS ha h
    replace h := seeV_use h
    rcases h with h | ⟨rfl, h⟩
    · exact hC _ _ _ _ _ _ _ hS ha h
    replace h := seeNil_use h
    rcases h with h | ⟨rfl, h⟩
    · exact hC _ _ _ _ _ _ _ hS ha h
    replace h := seeCons_use h
    rcases h with h | ⟨a7, q8, rfl, h⟩
    · exact hC _ _ _ _ _ _ _ hS ha h
    replace h := seeBlk_use h
    rcases h with h | ⟨cs9, rfl, h⟩
    · exact hC _ _ _ _ _ _ _ hS ha h
    replace h := seeCons_use h
    rcases h with h | ⟨a10, q11, rfl, h⟩
    · exact hC _ _ _ _ _ _ _ hS ha h
    replace h := seeInts_use h
    rcases h with h | ⟨xs, rfl, h⟩
    · exact hC _ _ _ _ _ _ _ hS ha h
    replace h := seeNil_use h
    rcases h with h | ⟨rfl, h⟩
    · exact hC _ _ _ _ _ _ _ hS ha h
    replace h := seeCons_use h
    rcases h with h | ⟨a12, q13, rfl, h⟩
    · exact hC _ _ _ _ _ _ _ hS ha h
    replace h := seeBlk_use h
    rcases h with h | ⟨cs14, rfl, h⟩
    · exact hC _ _ _ _ _ _ _ hS ha h
    replace h := seeCons_use h
    rcases h with h | ⟨a15, q16, rfl, h⟩
    · exact hC _ _ _ _ _ _ _ hS ha h
    replace h := seeInts_use h
    rcases h with h | ⟨xs17, rfl, h⟩
    · exact hC _ _ _ _ _ _ _ hS ha h
    replace h := seeCons_use h
    rcases h with h | ⟨a18, q19, rfl, h⟩
    · exact hC _ _ _ _ _ _ _ hS ha h
    replace h := seeId_use h
    obtain ⟨a0, rfl, h⟩ := h
    replace h := seeNil_use h
    rcases h with h | ⟨rfl, h⟩
    · exact hC _ _ _ _ _ _ _ hS ha h
    replace h := seeCons_use h
    rcases h with h | ⟨a20, q21, rfl, h⟩
    · exact hC _ _ _ _ _ _ _ hS ha h
    replace h := seeInts_use h
    rcases h with h | ⟨xs22, rfl, h⟩
    · exact hC _ _ _ _ _ _ _ hS ha h
    replace h := seeX_use h
    rcases h with h | ⟨rfl, h⟩
    · exact hC _ _ _ _ _ _ _ hS ha h
    replace h := seeCons_use h
    rcases h with h | ⟨a23, q24, rfl, h⟩
    · exact hC _ _ _ _ _ _ _ hS ha h
    replace h := seeInts_use h
    rcases h with h | ⟨xs25, rfl, h⟩
    · exact hC _ _ _ _ _ _ _ hS ha h
    replace h := seeCons_use h
    rcases h with h | ⟨a26, q27, rfl, h⟩
    · exact hC _ _ _ _ _ _ _ hS ha h
    replace h := seeId_use h
    obtain ⟨t0, rfl, h⟩ := h
    replace h := seeNil_use h
    rcases h with h | ⟨rfl, h⟩
    · exact hC _ _ _ _ _ _ _ hS ha h
    replace h := seeCons_use h
    rcases h with h | ⟨a28, q29, rfl, h⟩
    · exact hC _ _ _ _ _ _ _ hS ha h
    replace h := seeStrs_use h
    rcases h with h | ⟨xs30, rfl, h⟩
    · exact hC _ _ _ _ _ _ _ hS ha h
    replace h := seeCons_use h
    rcases h with h | ⟨a31, q32, rfl, h⟩
    · exact hC _ _ _ _ _ _ _ hS ha h
    replace h := seeId_use h
    obtain ⟨s0, rfl, h⟩ := h
    replace h := seeNil_use h
    rcases h with h | ⟨rfl, h⟩
    · exact hC _ _ _ _ _ _ _ hS ha h
    replace h := seeCons_use h
    rcases h with h | ⟨a33, q34, rfl, h⟩
    · exact hC _ _ _ _ _ _ _ hS ha h
    replace h := seeInts_use h
    rcases h with h | ⟨xs35, rfl, h⟩
    · exact hC _ _ _ _ _ _ _ hS ha h
    replace h := seeCons_use h
    rcases h with h | ⟨a36, q37, rfl, h⟩
    · exact hC _ _ _ _ _ _ _ hS ha h
    replace h := seeId_use h
    obtain ⟨d0, rfl, h⟩ := h
    replace h := seeNil_use h
    rcases h with h | ⟨rfl, h⟩
    · exact hC _ _ _ _ _ _ _ hS ha h
    replace h := seeNil_use h
    rcases h with h | ⟨rfl, h⟩
    · exact hC _ _ _ _ _ _ _ hS ha h
    replace h := seeNil_use h
    rcases h with h | ⟨rfl, h⟩
    · exact hC _ _ _ _ _ _ _ hS ha h
    exact cbody_use named (T82_ok C0_ok) at70 (l := 2) rfl (LoopsOk.none _ _) (F70_1_ok G82 r n xs a0 t0 s0 d0 K) hS ha h
  · exact hC _ _ _ _ _ _ _ hS ha h
abbrev Y70_2 : Type := Nat → Nat → List Int → Int → Int → Int → Int → List Int → List Int → Int → Int → (List Int → Prop) → Prop
def F70_2 (f82 : Y82) (r : Nat) (n : Nat) (xs : List Int) (a0 : Int) (a1 : Int) (t0 : Int) (t1 : Int) (s0 : List Int) (s1 : List Int) (d0 : Int) (d1 : Int) (k1 : List Int → Prop) : Prop :=
  (bif ((decide ((n * (1 : Nat)) ≤ (140737488355328 : Nat))) && (decide (n ≤ (140737488355328 : Nat)))) then (f82 a0 t0 s0 d0 (List.take n (List.drop r xs)) ((f82 a1 t1 s1 d1 (List.take n (List.drop r xs)) ((k1 (List.take n (List.drop r xs)))) (fun (xs1 : List Int) => (k1 xs1)))) (fun (xs2 : List Int) => (f82 a1 t1 s1 d1 xs2 ((k1 xs2)) (fun (xs3 : List Int) => (k1 xs3))))) else False)
theorem F70_2_ok (f82 : Y82) (r : Nat) (n : Nat) (xs : List Int) (a0 : Int) (a1 : Int) (t0 : Int) (t1 : Int) (s0 : List Int) (s1 : List Int) (d0 : Int) (d1 : Int) (K : V → Mem → Prop) : cbody Try.prog (T82 f82 C0) (fun _ => none) 1000 (fnOf Try.prog 70) [(.sl 0 r (some n) (none : Option Nat)), (.sl 1 (0 : Nat) (none : Option Nat) (none : Option Nat))] [⟨[.ints .u8 xs], 5, false, false⟩, ⟨[.ints .i64 ([a0, a1] : List Int), .ints .i64 ([(4 : Int), (4 : Int)] : List Int), .ints .i64 ([t0, t1] : List Int), .strs ([s0, s1] : List (List Int)), .ints .i64 ([d0, d1] : List Int)], 32, false, false⟩] K =
    F70_2 f82 r n xs a0 a1 t0 t1 s0 s1 d0 d1 (fun (u0 : List Int) => K (.S u0) [⟨[.ints .u8 xs], 5, false, false⟩, ⟨[.ints .i64 ([a0, a1] : List Int), .ints .i64 ([(4 : Int), (4 : Int)] : List Int), .ints .i64 ([t0, t1] : List Int), .strs ([s0, s1] : List (List Int)), .ints .i64 ([d0, d1] : List Int)], 32, false, false⟩]) := by kernel_rfl
def G70_2 : Y70_2 := F70_2 G82
def VT70_2 (f : Y70_2) (F : Prop) (args : List V) (m : Mem) (K : V → Mem → Prop) : Prop :=
  (seeCons args F fun a1 q2 => (seeSl 0 a1 F fun r l3 c4 => (seeO l3 F fun n => (seeNo c4 F (seeCons q2 F fun a5 q6 => (seeV (.sl 1 (0 : Nat) (none : Option Nat) (none : Option Nat)) a5 F (seeNil q6 F (seeCons m F fun a7 q8 => (seeBlk 5 false false a7 F fun cs9 => (seeCons cs9 F fun a10 q11 => (seeInts .u8 a10 F fun xs => (seeNil q11 F (seeCons q8 F fun a12 q13 => (seeBlk 32 false false a12 F fun cs14 => (seeCons cs14 F fun a15 q16 => (seeInts .i64 a15 F fun xs17 => (seeCons xs17 F fun a18 q19 => (seeId a18 fun a0 => (seeCons q19 F fun a20 q21 => (seeId a20 fun a1 => (seeNil q21 F (seeCons q16 F fun a22 q23 => (seeInts .i64 a22 F fun xs24 => (seeX ([(4 : Int), (4 : Int)] : List Int) xs24 F (seeCons q23 F fun a25 q26 => (seeInts .i64 a25 F fun xs27 => (seeCons xs27 F fun a28 q29 => (seeId a28 fun t0 => (seeCons q29 F fun a30 q31 => (seeId a30 fun t1 => (seeNil q31 F (seeCons q26 F fun a32 q33 => (seeStrs a32 F fun xs34 => (seeCons xs34 F fun a35 q36 => (seeId a35 fun s0 => (seeCons q36 F fun a37 q38 => (seeId a37 fun s1 => (seeNil q38 F (seeCons q33 F fun a39 q40 => (seeInts .i64 a39 F fun xs41 => (seeCons xs41 F fun a42 q43 => (seeId a42 fun d0 => (seeCons q43 F fun a44 q45 => (seeId a44 fun d1 => (seeNil q45 F (seeNil q40 F (seeNil q13 F (f r n xs a0 a1 t0 t1 s0 s1 d0 d1 (fun (u0 : List Int) => K (.S u0) [⟨[.ints .u8 xs], 5, false, false⟩, ⟨[.ints .i64 ([a0, a1] : List Int), .ints .i64 ([(4 : Int), (4 : Int)] : List Int), .ints .i64 ([t0, t1] : List Int), .strs ([s0, s1] : List (List Int)), .ints .i64 ([d0, d1] : List Int)], 32, false, false⟩])))))))))))))))))))))))))))))))))))))))))))))))))
def T70_2 (f : Y70_2) (C : CC) : CC := fun g args m K =>
  match Nat.beq g 70 with
  | true => VT70_2 f (C g args m K) args m K
  | false => C g args m K
set_option maxRecDepth 100000 in
theorem T70_2_ok {C : CC} (hC : CallsOk Try.prog C) : CallsOk Try.prog (T70_2 G70_2 C) := by
  intro g args m K E w cargs hS ha h
  unfold T70_2 at h
  split at h
  · rename_i hg
    obtain rfl := Nat.eq_of_beq_eq_true hg
    unfold VT70_2 at h
    replace h := seeCons_use h
    rcases h with h | ⟨a1, q2, rfl, h⟩
    · exact hC _ _ _ _ _ _ _ hS ha h
    replace h := seeSl_use h
    rcases h with h | ⟨r, l3, c4, rfl, h⟩
    · exact hC _ _ _ _ _ _ _ hS ha h
    replace h := seeO_use h
    rcases h with h | ⟨n, rfl, h⟩
    · exact hC _ _ _ _ _ _ _ hS ha h
    replace h := seeNo_use h
    rcases h with h | ⟨rfl, h⟩
    · exact hC _ _ _ _ _ _ _ hS ha h
    replace h := seeCons_use h
    rcases h with h | ⟨a5, q6, rfl, h⟩
    · exact hC _ _ _ _ _ _ _ hS ha h
    replace h := seeV_use h
    rcases h with h | ⟨rfl, h⟩
    · exact hC _ _ _ _ _ _ _ hS ha h
    replace h := seeNil_use h
    rcases h with h | ⟨rfl, h⟩
    · exact hC _ _ _ _ _ _ _ hS ha h
    replace h := seeCons_use h
    rcases h with h | ⟨a7, q8, rfl, h⟩
    · exact hC _ _ _ _ _ _ _ hS ha h
    replace h := seeBlk_use h
    rcases h with h | ⟨cs9, rfl, h⟩
    · exact hC _ _ _ _ _ _ _ hS ha h
    replace h := seeCons_use h
    rcases h with h | ⟨a10, q11, rfl, h⟩
    · exact hC _ _ _ _ _ _ _ hS ha h
    replace h := seeInts_use h
    rcases h with h | ⟨xs, rfl, h⟩
    · exact hC _ _ _ _ _ _ _ hS ha h
    replace h := seeNil_use h
    rcases h with h | ⟨rfl, h⟩
    · exact hC _ _ _ _ _ _ _ hS ha h
    replace h := seeCons_use h
    rcases h with h | ⟨a12, q13, rfl, h⟩
    · exact hC _ _ _ _ _ _ _ hS ha h
    replace h := seeBlk_use h
    rcases h with h | ⟨cs14, rfl, h⟩
    · exact hC _ _ _ _ _ _ _ hS ha h
    replace h := seeCons_use h
    rcases h with h | ⟨a15, q16, rfl, h⟩
    · exact hC _ _ _ _ _ _ _ hS ha h
    replace h := seeInts_use h
    rcases h with h | ⟨xs17, rfl, h⟩
    · exact hC _ _ _ _ _ _ _ hS ha h
    replace h := seeCons_use h
    rcases h with h | ⟨a18, q19, rfl, h⟩
    · exact hC _ _ _ _ _ _ _ hS ha h
    replace h := seeId_use h
    obtain ⟨a0, rfl, h⟩ := h
    replace h := seeCons_use h
    rcases h with h | ⟨a20, q21, rfl, h⟩
    · exact hC _ _ _ _ _ _ _ hS ha h
    replace h := seeId_use h
    obtain ⟨a1, rfl, h⟩ := h
    replace h := seeNil_use h
    rcases h with h | ⟨rfl, h⟩
    · exact hC _ _ _ _ _ _ _ hS ha h
    replace h := seeCons_use h
    rcases h with h | ⟨a22, q23, rfl, h⟩
    · exact hC _ _ _ _ _ _ _ hS ha h
    replace h := seeInts_use h
    rcases h with h | ⟨xs24, rfl, h⟩
    · exact hC _ _ _ _ _ _ _ hS ha h
    replace h := seeX_use h
    rcases h with h | ⟨rfl, h⟩
    · exact hC _ _ _ _ _ _ _ hS ha h
    replace h := seeCons_use h
    rcases h with h | ⟨a25, q26, rfl, h⟩
    · exact hC _ _ _ _ _ _ _ hS ha h
    replace h := seeInts_use h
    rcases h with h | ⟨xs27, rfl, h⟩
    · exact hC _ _ _ _ _ _ _ hS ha h
    replace h := seeCons_use h
    rcases h with h | ⟨a28, q29, rfl, h⟩
    · exact hC _ _ _ _ _ _ _ hS ha h
    replace h := seeId_use h
    obtain ⟨t0, rfl, h⟩ := h
    replace h := seeCons_use h
    rcases h with h | ⟨a30, q31, rfl, h⟩
    · exact hC _ _ _ _ _ _ _ hS ha h
    replace h := seeId_use h
    obtain ⟨t1, rfl, h⟩ := h
    replace h := seeNil_use h
    rcases h with h | ⟨rfl, h⟩
    · exact hC _ _ _ _ _ _ _ hS ha h
    replace h := seeCons_use h
    rcases h with h | ⟨a32, q33, rfl, h⟩
    · exact hC _ _ _ _ _ _ _ hS ha h
    replace h := seeStrs_use h
    rcases h with h | ⟨xs34, rfl, h⟩
    · exact hC _ _ _ _ _ _ _ hS ha h
    replace h := seeCons_use h
    rcases h with h | ⟨a35, q36, rfl, h⟩
    · exact hC _ _ _ _ _ _ _ hS ha h
    replace h := seeId_use h
    obtain ⟨s0, rfl, h⟩ := h
    replace h := seeCons_use h
    rcases h with h | ⟨a37, q38, rfl, h⟩
    · exact hC _ _ _ _ _ _ _ hS ha h
    replace h := seeId_use h
    obtain ⟨s1, rfl, h⟩ := h
    replace h := seeNil_use h
    rcases h with h | ⟨rfl, h⟩
    · exact hC _ _ _ _ _ _ _ hS ha h
    replace h := seeCons_use h
    rcases h with h | ⟨a39, q40, rfl, h⟩
    · exact hC _ _ _ _ _ _ _ hS ha h
    replace h := seeInts_use h
    rcases h with h | ⟨xs41, rfl, h⟩
    · exact hC _ _ _ _ _ _ _ hS ha h
    replace h := seeCons_use h
    rcases h with h | ⟨a42, q43, rfl, h⟩
    · exact hC _ _ _ _ _ _ _ hS ha h
    replace h := seeId_use h
    obtain ⟨d0, rfl, h⟩ := h
    replace h := seeCons_use h
    rcases h with h | ⟨a44, q45, rfl, h⟩
    · exact hC _ _ _ _ _ _ _ hS ha h
    replace h := seeId_use h
    obtain ⟨d1, rfl, h⟩ := h
    replace h := seeNil_use h
    rcases h with h | ⟨rfl, h⟩
    · exact hC _ _ _ _ _ _ _ hS ha h
    replace h := seeNil_use h
    rcases h with h | ⟨rfl, h⟩
    · exact hC _ _ _ _ _ _ _ hS ha h
    replace h := seeNil_use h
    rcases h with h | ⟨rfl, h⟩
    · exact hC _ _ _ _ _ _ _ hS ha h
    exact cbody_use named (T82_ok C0_ok) at70 (l := 2) rfl (LoopsOk.none _ _) (F70_2_ok G82 r n xs a0 a1 t0 t1 s0 s1 d0 d1 K) hS ha h
  · exact hC _ _ _ _ _ _ _ hS ha h
theorem at14 : Try.prog.funcs[14]? = some (fnOf Try.prog 14) := by kernel_rfl
abbrev Y14 : Type := (Prop) → Prop
def F14   (k1 : Prop) : Prop :=
  (k1)
theorem F14_ok   (K : V → Mem → Prop) : cbody Try.prog C0 (fun _ => none) 1000 (fnOf Try.prog 14) [] [] K =
    F14   (K (.B true) []) := by kernel_rfl
def G14 : Y14 := F14 
def VT14 (f : Y14) (F : Prop) (args : List V) (m : Mem) (K : V → Mem → Prop) : Prop :=
  (seeNil args F (seeNil m F (f  (K (.B true) []))))
def T14 (f : Y14) (C : CC) : CC := fun g args m K =>
  match Nat.beq g 14 with
  | true => VT14 f (C g args m K) args m K
  | false => C g args m K
set_option maxRecDepth 100000 in
theorem T14_ok {C : CC} (hC : CallsOk Try.prog C) : CallsOk Try.prog (T14 G14 C) := by
  intro g args m K E w cargs hS ha h
  unfold T14 at h
  split at h
  · rename_i hg
    obtain rfl := Nat.eq_of_beq_eq_true hg
    unfold VT14 at h
    replace h := seeNil_use h
    rcases h with h | ⟨rfl, h⟩
    · exact hC _ _ _ _ _ _ _ hS ha h
    replace h := seeNil_use h
    rcases h with h | ⟨rfl, h⟩
    · exact hC _ _ _ _ _ _ _ hS ha h
    exact cbody_use named C0_ok at14 (l := 0) rfl (LoopsOk.none _ _) (F14_ok   K) hS ha h
  · exact hC _ _ _ _ _ _ _ hS ha h
theorem at13 : Try.prog.funcs[13]? = some (fnOf Try.prog 13) := by kernel_rfl
abbrev Y13 : Type := Int → (Prop) → Prop
def F13  (a : Int) (k1 : Prop) : Prop :=
  (k1)
theorem F13_ok  (a : Int) (K : V → Mem → Prop) : cbody Try.prog C0 (fun _ => none) 1000 (fnOf Try.prog 13) [(.I .i64 a)] [] K =
    F13  a (K (.I .i64 a) []) := by kernel_rfl
def G13 : Y13 := F13 
def VT13 (f : Y13) (F : Prop) (args : List V) (m : Mem) (K : V → Mem → Prop) : Prop :=
  (seeCons args F fun a1 q2 => (seeI .i64 a1 F fun a => (seeNil q2 F (seeNil m F (f a (K (.I .i64 a) []))))))
def T13 (f : Y13) (C : CC) : CC := fun g args m K =>
  match Nat.beq g 13 with
  | true => VT13 f (C g args m K) args m K
  | false => C g args m K
set_option maxRecDepth 100000 in
theorem T13_ok {C : CC} (hC : CallsOk Try.prog C) : CallsOk Try.prog (T13 G13 C) := by
  intro g args m K E w cargs hS ha h
  unfold T13 at h
  split at h
  · rename_i hg
    obtain rfl := Nat.eq_of_beq_eq_true hg
    unfold VT13 at h
    replace h := seeCons_use h
    rcases h with h | ⟨a1, q2, rfl, h⟩
    · exact hC _ _ _ _ _ _ _ hS ha h
    replace h := seeI_use h
    rcases h with h | ⟨a, rfl, h⟩
    · exact hC _ _ _ _ _ _ _ hS ha h
    replace h := seeNil_use h
    rcases h with h | ⟨rfl, h⟩
    · exact hC _ _ _ _ _ _ _ hS ha h
    replace h := seeNil_use h
    rcases h with h | ⟨rfl, h⟩
    · exact hC _ _ _ _ _ _ _ hS ha h
    exact cbody_use named C0_ok at13 (l := 0) rfl (LoopsOk.none _ _) (F13_ok  a K) hS ha h
  · exact hC _ _ _ _ _ _ _ hS ha h
theorem at16 : Try.prog.funcs[16]? = some (fnOf Try.prog 16) := by kernel_rfl
abbrev Y16 : Type := List Int → (Nat → List Int → Prop) → Prop
def F16  (xs : List Int) (k1 : Nat → List Int → Prop) : Prop :=
  (bif ((decide ((((0 : Nat) + ((List.length xs) - (0 : Nat))) * (1 : Nat)) ≤ (140737488355328 : Nat))) && (decide (((0 : Nat) + ((List.length xs) - (0 : Nat))) ≤ (140737488355328 : Nat)))) then (bif ((decide (((((List.length xs) - (0 : Nat)) + (2 : Nat)) * (1 : Nat)) ≤ (140737488355328 : Nat))) && (decide ((((List.length xs) - (0 : Nat)) + (2 : Nat)) ≤ (140737488355328 : Nat)))) then (bif ((decide ((0 : Int) ≤ ((((List.length xs) - (0 : Nat)) : Nat) : Int))) && (decide ((Int.toNat ((((List.length xs) - (0 : Nat)) : Nat) : Int)) ≤ ((List.length (xs ++ ([(201 : Int), (202 : Int)] : List Int))) - (0 : Nat))))) then (k1 (Int.toNat ((((List.length xs) - (0 : Nat)) : Nat) : Int)) (xs ++ ([(201 : Int), (202 : Int)] : List Int))) else False) else False) else False)
theorem F16_ok  (xs : List Int) (K : V → Mem → Prop) : cbody Try.prog C0 (fun _ => none) 1000 (fnOf Try.prog 16) [(.sl 0 (0 : Nat) (none : Option Nat) (none : Option Nat))] [⟨[.ints .u8 xs], 5, true, false⟩] K =
    F16  xs (fun (u0 : Nat) (u1 : List Int) => K (.sl 1 (0 : Nat) (some u0) (none : Option Nat)) [⟨[.ints .u8 xs], 5, true, false⟩, ⟨[.ints .u8 u1], 5, false, true⟩]) := by kernel_rfl
def G16 : Y16 := F16 
def VT16 (f : Y16) (F : Prop) (args : List V) (m : Mem) (K : V → Mem → Prop) : Prop :=
  (seeCons args F fun a1 q2 => (seeV (.sl 0 (0 : Nat) (none : Option Nat) (none : Option Nat)) a1 F (seeNil q2 F (seeCons m F fun a3 q4 => (seeBlk 5 true false a3 F fun cs5 => (seeCons cs5 F fun a6 q7 => (seeInts .u8 a6 F fun xs => (seeNil q7 F (seeNil q4 F (f xs (fun (u0 : Nat) (u1 : List Int) => K (.sl 1 (0 : Nat) (some u0) (none : Option Nat)) [⟨[.ints .u8 xs], 5, true, false⟩, ⟨[.ints .u8 u1], 5, false, true⟩])))))))))))
def T16 (f : Y16) (C : CC) : CC := fun g args m K =>
  match Nat.beq g 16 with
  | true => VT16 f (C g args m K) args m K
  | false => C g args m K
set_option maxRecDepth 100000 in
theorem T16_ok {C : CC} (hC : CallsOk Try.prog C) : CallsOk Try.prog (T16 G16 C) := by
  intro g args m K E w cargs hS ha h
  unfold T16 at h
  split at h
  · rename_i hg
    obtain rfl := Nat.eq_of_beq_eq_true hg
    unfold VT16 at h
    replace h := seeCons_use h
    rcases h with h | ⟨a1, q2, rfl, h⟩
    · exact hC _ _ _ _ _ _ _ hS ha h
    replace h := seeV_use h
    rcases h with h | ⟨rfl, h⟩
    · exact hC _ _ _ _ _ _ _ hS ha h
    replace h := seeNil_use h
    rcases h with h | ⟨rfl, h⟩
    · exact hC _ _ _ _ _ _ _ hS ha h
    replace h := seeCons_use h
    rcases h with h | ⟨a3, q4, rfl, h⟩
    · exact hC _ _ _ _ _ _ _ hS ha h
    replace h := seeBlk_use h
    rcases h with h | ⟨cs5, rfl, h⟩
    · exact hC _ _ _ _ _ _ _ hS ha h
    replace h := seeCons_use h
    rcases h with h | ⟨a6, q7, rfl, h⟩
    · exact hC _ _ _ _ _ _ _ hS ha h
    replace h := seeInts_use h
    rcases h with h | ⟨xs, rfl, h⟩
    · exact hC _ _ _ _ _ _ _ hS ha h
    replace h := seeNil_use h
    rcases h with h | ⟨rfl, h⟩
    · exact hC _ _ _ _ _ _ _ hS ha h
    replace h := seeNil_use h
    rcases h with h | ⟨rfl, h⟩
    · exact hC _ _ _ _ _ _ _ hS ha h
    exact cbody_use named C0_ok at16 (l := 1) rfl (LoopsOk.none _ _) (F16_ok  xs K) hS ha h
  · exact hC _ _ _ _ _ _ _ hS ha h
theorem at20 : Try.prog.funcs[20]? = some (fnOf Try.prog 20) := by kernel_rfl
abbrev Y20 : Type := Nat → List Int → List Int → (Bool → Prop) → (Prop) → Prop
def F20  (n : Nat) (xs : List Int) (ys : List Int) (k1 : Bool → Prop) (k2 : Prop) : Prop :=
  (bif ((decide ((0 : Int) ≤ (IntKind.wrap .i64 (((((List.length ys) - (0 : Nat)) : Nat) : Int) + (2 : Int))))) && (decide ((Int.toNat (IntKind.wrap .i64 (((((List.length ys) - (0 : Nat)) : Nat) : Int) + (2 : Int)))) ≤ ((List.length xs) - (0 : Nat))))) then (bif ((decide ((0 : Int) ≤ ((((List.length ys) - (0 : Nat)) : Nat) : Int))) && (decide ((Int.toNat ((((List.length ys) - (0 : Nat)) : Nat) : Int)) ≤ ((List.length xs) - (0 : Nat))))) then (bif ((List.take (Int.toNat ((((List.length ys) - (0 : Nat)) : Nat) : Int)) xs) == ys) then (bif ((decide ((0 : Int) ≤ ((((List.length ys) - (0 : Nat)) : Nat) : Int))) && (decide (((((List.length ys) - (0 : Nat)) : Nat) : Int) < (((Int.toNat (IntKind.wrap .i64 (((((List.length ys) - (0 : Nat)) : Nat) : Int) + (2 : Int)))) : Nat) : Int)))) then (bif ((List.getD xs (Int.toNat ((((List.length ys) - (0 : Nat)) : Nat) : Int)) (0 : Int)) == (201 : Int)) then (bif ((decide ((0 : Int) ≤ (IntKind.wrap .i64 (((((List.length ys) - (0 : Nat)) : Nat) : Int) + (1 : Int))))) && (decide ((IntKind.wrap .i64 (((((List.length ys) - (0 : Nat)) : Nat) : Int) + (1 : Int))) < (((Int.toNat (IntKind.wrap .i64 (((((List.length ys) - (0 : Nat)) : Nat) : Int) + (2 : Int)))) : Nat) : Int)))) then (k1 ((List.getD xs (Int.toNat (IntKind.wrap .i64 (((((List.length ys) - (0 : Nat)) : Nat) : Int) + (1 : Int)))) (0 : Int)) == (202 : Int))) else False) else (k2)) else False) else (k2)) else False) else False)
theorem F20_ok  (n : Nat) (xs : List Int) (ys : List Int) (K : V → Mem → Prop) : cbody Try.prog C0 (fun _ => none) 1000 (fnOf Try.prog 20) [(.sl 0 (0 : Nat) (some n) (none : Option Nat)), (.sl 1 (0 : Nat) (none : Option Nat) (none : Option Nat))] [⟨[.ints .u8 xs], 5, false, false⟩, ⟨[.ints .u8 ys], 5, true, false⟩] K =
    F20  n xs ys (fun (u0 : Bool) => K (.B u0) [⟨[.ints .u8 xs], 5, false, false⟩, ⟨[.ints .u8 ys], 5, true, false⟩]) (K (.B false) [⟨[.ints .u8 xs], 5, false, false⟩, ⟨[.ints .u8 ys], 5, true, false⟩]) := by kernel_rfl
def G20 : Y20 := F20 
def VT20 (f : Y20) (F : Prop) (args : List V) (m : Mem) (K : V → Mem → Prop) : Prop :=
  (seeCons args F fun a1 q2 => (seeSl 0 a1 F fun r3 l4 c5 => (seeN 0 r3 F (seeO l4 F fun n => (seeNo c5 F (seeCons q2 F fun a6 q7 => (seeV (.sl 1 (0 : Nat) (none : Option Nat) (none : Option Nat)) a6 F (seeNil q7 F (seeCons m F fun a8 q9 => (seeBlk 5 false false a8 F fun cs10 => (seeCons cs10 F fun a11 q12 => (seeInts .u8 a11 F fun xs => (seeNil q12 F (seeCons q9 F fun a13 q14 => (seeBlk 5 true false a13 F fun cs15 => (seeCons cs15 F fun a16 q17 => (seeInts .u8 a16 F fun ys => (seeNil q17 F (seeNil q14 F (f n xs ys (fun (u0 : Bool) => K (.B u0) [⟨[.ints .u8 xs], 5, false, false⟩, ⟨[.ints .u8 ys], 5, true, false⟩]) (K (.B false) [⟨[.ints .u8 xs], 5, false, false⟩, ⟨[.ints .u8 ys], 5, true, false⟩])))))))))))))))))))))
def T20 (f : Y20) (C : CC) : CC := fun g args m K =>
  match Nat.beq g 20 with
  | true => VT20 f (C g args m K) args m K
  | false => C g args m K
set_option maxRecDepth 100000 in
theorem T20_ok {C : CC} (hC : CallsOk Try.prog C) : CallsOk Try.prog (T20 G20 C) := by
  intro g args m K E w cargs hS ha h
  unfold T20 at h
  split at h
  · rename_i hg
    obtain rfl := Nat.eq_of_beq_eq_true hg
    unfold VT20 at h
    replace h := seeCons_use h
    rcases h with h | ⟨a1, q2, rfl, h⟩
    · exact hC _ _ _ _ _ _ _ hS ha h
    replace h := seeSl_use h
    rcases h with h | ⟨r3, l4, c5, rfl, h⟩
    · exact hC _ _ _ _ _ _ _ hS ha h
    replace h := seeN_use h
    rcases h with h | ⟨rfl, h⟩
    · exact hC _ _ _ _ _ _ _ hS ha h
    replace h := seeO_use h
    rcases h with h | ⟨n, rfl, h⟩
    · exact hC _ _ _ _ _ _ _ hS ha h
    replace h := seeNo_use h
    rcases h with h | ⟨rfl, h⟩
    · exact hC _ _ _ _ _ _ _ hS ha h
    replace h := seeCons_use h
    rcases h with h | ⟨a6, q7, rfl, h⟩
    · exact hC _ _ _ _ _ _ _ hS ha h
    replace h := seeV_use h
    rcases h with h | ⟨rfl, h⟩
    · exact hC _ _ _ _ _ _ _ hS ha h
    replace h := seeNil_use h
    rcases h with h | ⟨rfl, h⟩
    · exact hC _ _ _ _ _ _ _ hS ha h
    replace h := seeCons_use h
    rcases h with h | ⟨a8, q9, rfl, h⟩
    · exact hC _ _ _ _ _ _ _ hS ha h
    replace h := seeBlk_use h
    rcases h with h | ⟨cs10, rfl, h⟩
    · exact hC _ _ _ _ _ _ _ hS ha h
    replace h := seeCons_use h
    rcases h with h | ⟨a11, q12, rfl, h⟩
    · exact hC _ _ _ _ _ _ _ hS ha h
    replace h := seeInts_use h
    rcases h with h | ⟨xs, rfl, h⟩
    · exact hC _ _ _ _ _ _ _ hS ha h
    replace h := seeNil_use h
    rcases h with h | ⟨rfl, h⟩
    · exact hC _ _ _ _ _ _ _ hS ha h
    replace h := seeCons_use h
    rcases h with h | ⟨a13, q14, rfl, h⟩
    · exact hC _ _ _ _ _ _ _ hS ha h
    replace h := seeBlk_use h
    rcases h with h | ⟨cs15, rfl, h⟩
    · exact hC _ _ _ _ _ _ _ hS ha h
    replace h := seeCons_use h
    rcases h with h | ⟨a16, q17, rfl, h⟩
    · exact hC _ _ _ _ _ _ _ hS ha h
    replace h := seeInts_use h
    rcases h with h | ⟨ys, rfl, h⟩
    · exact hC _ _ _ _ _ _ _ hS ha h
    replace h := seeNil_use h
    rcases h with h | ⟨rfl, h⟩
    · exact hC _ _ _ _ _ _ _ hS ha h
    replace h := seeNil_use h
    rcases h with h | ⟨rfl, h⟩
    · exact hC _ _ _ _ _ _ _ hS ha h
    exact cbody_use named C0_ok at20 (l := 2) rfl (LoopsOk.none _ _) (F20_ok  n xs ys K) hS ha h
  · exact hC _ _ _ _ _ _ _ hS ha h
theorem at48 : Try.prog.funcs[48]? = some (fnOf Try.prog 48) := by kernel_rfl
abbrev Y48_1 : Type := Int → List Int → (Prop) → (Prop) → Prop
def F48_1  (p : Int) (xs : List Int) (k1 : Prop) (k2 : Prop) : Prop :=
  (bif (decide (p < (0 : Int))) then (k1) else (bif (decide (p > ((((List.length xs) - (0 : Nat)) : Nat) : Int))) then (k1) else (bif (decide ((16 : Int) > (IntKind.wrap .i64 (((((List.length xs) - (0 : Nat)) : Nat) : Int) - p)))) then (k1) else (bif ((decide ((0 : Int) ≤ (IntKind.wrap .i64 (p + (0 : Int))))) && (decide ((IntKind.wrap .i64 (p + (0 : Int))) < ((((List.length xs) - (0 : Nat)) : Nat) : Int)))) then (bif ((List.getD xs (Int.toNat (IntKind.wrap .i64 (p + (0 : Int)))) (0 : Int)) != (102 : Int)) then (k1) else (bif ((decide ((0 : Int) ≤ (IntKind.wrap .i64 (p + (1 : Int))))) && (decide ((IntKind.wrap .i64 (p + (1 : Int))) < ((((List.length xs) - (0 : Nat)) : Nat) : Int)))) then (bif ((List.getD xs (Int.toNat (IntKind.wrap .i64 (p + (1 : Int)))) (0 : Int)) != (72 : Int)) then (k1) else (bif ((decide ((0 : Int) ≤ (IntKind.wrap .i64 (p + (2 : Int))))) && (decide ((IntKind.wrap .i64 (p + (2 : Int))) < ((((List.length xs) - (0 : Nat)) : Nat) : Int)))) then (bif ((List.getD xs (Int.toNat (IntKind.wrap .i64 (p + (2 : Int)))) (0 : Int)) != (141 : Int)) then (k1) else (bif ((decide ((0 : Int) ≤ (IntKind.wrap .i64 (p + (3 : Int))))) && (decide ((IntKind.wrap .i64 (p + (3 : Int))) < ((((List.length xs) - (0 : Nat)) : Nat) : Int)))) then (bif ((List.getD xs (Int.toNat (IntKind.wrap .i64 (p + (3 : Int)))) (0 : Int)) != (61 : Int)) then (k1) else (bif ((decide ((0 : Int) ≤ (IntKind.wrap .i64 (p + (8 : Int))))) && (decide ((IntKind.wrap .i64 (p + (8 : Int))) < ((((List.length xs) - (0 : Nat)) : Nat) : Int)))) then (bif ((List.getD xs (Int.toNat (IntKind.wrap .i64 (p + (8 : Int)))) (0 : Int)) != (102 : Int)) then (k1) else (bif ((decide ((0 : Int) ≤ (IntKind.wrap .i64 (p + (9 : Int))))) && (decide ((IntKind.wrap .i64 (p + (9 : Int))) < ((((List.length xs) - (0 : Nat)) : Nat) : Int)))) then (bif ((List.getD xs (Int.toNat (IntKind.wrap .i64 (p + (9 : Int)))) (0 : Int)) != (102 : Int)) then (k1) else (bif ((decide ((0 : Int) ≤ (IntKind.wrap .i64 (p + (10 : Int))))) && (decide ((IntKind.wrap .i64 (p + (10 : Int))) < ((((List.length xs) - (0 : Nat)) : Nat) : Int)))) then (bif ((List.getD xs (Int.toNat (IntKind.wrap .i64 (p + (10 : Int)))) (0 : Int)) != (72 : Int)) then (k1) else (bif ((decide ((0 : Int) ≤ (IntKind.wrap .i64 (p + (11 : Int))))) && (decide ((IntKind.wrap .i64 (p + (11 : Int))) < ((((List.length xs) - (0 : Nat)) : Nat) : Int)))) then (bif ((List.getD xs (Int.toNat (IntKind.wrap .i64 (p + (11 : Int)))) (0 : Int)) != (232 : Int)) then (k1) else (k2)) else False)) else False)) else False)) else False)) else False)) else False)) else False)) else False))))
theorem F48_1_ok  (p : Int) (xs : List Int) (K : V → Mem → Prop) : cbody Try.prog C0 (fun _ => none) 1000 (fnOf Try.prog 48) [(.sl 0 (0 : Nat) (none : Option Nat) (none : Option Nat)), (.I .i64 p), (.I .i64 (1 : Int)), (.I .i64 (0 : Int))] [⟨[.ints .u8 xs], 5, true, false⟩] K =
    F48_1  p xs (K (.B false) [⟨[.ints .u8 xs], 5, true, false⟩]) (K (.B true) [⟨[.ints .u8 xs], 5, true, false⟩]) := by kernel_rfl
def G48_1 : Y48_1 := F48_1 
def VT48_1 (f : Y48_1) (F : Prop) (args : List V) (m : Mem) (K : V → Mem → Prop) : Prop :=
  (seeCons args F fun a1 q2 => (seeV (.sl 0 (0 : Nat) (none : Option Nat) (none : Option Nat)) a1 F (seeCons q2 F fun a3 q4 => (seeI .i64 a3 F fun p => (seeCons q4 F fun a5 q6 => (seeV (.I .i64 (1 : Int)) a5 F (seeCons q6 F fun a7 q8 => (seeV (.I .i64 (0 : Int)) a7 F (seeNil q8 F (seeCons m F fun a9 q10 => (seeBlk 5 true false a9 F fun cs11 => (seeCons cs11 F fun a12 q13 => (seeInts .u8 a12 F fun xs => (seeNil q13 F (seeNil q10 F (f p xs (K (.B false) [⟨[.ints .u8 xs], 5, true, false⟩]) (K (.B true) [⟨[.ints .u8 xs], 5, true, false⟩])))))))))))))))))
def T48_1 (f : Y48_1) (C : CC) : CC := fun g args m K =>
  match Nat.beq g 48 with
  | true => VT48_1 f (C g args m K) args m K
  | false => C g args m K
set_option maxRecDepth 100000 in
theorem T48_1_ok {C : CC} (hC : CallsOk Try.prog C) : CallsOk Try.prog (T48_1 G48_1 C) := by
  intro g args m K E w cargs hS ha h
  unfold T48_1 at h
  split at h
  · rename_i hg
    obtain rfl := Nat.eq_of_beq_eq_true hg
    unfold VT48_1 at h
    replace h := seeCons_use h
    rcases h with h | ⟨a1, q2, rfl, h⟩
    · exact hC _ _ _ _ _ _ _ hS ha h
    replace h := seeV_use h
    rcases h with h | ⟨rfl, h⟩
    · exact hC _ _ _ _ _ _ _ hS ha h
    replace h := seeCons_use h
    rcases h with h | ⟨a3, q4, rfl, h⟩
    · exact hC _ _ _ _ _ _ _ hS ha h
    replace h := seeI_use h
    rcases h with h | ⟨p, rfl, h⟩
    · exact hC _ _ _ _ _ _ _ hS ha h
    replace h := seeCons_use h
    rcases h with h | ⟨a5, q6, rfl, h⟩
    · exact hC _ _ _ _ _ _ _ hS ha h
    replace h := seeV_use h
    rcases h with h | ⟨rfl, h⟩
    · exact hC _ _ _ _ _ _ _ hS ha h
    replace h := seeCons_use h
    rcases h with h | ⟨a7, q8, rfl, h⟩
    · exact hC _ _ _ _ _ _ _ hS ha h
    replace h := seeV_use h
    rcases h with h | ⟨rfl, h⟩
    · exact hC _ _ _ _ _ _ _ hS ha h
    replace h := seeNil_use h
    rcases h with h | ⟨rfl, h⟩
    · exact hC _ _ _ _ _ _ _ hS ha h
    replace h := seeCons_use h
    rcases h with h | ⟨a9, q10, rfl, h⟩
    · exact hC _ _ _ _ _ _ _ hS ha h
    replace h := seeBlk_use h
    rcases h with h | ⟨cs11, rfl, h⟩
    · exact hC _ _ _ _ _ _ _ hS ha h
    replace h := seeCons_use h
    rcases h with h | ⟨a12, q13, rfl, h⟩
    · exact hC _ _ _ _ _ _ _ hS ha h
    replace h := seeInts_use h
    rcases h with h | ⟨xs, rfl, h⟩
    · exact hC _ _ _ _ _ _ _ hS ha h
    replace h := seeNil_use h
    rcases h with h | ⟨rfl, h⟩
    · exact hC _ _ _ _ _ _ _ hS ha h
    replace h := seeNil_use h
    rcases h with h | ⟨rfl, h⟩
    · exact hC _ _ _ _ _ _ _ hS ha h
    exact cbody_use named C0_ok at48 (l := 1) rfl (LoopsOk.none _ _) (F48_1_ok  p xs K) hS ha h
  · exact hC _ _ _ _ _ _ _ hS ha h
abbrev Y48_2 : Type := Int → List Int → (Prop) → (Prop) → Prop
def F48_2  (p : Int) (xs : List Int) (k1 : Prop) (k2 : Prop) : Prop :=
  (bif (decide (p < (0 : Int))) then (k1) else (bif (decide (p > ((((List.length xs) - (0 : Nat)) : Nat) : Int))) then (k1) else (bif (decide ((12 : Int) > (IntKind.wrap .i64 (((((List.length xs) - (0 : Nat)) : Nat) : Int) - p)))) then (k1) else (bif ((decide ((0 : Int) ≤ (IntKind.wrap .i64 (p + (0 : Int))))) && (decide ((IntKind.wrap .i64 (p + (0 : Int))) < ((((List.length xs) - (0 : Nat)) : Nat) : Int)))) then (bif ((List.getD xs (Int.toNat (IntKind.wrap .i64 (p + (0 : Int)))) (0 : Int)) != (72 : Int)) then (k1) else (bif ((decide ((0 : Int) ≤ (IntKind.wrap .i64 (p + (1 : Int))))) && (decide ((IntKind.wrap .i64 (p + (1 : Int))) < ((((List.length xs) - (0 : Nat)) : Nat) : Int)))) then (bif ((List.getD xs (Int.toNat (IntKind.wrap .i64 (p + (1 : Int)))) (0 : Int)) != (141 : Int)) then (k1) else (bif ((decide ((0 : Int) ≤ (IntKind.wrap .i64 (p + (2 : Int))))) && (decide ((IntKind.wrap .i64 (p + (2 : Int))) < ((((List.length xs) - (0 : Nat)) : Nat) : Int)))) then (bif ((List.getD xs (Int.toNat (IntKind.wrap .i64 (p + (2 : Int)))) (0 : Int)) != (61 : Int)) then (k1) else (bif ((decide ((0 : Int) ≤ (IntKind.wrap .i64 (p + (7 : Int))))) && (decide ((IntKind.wrap .i64 (p + (7 : Int))) < ((((List.length xs) - (0 : Nat)) : Nat) : Int)))) then (bif ((List.getD xs (Int.toNat (IntKind.wrap .i64 (p + (7 : Int)))) (0 : Int)) != (232 : Int)) then (k1) else (k2)) else False)) else False)) else False)) else False))))
theorem F48_2_ok  (p : Int) (xs : List Int) (K : V → Mem → Prop) : cbody Try.prog C0 (fun _ => none) 1000 (fnOf Try.prog 48) [(.sl 0 (0 : Nat) (none : Option Nat) (none : Option Nat)), (.I .i64 p), (.I .i64 (2 : Int)), (.I .i64 (0 : Int))] [⟨[.ints .u8 xs], 5, true, false⟩] K =
    F48_2  p xs (K (.B false) [⟨[.ints .u8 xs], 5, true, false⟩]) (K (.B true) [⟨[.ints .u8 xs], 5, true, false⟩]) := by kernel_rfl
def G48_2 : Y48_2 := F48_2 
def VT48_2 (f : Y48_2) (F : Prop) (args : List V) (m : Mem) (K : V → Mem → Prop) : Prop :=
  (seeCons args F fun a1 q2 => (seeV (.sl 0 (0 : Nat) (none : Option Nat) (none : Option Nat)) a1 F (seeCons q2 F fun a3 q4 => (seeI .i64 a3 F fun p => (seeCons q4 F fun a5 q6 => (seeV (.I .i64 (2 : Int)) a5 F (seeCons q6 F fun a7 q8 => (seeV (.I .i64 (0 : Int)) a7 F (seeNil q8 F (seeCons m F fun a9 q10 => (seeBlk 5 true false a9 F fun cs11 => (seeCons cs11 F fun a12 q13 => (seeInts .u8 a12 F fun xs => (seeNil q13 F (seeNil q10 F (f p xs (K (.B false) [⟨[.ints .u8 xs], 5, true, false⟩]) (K (.B true) [⟨[.ints .u8 xs], 5, true, false⟩])))))))))))))))))
def T48_2 (f : Y48_2) (C : CC) : CC := fun g args m K =>
  match Nat.beq g 48 with
  | true => VT48_2 f (C g args m K) args m K
  | false => C g args m K
set_option maxRecDepth 100000 in
theorem T48_2_ok {C : CC} (hC : CallsOk Try.prog C) : CallsOk Try.prog (T48_2 G48_2 C) := by
  intro g args m K E w cargs hS ha h
  unfold T48_2 at h
  split at h
  · rename_i hg
    obtain rfl := Nat.eq_of_beq_eq_true hg
    unfold VT48_2 at h
    replace h := seeCons_use h
    rcases h with h | ⟨a1, q2, rfl, h⟩
    · exact hC _ _ _ _ _ _ _ hS ha h
    replace h := seeV_use h
    rcases h with h | ⟨rfl, h⟩
    · exact hC _ _ _ _ _ _ _ hS ha h
    replace h := seeCons_use h
    rcases h with h | ⟨a3, q4, rfl, h⟩
    · exact hC _ _ _ _ _ _ _ hS ha h
    replace h := seeI_use h
    rcases h with h | ⟨p, rfl, h⟩
    · exact hC _ _ _ _ _ _ _ hS ha h
    replace h := seeCons_use h
    rcases h with h | ⟨a5, q6, rfl, h⟩
    · exact hC _ _ _ _ _ _ _ hS ha h
    replace h := seeV_use h
    rcases h with h | ⟨rfl, h⟩
    · exact hC _ _ _ _ _ _ _ hS ha h
    replace h := seeCons_use h
    rcases h with h | ⟨a7, q8, rfl, h⟩
    · exact hC _ _ _ _ _ _ _ hS ha h
    replace h := seeV_use h
    rcases h with h | ⟨rfl, h⟩
    · exact hC _ _ _ _ _ _ _ hS ha h
    replace h := seeNil_use h
    rcases h with h | ⟨rfl, h⟩
    · exact hC _ _ _ _ _ _ _ hS ha h
    replace h := seeCons_use h
    rcases h with h | ⟨a9, q10, rfl, h⟩
    · exact hC _ _ _ _ _ _ _ hS ha h
    replace h := seeBlk_use h
    rcases h with h | ⟨cs11, rfl, h⟩
    · exact hC _ _ _ _ _ _ _ hS ha h
    replace h := seeCons_use h
    rcases h with h | ⟨a12, q13, rfl, h⟩
    · exact hC _ _ _ _ _ _ _ hS ha h
    replace h := seeInts_use h
    rcases h with h | ⟨xs, rfl, h⟩
    · exact hC _ _ _ _ _ _ _ hS ha h
    replace h := seeNil_use h
    rcases h with h | ⟨rfl, h⟩
    · exact hC _ _ _ _ _ _ _ hS ha h
    replace h := seeNil_use h
    rcases h with h | ⟨rfl, h⟩
    · exact hC _ _ _ _ _ _ _ hS ha h
    exact cbody_use named C0_ok at48 (l := 1) rfl (LoopsOk.none _ _) (F48_2_ok  p xs K) hS ha h
  · exact hC _ _ _ _ _ _ _ hS ha h
abbrev Y48_3_0 : Type := Int → List Int → (Prop) → (Prop) → Prop
def F48_3_0  (p : Int) (xs : List Int) (k1 : Prop) (k2 : Prop) : Prop :=
  (bif (decide (p < (0 : Int))) then (k1) else (bif (decide (p > ((((List.length xs) - (0 : Nat)) : Nat) : Int))) then (k1) else (bif (decide ((7 : Int) > (IntKind.wrap .i64 (((((List.length xs) - (0 : Nat)) : Nat) : Int) - p)))) then (k1) else (bif ((decide ((0 : Int) ≤ (IntKind.wrap .i64 (p + (0 : Int))))) && (decide ((IntKind.wrap .i64 (p + (0 : Int))) < ((((List.length xs) - (0 : Nat)) : Nat) : Int)))) then (bif ((List.getD xs (Int.toNat (IntKind.wrap .i64 (p + (0 : Int)))) (0 : Int)) != (72 : Int)) then (k1) else (bif ((decide ((0 : Int) ≤ (IntKind.wrap .i64 (p + (1 : Int))))) && (decide ((IntKind.wrap .i64 (p + (1 : Int))) < ((((List.length xs) - (0 : Nat)) : Nat) : Int)))) then (bif ((List.getD xs (Int.toNat (IntKind.wrap .i64 (p + (1 : Int)))) (0 : Int)) != (139 : Int)) then (k1) else (bif ((decide ((0 : Int) ≤ (IntKind.wrap .i64 (p + (2 : Int))))) && (decide ((IntKind.wrap .i64 (p + (2 : Int))) < ((((List.length xs) - (0 : Nat)) : Nat) : Int)))) then (bif ((List.getD xs (Int.toNat (IntKind.wrap .i64 (p + (2 : Int)))) (0 : Int)) != (5 : Int)) then (k1) else (k2)) else False)) else False)) else False))))
theorem F48_3_0_ok  (p : Int) (xs : List Int) (K : V → Mem → Prop) : cbody Try.prog C0 (fun _ => none) 1000 (fnOf Try.prog 48) [(.sl 0 (0 : Nat) (none : Option Nat) (none : Option Nat)), (.I .i64 p), (.I .i64 (3 : Int)), (.I .i64 (0 : Int))] [⟨[.ints .u8 xs], 5, true, false⟩] K =
    F48_3_0  p xs (K (.B false) [⟨[.ints .u8 xs], 5, true, false⟩]) (K (.B true) [⟨[.ints .u8 xs], 5, true, false⟩]) := by kernel_rfl
def G48_3_0 : Y48_3_0 := F48_3_0 
def VT48_3_0 (f : Y48_3_0) (F : Prop) (args : List V) (m : Mem) (K : V → Mem → Prop) : Prop :=
  (seeCons args F fun a1 q2 => (seeV (.sl 0 (0 : Nat) (none : Option Nat) (none : Option Nat)) a1 F (seeCons q2 F fun a3 q4 => (seeI .i64 a3 F fun p => (seeCons q4 F fun a5 q6 => (seeV (.I .i64 (3 : Int)) a5 F (seeCons q6 F fun a7 q8 => (seeV (.I .i64 (0 : Int)) a7 F (seeNil q8 F (seeCons m F fun a9 q10 => (seeBlk 5 true false a9 F fun cs11 => (seeCons cs11 F fun a12 q13 => (seeInts .u8 a12 F fun xs => (seeNil q13 F (seeNil q10 F (f p xs (K (.B false) [⟨[.ints .u8 xs], 5, true, false⟩]) (K (.B true) [⟨[.ints .u8 xs], 5, true, false⟩])))))))))))))))))
def T48_3_0 (f : Y48_3_0) (C : CC) : CC := fun g args m K =>
  match Nat.beq g 48 with
  | true => VT48_3_0 f (C g args m K) args m K
  | false => C g args m K
set_option maxRecDepth 100000 in
theorem T48_3_0_ok {C : CC} (hC : CallsOk Try.prog C) : CallsOk Try.prog (T48_3_0 G48_3_0 C) := by
  intro g args m K E w cargs hS ha h
  unfold T48_3_0 at h
  split at h
  · rename_i hg
    obtain rfl := Nat.eq_of_beq_eq_true hg
    unfold VT48_3_0 at h
    replace h := seeCons_use h
    rcases h with h | ⟨a1, q2, rfl, h⟩
    · exact hC _ _ _ _ _ _ _ hS ha h
    replace h := seeV_use h
    rcases h with h | ⟨rfl, h⟩
    · exact hC _ _ _ _ _ _ _ hS ha h
    replace h := seeCons_use h
    rcases h with h | ⟨a3, q4, rfl, h⟩
    · exact hC _ _ _ _ _ _ _ hS ha h
    replace h := seeI_use h
    rcases h with h | ⟨p, rfl, h⟩
    · exact hC _ _ _ _ _ _ _ hS ha h
    replace h := seeCons_use h
    rcases h with h | ⟨a5, q6, rfl, h⟩
    · exact hC _ _ _ _ _ _ _ hS ha h
    replace h := seeV_use h
    rcases h with h | ⟨rfl, h⟩
    · exact hC _ _ _ _ _ _ _ hS ha h
    replace h := seeCons_use h
    rcases h with h | ⟨a7, q8, rfl, h⟩
    · exact hC _ _ _ _ _ _ _ hS ha h
    replace h := seeV_use h
    rcases h with h | ⟨rfl, h⟩
    · exact hC _ _ _ _ _ _ _ hS ha h
    replace h := seeNil_use h
    rcases h with h | ⟨rfl, h⟩
    · exact hC _ _ _ _ _ _ _ hS ha h
    replace h := seeCons_use h
    rcases h with h | ⟨a9, q10, rfl, h⟩
    · exact hC _ _ _ _ _ _ _ hS ha h
    replace h := seeBlk_use h
    rcases h with h | ⟨cs11, rfl, h⟩
    · exact hC _ _ _ _ _ _ _ hS ha h
    replace h := seeCons_use h
    rcases h with h | ⟨a12, q13, rfl, h⟩
    · exact hC _ _ _ _ _ _ _ hS ha h
    replace h := seeInts_use h
    rcases h with h | ⟨xs, rfl, h⟩
    · exact hC _ _ _ _ _ _ _ hS ha h
    replace h := seeNil_use h
    rcases h with h | ⟨rfl, h⟩
    · exact hC _ _ _ _ _ _ _ hS ha h
    replace h := seeNil_use h
    rcases h with h | ⟨rfl, h⟩
    · exact hC _ _ _ _ _ _ _ hS ha h
    exact cbody_use named C0_ok at48 (l := 1) rfl (LoopsOk.none _ _) (F48_3_0_ok  p xs K) hS ha h
  · exact hC _ _ _ _ _ _ _ hS ha h
abbrev Y48_3_1 : Type := Int → List Int → (Prop) → (Prop) → Prop
def F48_3_1  (p : Int) (xs : List Int) (k1 : Prop) (k2 : Prop) : Prop :=
  (bif (decide (p < (0 : Int))) then (k1) else (bif (decide (p > ((((List.length xs) - (0 : Nat)) : Nat) : Int))) then (k1) else (bif (decide ((7 : Int) > (IntKind.wrap .i64 (((((List.length xs) - (0 : Nat)) : Nat) : Int) - p)))) then (k1) else (bif ((decide ((0 : Int) ≤ (IntKind.wrap .i64 (p + (0 : Int))))) && (decide ((IntKind.wrap .i64 (p + (0 : Int))) < ((((List.length xs) - (0 : Nat)) : Nat) : Int)))) then (bif ((List.getD xs (Int.toNat (IntKind.wrap .i64 (p + (0 : Int)))) (0 : Int)) != (72 : Int)) then (k1) else (bif ((decide ((0 : Int) ≤ (IntKind.wrap .i64 (p + (1 : Int))))) && (decide ((IntKind.wrap .i64 (p + (1 : Int))) < ((((List.length xs) - (0 : Nat)) : Nat) : Int)))) then (bif ((List.getD xs (Int.toNat (IntKind.wrap .i64 (p + (1 : Int)))) (0 : Int)) != (139 : Int)) then (k1) else (bif ((decide ((0 : Int) ≤ (IntKind.wrap .i64 (p + (2 : Int))))) && (decide ((IntKind.wrap .i64 (p + (2 : Int))) < ((((List.length xs) - (0 : Nat)) : Nat) : Int)))) then (bif ((List.getD xs (Int.toNat (IntKind.wrap .i64 (p + (2 : Int)))) (0 : Int)) != (13 : Int)) then (k1) else (k2)) else False)) else False)) else False))))
theorem F48_3_1_ok  (p : Int) (xs : List Int) (K : V → Mem → Prop) : cbody Try.prog C0 (fun _ => none) 1000 (fnOf Try.prog 48) [(.sl 0 (0 : Nat) (none : Option Nat) (none : Option Nat)), (.I .i64 p), (.I .i64 (3 : Int)), (.I .i64 (1 : Int))] [⟨[.ints .u8 xs], 5, true, false⟩] K =
    F48_3_1  p xs (K (.B false) [⟨[.ints .u8 xs], 5, true, false⟩]) (K (.B true) [⟨[.ints .u8 xs], 5, true, false⟩]) := by kernel_rfl
def G48_3_1 : Y48_3_1 := F48_3_1 
def VT48_3_1 (f : Y48_3_1) (F : Prop) (args : List V) (m : Mem) (K : V → Mem → Prop) : Prop :=
  (seeCons args F fun a1 q2 => (seeV (.sl 0 (0 : Nat) (none : Option Nat) (none : Option Nat)) a1 F (seeCons q2 F fun a3 q4 => (seeI .i64 a3 F fun p => (seeCons q4 F fun a5 q6 => (seeV (.I .i64 (3 : Int)) a5 F (seeCons q6 F fun a7 q8 => (seeV (.I .i64 (1 : Int)) a7 F (seeNil q8 F (seeCons m F fun a9 q10 => (seeBlk 5 true false a9 F fun cs11 => (seeCons cs11 F fun a12 q13 => (seeInts .u8 a12 F fun xs => (seeNil q13 F (seeNil q10 F (f p xs (K (.B false) [⟨[.ints .u8 xs], 5, true, false⟩]) (K (.B true) [⟨[.ints .u8 xs], 5, true, false⟩])))))))))))))))))
def T48_3_1 (f : Y48_3_1) (C : CC) : CC := fun g args m K =>
  match Nat.beq g 48 with
  | true => VT48_3_1 f (C g args m K) args m K
  | false => C g args m K
set_option maxRecDepth 100000 in
theorem T48_3_1_ok {C : CC} (hC : CallsOk Try.prog C) : CallsOk Try.prog (T48_3_1 G48_3_1 C) := by
  intro g args m K E w cargs hS ha h
  unfold T48_3_1 at h
  split at h
  · rename_i hg
    obtain rfl := Nat.eq_of_beq_eq_true hg
    unfold VT48_3_1 at h
    replace h := seeCons_use h
    rcases h with h | ⟨a1, q2, rfl, h⟩
    · exact hC _ _ _ _ _ _ _ hS ha h
    replace h := seeV_use h
    rcases h with h | ⟨rfl, h⟩
    · exact hC _ _ _ _ _ _ _ hS ha h
    replace h := seeCons_use h
    rcases h with h | ⟨a3, q4, rfl, h⟩
    · exact hC _ _ _ _ _ _ _ hS ha h
    replace h := seeI_use h
    rcases h with h | ⟨p, rfl, h⟩
    · exact hC _ _ _ _ _ _ _ hS ha h
    replace h := seeCons_use h
    rcases h with h | ⟨a5, q6, rfl, h⟩
    · exact hC _ _ _ _ _ _ _ hS ha h
    replace h := seeV_use h
    rcases h with h | ⟨rfl, h⟩
    · exact hC _ _ _ _ _ _ _ hS ha h
    replace h := seeCons_use h
    rcases h with h | ⟨a7, q8, rfl, h⟩
    · exact hC _ _ _ _ _ _ _ hS ha h
    replace h := seeV_use h
    rcases h with h | ⟨rfl, h⟩
    · exact hC _ _ _ _ _ _ _ hS ha h
    replace h := seeNil_use h
    rcases h with h | ⟨rfl, h⟩
    · exact hC _ _ _ _ _ _ _ hS ha h
    replace h := seeCons_use h
    rcases h with h | ⟨a9, q10, rfl, h⟩
    · exact hC _ _ _ _ _ _ _ hS ha h
    replace h := seeBlk_use h
    rcases h with h | ⟨cs11, rfl, h⟩
    · exact hC _ _ _ _ _ _ _ hS ha h
    replace h := seeCons_use h
    rcases h with h | ⟨a12, q13, rfl, h⟩
    · exact hC _ _ _ _ _ _ _ hS ha h
    replace h := seeInts_use h
    rcases h with h | ⟨xs, rfl, h⟩
    · exact hC _ _ _ _ _ _ _ hS ha h
    replace h := seeNil_use h
    rcases h with h | ⟨rfl, h⟩
    · exact hC _ _ _ _ _ _ _ hS ha h
    replace h := seeNil_use h
    rcases h with h | ⟨rfl, h⟩
    · exact hC _ _ _ _ _ _ _ hS ha h
    exact cbody_use named C0_ok at48 (l := 1) rfl (LoopsOk.none _ _) (F48_3_1_ok  p xs K) hS ha h
  · exact hC _ _ _ _ _ _ _ hS ha h
abbrev Y48_3_2 : Type := Int → List Int → (Prop) → (Prop) → Prop
def F48_3_2  (p : Int) (xs : List Int) (k1 : Prop) (k2 : Prop) : Prop :=
  (bif (decide (p < (0 : Int))) then (k1) else (bif (decide (p > ((((List.length xs) - (0 : Nat)) : Nat) : Int))) then (k1) else (bif (decide ((7 : Int) > (IntKind.wrap .i64 (((((List.length xs) - (0 : Nat)) : Nat) : Int) - p)))) then (k1) else (bif ((decide ((0 : Int) ≤ (IntKind.wrap .i64 (p + (0 : Int))))) && (decide ((IntKind.wrap .i64 (p + (0 : Int))) < ((((List.length xs) - (0 : Nat)) : Nat) : Int)))) then (bif ((List.getD xs (Int.toNat (IntKind.wrap .i64 (p + (0 : Int)))) (0 : Int)) != (72 : Int)) then (k1) else (bif ((decide ((0 : Int) ≤ (IntKind.wrap .i64 (p + (1 : Int))))) && (decide ((IntKind.wrap .i64 (p + (1 : Int))) < ((((List.length xs) - (0 : Nat)) : Nat) : Int)))) then (bif ((List.getD xs (Int.toNat (IntKind.wrap .i64 (p + (1 : Int)))) (0 : Int)) != (139 : Int)) then (k1) else (bif ((decide ((0 : Int) ≤ (IntKind.wrap .i64 (p + (2 : Int))))) && (decide ((IntKind.wrap .i64 (p + (2 : Int))) < ((((List.length xs) - (0 : Nat)) : Nat) : Int)))) then (bif ((List.getD xs (Int.toNat (IntKind.wrap .i64 (p + (2 : Int)))) (0 : Int)) != (21 : Int)) then (k1) else (k2)) else False)) else False)) else False))))
theorem F48_3_2_ok  (p : Int) (xs : List Int) (K : V → Mem → Prop) : cbody Try.prog C0 (fun _ => none) 1000 (fnOf Try.prog 48) [(.sl 0 (0 : Nat) (none : Option Nat) (none : Option Nat)), (.I .i64 p), (.I .i64 (3 : Int)), (.I .i64 (2 : Int))] [⟨[.ints .u8 xs], 5, true, false⟩] K =
    F48_3_2  p xs (K (.B false) [⟨[.ints .u8 xs], 5, true, false⟩]) (K (.B true) [⟨[.ints .u8 xs], 5, true, false⟩]) := by kernel_rfl
def G48_3_2 : Y48_3_2 := F48_3_2 
def VT48_3_2 (f : Y48_3_2) (F : Prop) (args : List V) (m : Mem) (K : V → Mem → Prop) : Prop :=
  (seeCons args F fun a1 q2 => (seeV (.sl 0 (0 : Nat) (none : Option Nat) (none : Option Nat)) a1 F (seeCons q2 F fun a3 q4 => (seeI .i64 a3 F fun p => (seeCons q4 F fun a5 q6 => (seeV (.I .i64 (3 : Int)) a5 F (seeCons q6 F fun a7 q8 => (seeV (.I .i64 (2 : Int)) a7 F (seeNil q8 F (seeCons m F fun a9 q10 => (seeBlk 5 true false a9 F fun cs11 => (seeCons cs11 F fun a12 q13 => (seeInts .u8 a12 F fun xs => (seeNil q13 F (seeNil q10 F (f p xs (K (.B false) [⟨[.ints .u8 xs], 5, true, false⟩]) (K (.B true) [⟨[.ints .u8 xs], 5, true, false⟩])))))))))))))))))
def T48_3_2 (f : Y48_3_2) (C : CC) : CC := fun g args m K =>
  match Nat.beq g 48 with
  | true => VT48_3_2 f (C g args m K) args m K
  | false => C g args m K
set_option maxRecDepth 100000 in
theorem T48_3_2_ok {C : CC} (hC : CallsOk Try.prog C) : CallsOk Try.prog (T48_3_2 G48_3_2 C) := by
  intro g args m K E w cargs hS ha h
  unfold T48_3_2 at h
  split at h
  · rename_i hg
    obtain rfl := Nat.eq_of_beq_eq_true hg
    unfold VT48_3_2 at h
    replace h := seeCons_use h
    rcases h with h | ⟨a1, q2, rfl, h⟩
    · exact hC _ _ _ _ _ _ _ hS ha h
    replace h := seeV_use h
    rcases h with h | ⟨rfl, h⟩
    · exact hC _ _ _ _ _ _ _ hS ha h
    replace h := seeCons_use h
    rcases h with h | ⟨a3, q4, rfl, h⟩
    · exact hC _ _ _ _ _ _ _ hS ha h
    replace h := seeI_use h
    rcases h with h | ⟨p, rfl, h⟩
    · exact hC _ _ _ _ _ _ _ hS ha h
    replace h := seeCons_use h
    rcases h with h | ⟨a5, q6, rfl, h⟩
    · exact hC _ _ _ _ _ _ _ hS ha h
    replace h := seeV_use h
    rcases h with h | ⟨rfl, h⟩
    · exact hC _ _ _ _ _ _ _ hS ha h
    replace h := seeCons_use h
    rcases h with h | ⟨a7, q8, rfl, h⟩
    · exact hC _ _ _ _ _ _ _ hS ha h
    replace h := seeV_use h
    rcases h with h | ⟨rfl, h⟩
    · exact hC _ _ _ _ _ _ _ hS ha h
    replace h := seeNil_use h
    rcases h with h | ⟨rfl, h⟩
    · exact hC _ _ _ _ _ _ _ hS ha h
    replace h := seeCons_use h
    rcases h with h | ⟨a9, q10, rfl, h⟩
    · exact hC _ _ _ _ _ _ _ hS ha h
    replace h := seeBlk_use h
    rcases h with h | ⟨cs11, rfl, h⟩
    · exact hC _ _ _ _ _ _ _ hS ha h
    replace h := seeCons_use h
    rcases h with h | ⟨a12, q13, rfl, h⟩
    · exact hC _ _ _ _ _ _ _ hS ha h
    replace h := seeInts_use h
    rcases h with h | ⟨xs, rfl, h⟩
    · exact hC _ _ _ _ _ _ _ hS ha h
    replace h := seeNil_use h
    rcases h with h | ⟨rfl, h⟩
    · exact hC _ _ _ _ _ _ _ hS ha h
    replace h := seeNil_use h
    rcases h with h | ⟨rfl, h⟩
    · exact hC _ _ _ _ _ _ _ hS ha h
    exact cbody_use named C0_ok at48 (l := 1) rfl (LoopsOk.none _ _) (F48_3_2_ok  p xs K) hS ha h
  · exact hC _ _ _ _ _ _ _ hS ha h
abbrev Y48_3_3 : Type := Int → List Int → (Prop) → (Prop) → Prop
def F48_3_3  (p : Int) (xs : List Int) (k1 : Prop) (k2 : Prop) : Prop :=
  (bif (decide (p < (0 : Int))) then (k1) else (bif (decide (p > ((((List.length xs) - (0 : Nat)) : Nat) : Int))) then (k1) else (bif (decide ((7 : Int) > (IntKind.wrap .i64 (((((List.length xs) - (0 : Nat)) : Nat) : Int) - p)))) then (k1) else (bif ((decide ((0 : Int) ≤ (IntKind.wrap .i64 (p + (0 : Int))))) && (decide ((IntKind.wrap .i64 (p + (0 : Int))) < ((((List.length xs) - (0 : Nat)) : Nat) : Int)))) then (bif ((List.getD xs (Int.toNat (IntKind.wrap .i64 (p + (0 : Int)))) (0 : Int)) != (72 : Int)) then (k1) else (bif ((decide ((0 : Int) ≤ (IntKind.wrap .i64 (p + (1 : Int))))) && (decide ((IntKind.wrap .i64 (p + (1 : Int))) < ((((List.length xs) - (0 : Nat)) : Nat) : Int)))) then (bif ((List.getD xs (Int.toNat (IntKind.wrap .i64 (p + (1 : Int)))) (0 : Int)) != (139 : Int)) then (k1) else (bif ((decide ((0 : Int) ≤ (IntKind.wrap .i64 (p + (2 : Int))))) && (decide ((IntKind.wrap .i64 (p + (2 : Int))) < ((((List.length xs) - (0 : Nat)) : Nat) : Int)))) then (bif ((List.getD xs (Int.toNat (IntKind.wrap .i64 (p + (2 : Int)))) (0 : Int)) != (29 : Int)) then (k1) else (k2)) else False)) else False)) else False))))
theorem F48_3_3_ok  (p : Int) (xs : List Int) (K : V → Mem → Prop) : cbody Try.prog C0 (fun _ => none) 1000 (fnOf Try.prog 48) [(.sl 0 (0 : Nat) (none : Option Nat) (none : Option Nat)), (.I .i64 p), (.I .i64 (3 : Int)), (.I .i64 (3 : Int))] [⟨[.ints .u8 xs], 5, true, false⟩] K =
    F48_3_3  p xs (K (.B false) [⟨[.ints .u8 xs], 5, true, false⟩]) (K (.B true) [⟨[.ints .u8 xs], 5, true, false⟩]) := by kernel_rfl
def G48_3_3 : Y48_3_3 := F48_3_3 
def VT48_3_3 (f : Y48_3_3) (F : Prop) (args : List V) (m : Mem) (K : V → Mem → Prop) : Prop :=
  (seeCons args F fun a1 q2 => (seeV (.sl 0 (0 : Nat) (none : Option Nat) (none : Option Nat)) a1 F (seeCons q2 F fun a3 q4 => (seeI .i64 a3 F fun p => (seeCons q4 F fun a5 q6 => (seeV (.I .i64 (3 : Int)) a5 F (seeCons q6 F fun a7 q8 => (seeV (.I .i64 (3 : Int)) a7 F (seeNil q8 F (seeCons m F fun a9 q10 => (seeBlk 5 true false a9 F fun cs11 => (seeCons cs11 F fun a12 q13 => (seeInts .u8 a12 F fun xs => (seeNil q13 F (seeNil q10 F (f p xs (K (.B false) [⟨[.ints .u8 xs], 5, true, false⟩]) (K (.B true) [⟨[.ints .u8 xs], 5, true, false⟩])))))))))))))))))
def T48_3_3 (f : Y48_3_3) (C : CC) : CC := fun g args m K =>
  match Nat.beq g 48 with
  | true => VT48_3_3 f (C g args m K) args m K
  | false => C g args m K
set_option maxRecDepth 100000 in
theorem T48_3_3_ok {C : CC} (hC : CallsOk Try.prog C) : CallsOk Try.prog (T48_3_3 G48_3_3 C) := by
  intro g args m K E w cargs hS ha h
  unfold T48_3_3 at h
  split at h
  · rename_i hg
    obtain rfl := Nat.eq_of_beq_eq_true hg
    unfold VT48_3_3 at h
    replace h := seeCons_use h
    rcases h with h | ⟨a1, q2, rfl, h⟩
    · exact hC _ _ _ _ _ _ _ hS ha h
    replace h := seeV_use h
    rcases h with h | ⟨rfl, h⟩
    · exact hC _ _ _ _ _ _ _ hS ha h
    replace h := seeCons_use h
    rcases h with h | ⟨a3, q4, rfl, h⟩
    · exact hC _ _ _ _ _ _ _ hS ha h
    replace h := seeI_use h
    rcases h with h | ⟨p, rfl, h⟩
    · exact hC _ _ _ _ _ _ _ hS ha h
    replace h := seeCons_use h
    rcases h with h | ⟨a5, q6, rfl, h⟩
    · exact hC _ _ _ _ _ _ _ hS ha h
    replace h := seeV_use h
    rcases h with h | ⟨rfl, h⟩
    · exact hC _ _ _ _ _ _ _ hS ha h
    replace h := seeCons_use h
    rcases h with h | ⟨a7, q8, rfl, h⟩
    · exact hC _ _ _ _ _ _ _ hS ha h
    replace h := seeV_use h
    rcases h with h | ⟨rfl, h⟩
    · exact hC _ _ _ _ _ _ _ hS ha h
    replace h := seeNil_use h
    rcases h with h | ⟨rfl, h⟩
    · exact hC _ _ _ _ _ _ _ hS ha h
    replace h := seeCons_use h
    rcases h with h | ⟨a9, q10, rfl, h⟩
    · exact hC _ _ _ _ _ _ _ hS ha h
    replace h := seeBlk_use h
    rcases h with h | ⟨cs11, rfl, h⟩
    · exact hC _ _ _ _ _ _ _ hS ha h
    replace h := seeCons_use h
    rcases h with h | ⟨a12, q13, rfl, h⟩
    · exact hC _ _ _ _ _ _ _ hS ha h
    replace h := seeInts_use h
    rcases h with h | ⟨xs, rfl, h⟩
    · exact hC _ _ _ _ _ _ _ hS ha h
    replace h := seeNil_use h
    rcases h with h | ⟨rfl, h⟩
    · exact hC _ _ _ _ _ _ _ hS ha h
    replace h := seeNil_use h
    rcases h with h | ⟨rfl, h⟩
    · exact hC _ _ _ _ _ _ _ hS ha h
    exact cbody_use named C0_ok at48 (l := 1) rfl (LoopsOk.none _ _) (F48_3_3_ok  p xs K) hS ha h
  · exact hC _ _ _ _ _ _ _ hS ha h
abbrev Y48_3_4 : Type := Int → List Int → (Prop) → (Prop) → Prop
def F48_3_4  (p : Int) (xs : List Int) (k1 : Prop) (k2 : Prop) : Prop :=
  (bif (decide (p < (0 : Int))) then (k1) else (bif (decide (p > ((((List.length xs) - (0 : Nat)) : Nat) : Int))) then (k1) else (bif (decide ((7 : Int) > (IntKind.wrap .i64 (((((List.length xs) - (0 : Nat)) : Nat) : Int) - p)))) then (k1) else (bif ((decide ((0 : Int) ≤ (IntKind.wrap .i64 (p + (0 : Int))))) && (decide ((IntKind.wrap .i64 (p + (0 : Int))) < ((((List.length xs) - (0 : Nat)) : Nat) : Int)))) then (bif ((List.getD xs (Int.toNat (IntKind.wrap .i64 (p + (0 : Int)))) (0 : Int)) != (72 : Int)) then (k1) else (bif ((decide ((0 : Int) ≤ (IntKind.wrap .i64 (p + (1 : Int))))) && (decide ((IntKind.wrap .i64 (p + (1 : Int))) < ((((List.length xs) - (0 : Nat)) : Nat) : Int)))) then (bif ((List.getD xs (Int.toNat (IntKind.wrap .i64 (p + (1 : Int)))) (0 : Int)) != (139 : Int)) then (k1) else (bif ((decide ((0 : Int) ≤ (IntKind.wrap .i64 (p + (2 : Int))))) && (decide ((IntKind.wrap .i64 (p + (2 : Int))) < ((((List.length xs) - (0 : Nat)) : Nat) : Int)))) then (bif ((List.getD xs (Int.toNat (IntKind.wrap .i64 (p + (2 : Int)))) (0 : Int)) != (37 : Int)) then (k1) else (k2)) else False)) else False)) else False))))
theorem F48_3_4_ok  (p : Int) (xs : List Int) (K : V → Mem → Prop) : cbody Try.prog C0 (fun _ => none) 1000 (fnOf Try.prog 48) [(.sl 0 (0 : Nat) (none : Option Nat) (none : Option Nat)), (.I .i64 p), (.I .i64 (3 : Int)), (.I .i64 (4 : Int))] [⟨[.ints .u8 xs], 5, true, false⟩] K =
    F48_3_4  p xs (K (.B false) [⟨[.ints .u8 xs], 5, true, false⟩]) (K (.B true) [⟨[.ints .u8 xs], 5, true, false⟩]) := by kernel_rfl
def G48_3_4 : Y48_3_4 := F48_3_4 
def VT48_3_4 (f : Y48_3_4) (F : Prop) (args : List V) (m : Mem) (K : V → Mem → Prop) : Prop :=
  (seeCons args F fun a1 q2 => (seeV (.sl 0 (0 : Nat) (none : Option Nat) (none : Option Nat)) a1 F (seeCons q2 F fun a3 q4 => (seeI .i64 a3 F fun p => (seeCons q4 F fun a5 q6 => (seeV (.I .i64 (3 : Int)) a5 F (seeCons q6 F fun a7 q8 => (seeV (.I .i64 (4 : Int)) a7 F (seeNil q8 F (seeCons m F fun a9 q10 => (seeBlk 5 true false a9 F fun cs11 => (seeCons cs11 F fun a12 q13 => (seeInts .u8 a12 F fun xs => (seeNil q13 F (seeNil q10 F (f p xs (K (.B false) [⟨[.ints .u8 xs], 5, true, false⟩]) (K (.B true) [⟨[.ints .u8 xs], 5, true, false⟩])))))))))))))))))
def T48_3_4 (f : Y48_3_4) (C : CC) : CC := fun g args m K =>
  match Nat.beq g 48 with
  | true => VT48_3_4 f (C g args m K) args m K
  | false => C g args m K
set_option maxRecDepth 100000 in
theorem T48_3_4_ok {C : CC} (hC : CallsOk Try.prog C) : CallsOk Try.prog (T48_3_4 G48_3_4 C) := by
  intro g args m K E w cargs hS ha h
  unfold T48_3_4 at h
  split at h
  · rename_i hg
    obtain rfl := Nat.eq_of_beq_eq_true hg
    unfold VT48_3_4 at h
    replace h := seeCons_use h
    rcases h with h | ⟨a1, q2, rfl, h⟩
    · exact hC _ _ _ _ _ _ _ hS ha h
    replace h := seeV_use h
    rcases h with h | ⟨rfl, h⟩
    · exact hC _ _ _ _ _ _ _ hS ha h
    replace h := seeCons_use h
    rcases h with h | ⟨a3, q4, rfl, h⟩
    · exact hC _ _ _ _ _ _ _ hS ha h
    replace h := seeI_use h
    rcases h with h | ⟨p, rfl, h⟩
    · exact hC _ _ _ _ _ _ _ hS ha h
    replace h := seeCons_use h
    rcases h with h | ⟨a5, q6, rfl, h⟩
    · exact hC _ _ _ _ _ _ _ hS ha h
    replace h := seeV_use h
    rcases h with h | ⟨rfl, h⟩
    · exact hC _ _ _ _ _ _ _ hS ha h
    replace h := seeCons_use h
    rcases h with h | ⟨a7, q8, rfl, h⟩
    · exact hC _ _ _ _ _ _ _ hS ha h
    replace h := seeV_use h
    rcases h with h | ⟨rfl, h⟩
    · exact hC _ _ _ _ _ _ _ hS ha h
    replace h := seeNil_use h
    rcases h with h | ⟨rfl, h⟩
    · exact hC _ _ _ _ _ _ _ hS ha h
    replace h := seeCons_use h
    rcases h with h | ⟨a9, q10, rfl, h⟩
    · exact hC _ _ _ _ _ _ _ hS ha h
    replace h := seeBlk_use h
    rcases h with h | ⟨cs11, rfl, h⟩
    · exact hC _ _ _ _ _ _ _ hS ha h
    replace h := seeCons_use h
    rcases h with h | ⟨a12, q13, rfl, h⟩
    · exact hC _ _ _ _ _ _ _ hS ha h
    replace h := seeInts_use h
    rcases h with h | ⟨xs, rfl, h⟩
    · exact hC _ _ _ _ _ _ _ hS ha h
    replace h := seeNil_use h
    rcases h with h | ⟨rfl, h⟩
    · exact hC _ _ _ _ _ _ _ hS ha h
    replace h := seeNil_use h
    rcases h with h | ⟨rfl, h⟩
    · exact hC _ _ _ _ _ _ _ hS ha h
    exact cbody_use named C0_ok at48 (l := 1) rfl (LoopsOk.none _ _) (F48_3_4_ok  p xs K) hS ha h
  · exact hC _ _ _ _ _ _ _ hS ha h
abbrev Y48_3_5 : Type := Int → List Int → (Prop) → (Prop) → Prop
def F48_3_5  (p : Int) (xs : List Int) (k1 : Prop) (k2 : Prop) : Prop :=
  (bif (decide (p < (0 : Int))) then (k1) else (bif (decide (p > ((((List.length xs) - (0 : Nat)) : Nat) : Int))) then (k1) else (bif (decide ((7 : Int) > (IntKind.wrap .i64 (((((List.length xs) - (0 : Nat)) : Nat) : Int) - p)))) then (k1) else (bif ((decide ((0 : Int) ≤ (IntKind.wrap .i64 (p + (0 : Int))))) && (decide ((IntKind.wrap .i64 (p + (0 : Int))) < ((((List.length xs) - (0 : Nat)) : Nat) : Int)))) then (bif ((List.getD xs (Int.toNat (IntKind.wrap .i64 (p + (0 : Int)))) (0 : Int)) != (72 : Int)) then (k1) else (bif ((decide ((0 : Int) ≤ (IntKind.wrap .i64 (p + (1 : Int))))) && (decide ((IntKind.wrap .i64 (p + (1 : Int))) < ((((List.length xs) - (0 : Nat)) : Nat) : Int)))) then (bif ((List.getD xs (Int.toNat (IntKind.wrap .i64 (p + (1 : Int)))) (0 : Int)) != (139 : Int)) then (k1) else (bif ((decide ((0 : Int) ≤ (IntKind.wrap .i64 (p + (2 : Int))))) && (decide ((IntKind.wrap .i64 (p + (2 : Int))) < ((((List.length xs) - (0 : Nat)) : Nat) : Int)))) then (bif ((List.getD xs (Int.toNat (IntKind.wrap .i64 (p + (2 : Int)))) (0 : Int)) != (45 : Int)) then (k1) else (k2)) else False)) else False)) else False))))
theorem F48_3_5_ok  (p : Int) (xs : List Int) (K : V → Mem → Prop) : cbody Try.prog C0 (fun _ => none) 1000 (fnOf Try.prog 48) [(.sl 0 (0 : Nat) (none : Option Nat) (none : Option Nat)), (.I .i64 p), (.I .i64 (3 : Int)), (.I .i64 (5 : Int))] [⟨[.ints .u8 xs], 5, true, false⟩] K =
    F48_3_5  p xs (K (.B false) [⟨[.ints .u8 xs], 5, true, false⟩]) (K (.B true) [⟨[.ints .u8 xs], 5, true, false⟩]) := by kernel_rfl
def G48_3_5 : Y48_3_5 := F48_3_5 
def VT48_3_5 (f : Y48_3_5) (F : Prop) (args : List V) (m : Mem) (K : V → Mem → Prop) : Prop :=
  (seeCons args F fun a1 q2 => (seeV (.sl 0 (0 : Nat) (none : Option Nat) (none : Option Nat)) a1 F (seeCons q2 F fun a3 q4 => (seeI .i64 a3 F fun p => (seeCons q4 F fun a5 q6 => (seeV (.I .i64 (3 : Int)) a5 F (seeCons q6 F fun a7 q8 => (seeV (.I .i64 (5 : Int)) a7 F (seeNil q8 F (seeCons m F fun a9 q10 => (seeBlk 5 true false a9 F fun cs11 => (seeCons cs11 F fun a12 q13 => (seeInts .u8 a12 F fun xs => (seeNil q13 F (seeNil q10 F (f p xs (K (.B false) [⟨[.ints .u8 xs], 5, true, false⟩]) (K (.B true) [⟨[.ints .u8 xs], 5, true, false⟩])))))))))))))))))
def T48_3_5 (f : Y48_3_5) (C : CC) : CC := fun g args m K =>
  match Nat.beq g 48 with
  | true => VT48_3_5 f (C g args m K) args m K
  | false => C g args m K
set_option maxRecDepth 100000 in
theorem T48_3_5_ok {C : CC} (hC : CallsOk Try.prog C) : CallsOk Try.prog (T48_3_5 G48_3_5 C) := by
  intro g args m K E w cargs hS ha h
  unfold T48_3_5 at h
  split at h
  · rename_i hg
    obtain rfl := Nat.eq_of_beq_eq_true hg
    unfold VT48_3_5 at h
    replace h := seeCons_use h
    rcases h with h | ⟨a1, q2, rfl, h⟩
    · exact hC _ _ _ _ _ _ _ hS ha h
    replace h := seeV_use h
    rcases h with h | ⟨rfl, h⟩
    · exact hC _ _ _ _ _ _ _ hS ha h
    replace h := seeCons_use h
    rcases h with h | ⟨a3, q4, rfl, h⟩
    · exact hC _ _ _ _ _ _ _ hS ha h
    replace h := seeI_use h
    rcases h with h | ⟨p, rfl, h⟩
    · exact hC _ _ _ _ _ _ _ hS ha h
    replace h := seeCons_use h
    rcases h with h | ⟨a5, q6, rfl, h⟩
    · exact hC _ _ _ _ _ _ _ hS ha h
    replace h := seeV_use h
    rcases h with h | ⟨rfl, h⟩
    · exact hC _ _ _ _ _ _ _ hS ha h
    replace h := seeCons_use h
    rcases h with h | ⟨a7, q8, rfl, h⟩
    · exact hC _ _ _ _ _ _ _ hS ha h
    replace h := seeV_use h
    rcases h with h | ⟨rfl, h⟩
    · exact hC _ _ _ _ _ _ _ hS ha h
    replace h := seeNil_use h
    rcases h with h | ⟨rfl, h⟩
    · exact hC _ _ _ _ _ _ _ hS ha h
    replace h := seeCons_use h
    rcases h with h | ⟨a9, q10, rfl, h⟩
    · exact hC _ _ _ _ _ _ _ hS ha h
    replace h := seeBlk_use h
    rcases h with h | ⟨cs11, rfl, h⟩
    · exact hC _ _ _ _ _ _ _ hS ha h
    replace h := seeCons_use h
    rcases h with h | ⟨a12, q13, rfl, h⟩
    · exact hC _ _ _ _ _ _ _ hS ha h
    replace h := seeInts_use h
    rcases h with h | ⟨xs, rfl, h⟩
    · exact hC _ _ _ _ _ _ _ hS ha h
    replace h := seeNil_use h
    rcases h with h | ⟨rfl, h⟩
    · exact hC _ _ _ _ _ _ _ hS ha h
    replace h := seeNil_use h
    rcases h with h | ⟨rfl, h⟩
    · exact hC _ _ _ _ _ _ _ hS ha h
    exact cbody_use named C0_ok at48 (l := 1) rfl (LoopsOk.none _ _) (F48_3_5_ok  p xs K) hS ha h
  · exact hC _ _ _ _ _ _ _ hS ha h
abbrev Y48_3_6 : Type := Int → List Int → (Prop) → (Prop) → Prop
def F48_3_6  (p : Int) (xs : List Int) (k1 : Prop) (k2 : Prop) : Prop :=
  (bif (decide (p < (0 : Int))) then (k1) else (bif (decide (p > ((((List.length xs) - (0 : Nat)) : Nat) : Int))) then (k1) else (bif (decide ((7 : Int) > (IntKind.wrap .i64 (((((List.length xs) - (0 : Nat)) : Nat) : Int) - p)))) then (k1) else (bif ((decide ((0 : Int) ≤ (IntKind.wrap .i64 (p + (0 : Int))))) && (decide ((IntKind.wrap .i64 (p + (0 : Int))) < ((((List.length xs) - (0 : Nat)) : Nat) : Int)))) then (bif ((List.getD xs (Int.toNat (IntKind.wrap .i64 (p + (0 : Int)))) (0 : Int)) != (72 : Int)) then (k1) else (bif ((decide ((0 : Int) ≤ (IntKind.wrap .i64 (p + (1 : Int))))) && (decide ((IntKind.wrap .i64 (p + (1 : Int))) < ((((List.length xs) - (0 : Nat)) : Nat) : Int)))) then (bif ((List.getD xs (Int.toNat (IntKind.wrap .i64 (p + (1 : Int)))) (0 : Int)) != (139 : Int)) then (k1) else (bif ((decide ((0 : Int) ≤ (IntKind.wrap .i64 (p + (2 : Int))))) && (decide ((IntKind.wrap .i64 (p + (2 : Int))) < ((((List.length xs) - (0 : Nat)) : Nat) : Int)))) then (bif ((List.getD xs (Int.toNat (IntKind.wrap .i64 (p + (2 : Int)))) (0 : Int)) != (53 : Int)) then (k1) else (k2)) else False)) else False)) else False))))
theorem F48_3_6_ok  (p : Int) (xs : List Int) (K : V → Mem → Prop) : cbody Try.prog C0 (fun _ => none) 1000 (fnOf Try.prog 48) [(.sl 0 (0 : Nat) (none : Option Nat) (none : Option Nat)), (.I .i64 p), (.I .i64 (3 : Int)), (.I .i64 (6 : Int))] [⟨[.ints .u8 xs], 5, true, false⟩] K =
    F48_3_6  p xs (K (.B false) [⟨[.ints .u8 xs], 5, true, false⟩]) (K (.B true) [⟨[.ints .u8 xs], 5, true, false⟩]) := by kernel_rfl
def G48_3_6 : Y48_3_6 := F48_3_6 
def VT48_3_6 (f : Y48_3_6) (F : Prop) (args : List V) (m : Mem) (K : V → Mem → Prop) : Prop :=
  (seeCons args F fun a1 q2 => (seeV (.sl 0 (0 : Nat) (none : Option Nat) (none : Option Nat)) a1 F (seeCons q2 F fun a3 q4 => (seeI .i64 a3 F fun p => (seeCons q4 F fun a5 q6 => (seeV (.I .i64 (3 : Int)) a5 F (seeCons q6 F fun a7 q8 => (seeV (.I .i64 (6 : Int)) a7 F (seeNil q8 F (seeCons m F fun a9 q10 => (seeBlk 5 true false a9 F fun cs11 => (seeCons cs11 F fun a12 q13 => (seeInts .u8 a12 F fun xs => (seeNil q13 F (seeNil q10 F (f p xs (K (.B false) [⟨[.ints .u8 xs], 5, true, false⟩]) (K (.B true) [⟨[.ints .u8 xs], 5, true, false⟩])))))))))))))))))
def T48_3_6 (f : Y48_3_6) (C : CC) : CC := fun g args m K =>
  match Nat.beq g 48 with
  | true => VT48_3_6 f (C g args m K) args m K
  | false => C g args m K
set_option maxRecDepth 100000 in
theorem T48_3_6_ok {C : CC} (hC : CallsOk Try.prog C) : CallsOk Try.prog (T48_3_6 G48_3_6 C) := by
  intro g args m K E w cargs hS ha h
  unfold T48_3_6 at h
  split at h
  · rename_i hg
    obtain rfl := Nat.eq_of_beq_eq_true hg
    unfold VT48_3_6 at h
    replace h := seeCons_use h
    rcases h with h | ⟨a1, q2, rfl, h⟩
    · exact hC _ _ _ _ _ _ _ hS ha h
    replace h := seeV_use h
    rcases h with h | ⟨rfl, h⟩
    · exact hC _ _ _ _ _ _ _ hS ha h
    replace h := seeCons_use h
    rcases h with h | ⟨a3, q4, rfl, h⟩
    · exact hC _ _ _ _ _ _ _ hS ha h
    replace h := seeI_use h
    rcases h with h | ⟨p, rfl, h⟩
    · exact hC _ _ _ _ _ _ _ hS ha h
    replace h := seeCons_use h
    rcases h with h | ⟨a5, q6, rfl, h⟩
    · exact hC _ _ _ _ _ _ _ hS ha h
    replace h := seeV_use h
    rcases h with h | ⟨rfl, h⟩
    · exact hC _ _ _ _ _ _ _ hS ha h
    replace h := seeCons_use h
    rcases h with h | ⟨a7, q8, rfl, h⟩
    · exact hC _ _ _ _ _ _ _ hS ha h
    replace h := seeV_use h
    rcases h with h | ⟨rfl, h⟩
    · exact hC _ _ _ _ _ _ _ hS ha h
    replace h := seeNil_use h
    rcases h with h | ⟨rfl, h⟩
    · exact hC _ _ _ _ _ _ _ hS ha h
    replace h := seeCons_use h
    rcases h with h | ⟨a9, q10, rfl, h⟩
    · exact hC _ _ _ _ _ _ _ hS ha h
    replace h := seeBlk_use h
    rcases h with h | ⟨cs11, rfl, h⟩
    · exact hC _ _ _ _ _ _ _ hS ha h
    replace h := seeCons_use h
    rcases h with h | ⟨a12, q13, rfl, h⟩
    · exact hC _ _ _ _ _ _ _ hS ha h
    replace h := seeInts_use h
    rcases h with h | ⟨xs, rfl, h⟩
    · exact hC _ _ _ _ _ _ _ hS ha h
    replace h := seeNil_use h
    rcases h with h | ⟨rfl, h⟩
    · exact hC _ _ _ _ _ _ _ hS ha h
    replace h := seeNil_use h
    rcases h with h | ⟨rfl, h⟩
    · exact hC _ _ _ _ _ _ _ hS ha h
    exact cbody_use named C0_ok at48 (l := 1) rfl (LoopsOk.none _ _) (F48_3_6_ok  p xs K) hS ha h
  · exact hC _ _ _ _ _ _ _ hS ha h
abbrev Y48_3_7 : Type := Int → List Int → (Prop) → (Prop) → Prop
def F48_3_7  (p : Int) (xs : List Int) (k1 : Prop) (k2 : Prop) : Prop :=
  (bif (decide (p < (0 : Int))) then (k1) else (bif (decide (p > ((((List.length xs) - (0 : Nat)) : Nat) : Int))) then (k1) else (bif (decide ((7 : Int) > (IntKind.wrap .i64 (((((List.length xs) - (0 : Nat)) : Nat) : Int) - p)))) then (k1) else (bif ((decide ((0 : Int) ≤ (IntKind.wrap .i64 (p + (0 : Int))))) && (decide ((IntKind.wrap .i64 (p + (0 : Int))) < ((((List.length xs) - (0 : Nat)) : Nat) : Int)))) then (bif ((List.getD xs (Int.toNat (IntKind.wrap .i64 (p + (0 : Int)))) (0 : Int)) != (72 : Int)) then (k1) else (bif ((decide ((0 : Int) ≤ (IntKind.wrap .i64 (p + (1 : Int))))) && (decide ((IntKind.wrap .i64 (p + (1 : Int))) < ((((List.length xs) - (0 : Nat)) : Nat) : Int)))) then (bif ((List.getD xs (Int.toNat (IntKind.wrap .i64 (p + (1 : Int)))) (0 : Int)) != (139 : Int)) then (k1) else (bif ((decide ((0 : Int) ≤ (IntKind.wrap .i64 (p + (2 : Int))))) && (decide ((IntKind.wrap .i64 (p + (2 : Int))) < ((((List.length xs) - (0 : Nat)) : Nat) : Int)))) then (bif ((List.getD xs (Int.toNat (IntKind.wrap .i64 (p + (2 : Int)))) (0 : Int)) != (61 : Int)) then (k1) else (k2)) else False)) else False)) else False))))
theorem F48_3_7_ok  (p : Int) (xs : List Int) (K : V → Mem → Prop) : cbody Try.prog C0 (fun _ => none) 1000 (fnOf Try.prog 48) [(.sl 0 (0 : Nat) (none : Option Nat) (none : Option Nat)), (.I .i64 p), (.I .i64 (3 : Int)), (.I .i64 (7 : Int))] [⟨[.ints .u8 xs], 5, true, false⟩] K =
    F48_3_7  p xs (K (.B false) [⟨[.ints .u8 xs], 5, true, false⟩]) (K (.B true) [⟨[.ints .u8 xs], 5, true, false⟩]) := by kernel_rfl
def G48_3_7 : Y48_3_7 := F48_3_7 
def VT48_3_7 (f : Y48_3_7) (F : Prop) (args : List V) (m : Mem) (K : V → Mem → Prop) : Prop :=
  (seeCons args F fun a1 q2 => (seeV (.sl 0 (0 : Nat) (none : Option Nat) (none : Option Nat)) a1 F (seeCons q2 F fun a3 q4 => (seeI .i64 a3 F fun p => (seeCons q4 F fun a5 q6 => (seeV (.I .i64 (3 : Int)) a5 F (seeCons q6 F fun a7 q8 => (seeV (.I .i64 (7 : Int)) a7 F (seeNil q8 F (seeCons m F fun a9 q10 => (seeBlk 5 true false a9 F fun cs11 => (seeCons cs11 F fun a12 q13 => (seeInts .u8 a12 F fun xs => (seeNil q13 F (seeNil q10 F (f p xs (K (.B false) [⟨[.ints .u8 xs], 5, true, false⟩]) (K (.B true) [⟨[.ints .u8 xs], 5, true, false⟩])))))))))))))))))
def T48_3_7 (f : Y48_3_7) (C : CC) : CC := fun g args m K =>
  match Nat.beq g 48 with
  | true => VT48_3_7 f (C g args m K) args m K
  | false => C g args m K
set_option maxRecDepth 100000 in
theorem T48_3_7_ok {C : CC} (hC : CallsOk Try.prog C) : CallsOk Try.prog (T48_3_7 G48_3_7 C) := by
  intro g args m K E w cargs hS ha h
  unfold T48_3_7 at h
  split at h
  · rename_i hg
    obtain rfl := Nat.eq_of_beq_eq_true hg
    unfold VT48_3_7 at h
    replace h := seeCons_use h
    rcases h with h | ⟨a1, q2, rfl, h⟩
    · exact hC _ _ _ _ _ _ _ hS ha h
    replace h := seeV_use h
    rcases h with h | ⟨rfl, h⟩
    · exact hC _ _ _ _ _ _ _ hS ha h
    replace h := seeCons_use h
    rcases h with h | ⟨a3, q4, rfl, h⟩
    · exact hC _ _ _ _ _ _ _ hS ha h
    replace h := seeI_use h
    rcases h with h | ⟨p, rfl, h⟩
    · exact hC _ _ _ _ _ _ _ hS ha h
    replace h := seeCons_use h
    rcases h with h | ⟨a5, q6, rfl, h⟩
    · exact hC _ _ _ _ _ _ _ hS ha h
    replace h := seeV_use h
    rcases h with h | ⟨rfl, h⟩
    · exact hC _ _ _ _ _ _ _ hS ha h
    replace h := seeCons_use h
    rcases h with h | ⟨a7, q8, rfl, h⟩
    · exact hC _ _ _ _ _ _ _ hS ha h
    replace h := seeV_use h
    rcases h with h | ⟨rfl, h⟩
    · exact hC _ _ _ _ _ _ _ hS ha h
    replace h := seeNil_use h
    rcases h with h | ⟨rfl, h⟩
    · exact hC _ _ _ _ _ _ _ hS ha h
    replace h := seeCons_use h
    rcases h with h | ⟨a9, q10, rfl, h⟩
    · exact hC _ _ _ _ _ _ _ hS ha h
    replace h := seeBlk_use h
    rcases h with h | ⟨cs11, rfl, h⟩
    · exact hC _ _ _ _ _ _ _ hS ha h
    replace h := seeCons_use h
    rcases h with h | ⟨a12, q13, rfl, h⟩
    · exact hC _ _ _ _ _ _ _ hS ha h
    replace h := seeInts_use h
    rcases h with h | ⟨xs, rfl, h⟩
    · exact hC _ _ _ _ _ _ _ hS ha h
    replace h := seeNil_use h
    rcases h with h | ⟨rfl, h⟩
    · exact hC _ _ _ _ _ _ _ hS ha h
    replace h := seeNil_use h
    rcases h with h | ⟨rfl, h⟩
    · exact hC _ _ _ _ _ _ _ hS ha h
    exact cbody_use named C0_ok at48 (l := 1) rfl (LoopsOk.none _ _) (F48_3_7_ok  p xs K) hS ha h
  · exact hC _ _ _ _ _ _ _ hS ha h
abbrev Y48_3_8 : Type := Int → List Int → (Prop) → (Prop) → Prop
def F48_3_8  (p : Int) (xs : List Int) (k1 : Prop) (k2 : Prop) : Prop :=
  (bif (decide (p < (0 : Int))) then (k1) else (bif (decide (p > ((((List.length xs) - (0 : Nat)) : Nat) : Int))) then (k1) else (bif (decide ((7 : Int) > (IntKind.wrap .i64 (((((List.length xs) - (0 : Nat)) : Nat) : Int) - p)))) then (k1) else (bif ((decide ((0 : Int) ≤ (IntKind.wrap .i64 (p + (0 : Int))))) && (decide ((IntKind.wrap .i64 (p + (0 : Int))) < ((((List.length xs) - (0 : Nat)) : Nat) : Int)))) then (bif ((List.getD xs (Int.toNat (IntKind.wrap .i64 (p + (0 : Int)))) (0 : Int)) != (76 : Int)) then (k1) else (bif ((decide ((0 : Int) ≤ (IntKind.wrap .i64 (p + (1 : Int))))) && (decide ((IntKind.wrap .i64 (p + (1 : Int))) < ((((List.length xs) - (0 : Nat)) : Nat) : Int)))) then (bif ((List.getD xs (Int.toNat (IntKind.wrap .i64 (p + (1 : Int)))) (0 : Int)) != (139 : Int)) then (k1) else (bif ((decide ((0 : Int) ≤ (IntKind.wrap .i64 (p + (2 : Int))))) && (decide ((IntKind.wrap .i64 (p + (2 : Int))) < ((((List.length xs) - (0 : Nat)) : Nat) : Int)))) then (bif ((List.getD xs (Int.toNat (IntKind.wrap .i64 (p + (2 : Int)))) (0 : Int)) != (5 : Int)) then (k1) else (k2)) else False)) else False)) else False))))
theorem F48_3_8_ok  (p : Int) (xs : List Int) (K : V → Mem → Prop) : cbody Try.prog C0 (fun _ => none) 1000 (fnOf Try.prog 48) [(.sl 0 (0 : Nat) (none : Option Nat) (none : Option Nat)), (.I .i64 p), (.I .i64 (3 : Int)), (.I .i64 (8 : Int))] [⟨[.ints .u8 xs], 5, true, false⟩] K =
    F48_3_8  p xs (K (.B false) [⟨[.ints .u8 xs], 5, true, false⟩]) (K (.B true) [⟨[.ints .u8 xs], 5, true, false⟩]) := by kernel_rfl
def G48_3_8 : Y48_3_8 := F48_3_8 
def VT48_3_8 (f : Y48_3_8) (F : Prop) (args : List V) (m : Mem) (K : V → Mem → Prop) : Prop :=
  (seeCons args F fun a1 q2 => (seeV (.sl 0 (0 : Nat) (none : Option Nat) (none : Option Nat)) a1 F (seeCons q2 F fun a3 q4 => (seeI .i64 a3 F fun p => (seeCons q4 F fun a5 q6 => (seeV (.I .i64 (3 : Int)) a5 F (seeCons q6 F fun a7 q8 => (seeV (.I .i64 (8 : Int)) a7 F (seeNil q8 F (seeCons m F fun a9 q10 => (seeBlk 5 true false a9 F fun cs11 => (seeCons cs11 F fun a12 q13 => (seeInts .u8 a12 F fun xs => (seeNil q13 F (seeNil q10 F (f p xs (K (.B false) [⟨[.ints .u8 xs], 5, true, false⟩]) (K (.B true) [⟨[.ints .u8 xs], 5, true, false⟩])))))))))))))))))
def T48_3_8 (f : Y48_3_8) (C : CC) : CC := fun g args m K =>
  match Nat.beq g 48 with
  | true => VT48_3_8 f (C g args m K) args m K
  | false => C g args m K
set_option maxRecDepth 100000 in
theorem T48_3_8_ok {C : CC} (hC : CallsOk Try.prog C) : CallsOk Try.prog (T48_3_8 G48_3_8 C) := by
  intro g args m K E w cargs hS ha h
  unfold T48_3_8 at h
  split at h
  · rename_i hg
    obtain rfl := Nat.eq_of_beq_eq_true hg
    unfold VT48_3_8 at h
    replace h := seeCons_use h
    rcases h with h | ⟨a1, q2, rfl, h⟩
    · exact hC _ _ _ _ _ _ _ hS ha h
    replace h := seeV_use h
    rcases h with h | ⟨rfl, h⟩
    · exact hC _ _ _ _ _ _ _ hS ha h
    replace h := seeCons_use h
    rcases h with h | ⟨a3, q4, rfl, h⟩
    · exact hC _ _ _ _ _ _ _ hS ha h
    replace h := seeI_use h
    rcases h with h | ⟨p, rfl, h⟩
    · exact hC _ _ _ _ _ _ _ hS ha h
    replace h := seeCons_use h
    rcases h with h | ⟨a5, q6, rfl, h⟩
    · exact hC _ _ _ _ _ _ _ hS ha h
    replace h := seeV_use h
    rcases h with h | ⟨rfl, h⟩
    · exact hC _ _ _ _ _ _ _ hS ha h
    replace h := seeCons_use h
    rcases h with h | ⟨a7, q8, rfl, h⟩
    · exact hC _ _ _ _ _ _ _ hS ha h
    replace h := seeV_use h
    rcases h with h | ⟨rfl, h⟩
    · exact hC _ _ _ _ _ _ _ hS ha h
    replace h := seeNil_use h
    rcases h with h | ⟨rfl, h⟩
    · exact hC _ _ _ _ _ _ _ hS ha h
    replace h := seeCons_use h
    rcases h with h | ⟨a9, q10, rfl, h⟩
    · exact hC _ _ _ _ _ _ _ hS ha h
    replace h := seeBlk_use h
    rcases h with h | ⟨cs11, rfl, h⟩
    · exact hC _ _ _ _ _ _ _ hS ha h
    replace h := seeCons_use h
    rcases h with h | ⟨a12, q13, rfl, h⟩
    · exact hC _ _ _ _ _ _ _ hS ha h
    replace h := seeInts_use h
    rcases h with h | ⟨xs, rfl, h⟩
    · exact hC _ _ _ _ _ _ _ hS ha h
    replace h := seeNil_use h
    rcases h with h | ⟨rfl, h⟩
    · exact hC _ _ _ _ _ _ _ hS ha h
    replace h := seeNil_use h
    rcases h with h | ⟨rfl, h⟩
    · exact hC _ _ _ _ _ _ _ hS ha h
    exact cbody_use named C0_ok at48 (l := 1) rfl (LoopsOk.none _ _) (F48_3_8_ok  p xs K) hS ha h
  · exact hC _ _ _ _ _ _ _ hS ha h
abbrev Y48_3_9 : Type := Int → List Int → (Prop) → (Prop) → Prop
def F48_3_9  (p : Int) (xs : List Int) (k1 : Prop) (k2 : Prop) : Prop :=
  (bif (decide (p < (0 : Int))) then (k1) else (bif (decide (p > ((((List.length xs) - (0 : Nat)) : Nat) : Int))) then (k1) else (bif (decide ((7 : Int) > (IntKind.wrap .i64 (((((List.length xs) - (0 : Nat)) : Nat) : Int) - p)))) then (k1) else (bif ((decide ((0 : Int) ≤ (IntKind.wrap .i64 (p + (0 : Int))))) && (decide ((IntKind.wrap .i64 (p + (0 : Int))) < ((((List.length xs) - (0 : Nat)) : Nat) : Int)))) then (bif ((List.getD xs (Int.toNat (IntKind.wrap .i64 (p + (0 : Int)))) (0 : Int)) != (76 : Int)) then (k1) else (bif ((decide ((0 : Int) ≤ (IntKind.wrap .i64 (p + (1 : Int))))) && (decide ((IntKind.wrap .i64 (p + (1 : Int))) < ((((List.length xs) - (0 : Nat)) : Nat) : Int)))) then (bif ((List.getD xs (Int.toNat (IntKind.wrap .i64 (p + (1 : Int)))) (0 : Int)) != (139 : Int)) then (k1) else (bif ((decide ((0 : Int) ≤ (IntKind.wrap .i64 (p + (2 : Int))))) && (decide ((IntKind.wrap .i64 (p + (2 : Int))) < ((((List.length xs) - (0 : Nat)) : Nat) : Int)))) then (bif ((List.getD xs (Int.toNat (IntKind.wrap .i64 (p + (2 : Int)))) (0 : Int)) != (13 : Int)) then (k1) else (k2)) else False)) else False)) else False))))
theorem F48_3_9_ok  (p : Int) (xs : List Int) (K : V → Mem → Prop) : cbody Try.prog C0 (fun _ => none) 1000 (fnOf Try.prog 48) [(.sl 0 (0 : Nat) (none : Option Nat) (none : Option Nat)), (.I .i64 p), (.I .i64 (3 : Int)), (.I .i64 (9 : Int))] [⟨[.ints .u8 xs], 5, true, false⟩] K =
    F48_3_9  p xs (K (.B false) [⟨[.ints .u8 xs], 5, true, false⟩]) (K (.B true) [⟨[.ints .u8 xs], 5, true, false⟩]) := by kernel_rfl
def G48_3_9 : Y48_3_9 := F48_3_9 
def VT48_3_9 (f : Y48_3_9) (F : Prop) (args : List V) (m : Mem) (K : V → Mem → Prop) : Prop :=
  (seeCons args F fun a1 q2 => (seeV (.sl 0 (0 : Nat) (none : Option Nat) (none : Option Nat)) a1 F (seeCons q2 F fun a3 q4 => (seeI .i64 a3 F fun p => (seeCons q4 F fun a5 q6 => (seeV (.I .i64 (3 : Int)) a5 F (seeCons q6 F fun a7 q8 => (seeV (.I .i64 (9 : Int)) a7 F (seeNil q8 F (seeCons m F fun a9 q10 => (seeBlk 5 true false a9 F fun cs11 => (seeCons cs11 F fun a12 q13 => (seeInts .u8 a12 F fun xs => (seeNil q13 F (seeNil q10 F (f p xs (K (.B false) [⟨[.ints .u8 xs], 5, true, false⟩]) (K (.B true) [⟨[.ints .u8 xs], 5, true, false⟩])))))))))))))))))
def T48_3_9 (f : Y48_3_9) (C : CC) : CC := fun g args m K =>
  match Nat.beq g 48 with
  | true => VT48_3_9 f (C g args m K) args m K
  | false => C g args m K
set_option maxRecDepth 100000 in
theorem T48_3_9_ok {C : CC} (hC : CallsOk Try.prog C) : CallsOk Try.prog (T48_3_9 G48_3_9 C) := by
  intro g args m K E w cargs hS ha h
  unfold T48_3_9 at h
  split at h
  · rename_i hg
    obtain rfl := Nat.eq_of_beq_eq_true hg
    unfold VT48_3_9 at h
    replace h := seeCons_use h
    rcases h with h | ⟨a1, q2, rfl, h⟩
    · exact hC _ _ _ _ _ _ _ hS ha h
    replace h := seeV_use h
    rcases h with h | ⟨rfl, h⟩
    · exact hC _ _ _ _ _ _ _ hS ha h
    replace h := seeCons_use h
    rcases h with h | ⟨a3, q4, rfl, h⟩
    · exact hC _ _ _ _ _ _ _ hS ha h
    replace h := seeI_use h
    rcases h with h | ⟨p, rfl, h⟩
    · exact hC _ _ _ _ _ _ _ hS ha h
    replace h := seeCons_use h
    rcases h with h | ⟨a5, q6, rfl, h⟩
    · exact hC _ _ _ _ _ _ _ hS ha h
    replace h := seeV_use h
    rcases h with h | ⟨rfl, h⟩
    · exact hC _ _ _ _ _ _ _ hS ha h
    replace h := seeCons_use h
    rcases h with h | ⟨a7, q8, rfl, h⟩
    · exact hC _ _ _ _ _ _ _ hS ha h
    replace h := seeV_use h
    rcases h with h | ⟨rfl, h⟩
    · exact hC _ _ _ _ _ _ _ hS ha h
    replace h := seeNil_use h
    rcases h with h | ⟨rfl, h⟩
    · exact hC _ _ _ _ _ _ _ hS ha h
    replace h := seeCons_use h
    rcases h with h | ⟨a9, q10, rfl, h⟩
    · exact hC _ _ _ _ _ _ _ hS ha h
    replace h := seeBlk_use h
    rcases h with h | ⟨cs11, rfl, h⟩
    · exact hC _ _ _ _ _ _ _ hS ha h
    replace h := seeCons_use h
    rcases h with h | ⟨a12, q13, rfl, h⟩
    · exact hC _ _ _ _ _ _ _ hS ha h
    replace h := seeInts_use h
    rcases h with h | ⟨xs, rfl, h⟩
    · exact hC _ _ _ _ _ _ _ hS ha h
    replace h := seeNil_use h
    rcases h with h | ⟨rfl, h⟩
    · exact hC _ _ _ _ _ _ _ hS ha h
    replace h := seeNil_use h
    rcases h with h | ⟨rfl, h⟩
    · exact hC _ _ _ _ _ _ _ hS ha h
    exact cbody_use named C0_ok at48 (l := 1) rfl (LoopsOk.none _ _) (F48_3_9_ok  p xs K) hS ha h
  · exact hC _ _ _ _ _ _ _ hS ha h
abbrev Y48_3_10 : Type := Int → List Int → (Prop) → (Prop) → Prop
def F48_3_10  (p : Int) (xs : List Int) (k1 : Prop) (k2 : Prop) : Prop :=
  (bif (decide (p < (0 : Int))) then (k1) else (bif (decide (p > ((((List.length xs) - (0 : Nat)) : Nat) : Int))) then (k1) else (bif (decide ((7 : Int) > (IntKind.wrap .i64 (((((List.length xs) - (0 : Nat)) : Nat) : Int) - p)))) then (k1) else (bif ((decide ((0 : Int) ≤ (IntKind.wrap .i64 (p + (0 : Int))))) && (decide ((IntKind.wrap .i64 (p + (0 : Int))) < ((((List.length xs) - (0 : Nat)) : Nat) : Int)))) then (bif ((List.getD xs (Int.toNat (IntKind.wrap .i64 (p + (0 : Int)))) (0 : Int)) != (76 : Int)) then (k1) else (bif ((decide ((0 : Int) ≤ (IntKind.wrap .i64 (p + (1 : Int))))) && (decide ((IntKind.wrap .i64 (p + (1 : Int))) < ((((List.length xs) - (0 : Nat)) : Nat) : Int)))) then (bif ((List.getD xs (Int.toNat (IntKind.wrap .i64 (p + (1 : Int)))) (0 : Int)) != (139 : Int)) then (k1) else (bif ((decide ((0 : Int) ≤ (IntKind.wrap .i64 (p + (2 : Int))))) && (decide ((IntKind.wrap .i64 (p + (2 : Int))) < ((((List.length xs) - (0 : Nat)) : Nat) : Int)))) then (bif ((List.getD xs (Int.toNat (IntKind.wrap .i64 (p + (2 : Int)))) (0 : Int)) != (21 : Int)) then (k1) else (k2)) else False)) else False)) else False))))
theorem F48_3_10_ok  (p : Int) (xs : List Int) (K : V → Mem → Prop) : cbody Try.prog C0 (fun _ => none) 1000 (fnOf Try.prog 48) [(.sl 0 (0 : Nat) (none : Option Nat) (none : Option Nat)), (.I .i64 p), (.I .i64 (3 : Int)), (.I .i64 (10 : Int))] [⟨[.ints .u8 xs], 5, true, false⟩] K =
    F48_3_10  p xs (K (.B false) [⟨[.ints .u8 xs], 5, true, false⟩]) (K (.B true) [⟨[.ints .u8 xs], 5, true, false⟩]) := by kernel_rfl
def G48_3_10 : Y48_3_10 := F48_3_10 
def VT48_3_10 (f : Y48_3_10) (F : Prop) (args : List V) (m : Mem) (K : V → Mem → Prop) : Prop :=
  (seeCons args F fun a1 q2 => (seeV (.sl 0 (0 : Nat) (none : Option Nat) (none : Option Nat)) a1 F (seeCons q2 F fun a3 q4 => (seeI .i64 a3 F fun p => (seeCons q4 F fun a5 q6 => (seeV (.I .i64 (3 : Int)) a5 F (seeCons q6 F fun a7 q8 => (seeV (.I .i64 (10 : Int)) a7 F (seeNil q8 F (seeCons m F fun a9 q10 => (seeBlk 5 true false a9 F fun cs11 => (seeCons cs11 F fun a12 q13 => (seeInts .u8 a12 F fun xs => (seeNil q13 F (seeNil q10 F (f p xs (K (.B false) [⟨[.ints .u8 xs], 5, true, false⟩]) (K (.B true) [⟨[.ints .u8 xs], 5, true, false⟩])))))))))))))))))
def T48_3_10 (f : Y48_3_10) (C : CC) : CC := fun g args m K =>
  match Nat.beq g 48 with
  | true => VT48_3_10 f (C g args m K) args m K
  | false => C g args m K
set_option maxRecDepth 100000 in
theorem T48_3_10_ok {C : CC} (hC : CallsOk Try.prog C) : CallsOk Try.prog (T48_3_10 G48_3_10 C) := by
  intro g args m K E w cargs hS ha h
  unfold T48_3_10 at h
  split at h
  · rename_i hg
    obtain rfl := Nat.eq_of_beq_eq_true hg
    unfold VT48_3_10 at h
    replace h := seeCons_use h
    rcases h with h | ⟨a1, q2, rfl, h⟩
    · exact hC _ _ _ _ _ _ _ hS ha h
    replace h := seeV_use h
    rcases h with h | ⟨rfl, h⟩
    · exact hC _ _ _ _ _ _ _ hS ha h
    replace h := seeCons_use h
    rcases h with h | ⟨a3, q4, rfl, h⟩
    · exact hC _ _ _ _ _ _ _ hS ha h
    replace h := seeI_use h
    rcases h with h | ⟨p, rfl, h⟩
    · exact hC _ _ _ _ _ _ _ hS ha h
    replace h := seeCons_use h
    rcases h with h | ⟨a5, q6, rfl, h⟩
    · exact hC _ _ _ _ _ _ _ hS ha h
    replace h := seeV_use h
    rcases h with h | ⟨rfl, h⟩
    · exact hC _ _ _ _ _ _ _ hS ha h
    replace h := seeCons_use h
    rcases h with h | ⟨a7, q8, rfl, h⟩
    · exact hC _ _ _ _ _ _ _ hS ha h
    replace h := seeV_use h
    rcases h with h | ⟨rfl, h⟩
    · exact hC _ _ _ _ _ _ _ hS ha h
    replace h := seeNil_use h
    rcases h with h | ⟨rfl, h⟩
    · exact hC _ _ _ _ _ _ _ hS ha h
    replace h := seeCons_use h
    rcases h with h | ⟨a9, q10, rfl, h⟩
    · exact hC _ _ _ _ _ _ _ hS ha h
    replace h := seeBlk_use h
    rcases h with h | ⟨cs11, rfl, h⟩
    · exact hC _ _ _ _ _ _ _ hS ha h
    replace h := seeCons_use h
    rcases h with h | ⟨a12, q13, rfl, h⟩
    · exact hC _ _ _ _ _ _ _ hS ha h
    replace h := seeInts_use h
    rcases h with h | ⟨xs, rfl, h⟩
    · exact hC _ _ _ _ _ _ _ hS ha h
    replace h := seeNil_use h
    rcases h with h | ⟨rfl, h⟩
    · exact hC _ _ _ _ _ _ _ hS ha h
    replace h := seeNil_use h
    rcases h with h | ⟨rfl, h⟩
    · exact hC _ _ _ _ _ _ _ hS ha h
    exact cbody_use named C0_ok at48 (l := 1) rfl (LoopsOk.none _ _) (F48_3_10_ok  p xs K) hS ha h
  · exact hC _ _ _ _ _ _ _ hS ha h
abbrev Y48_3_11 : Type := Int → List Int → (Prop) → (Prop) → Prop
def F48_3_11  (p : Int) (xs : List Int) (k1 : Prop) (k2 : Prop) : Prop :=
  (bif (decide (p < (0 : Int))) then (k1) else (bif (decide (p > ((((List.length xs) - (0 : Nat)) : Nat) : Int))) then (k1) else (bif (decide ((7 : Int) > (IntKind.wrap .i64 (((((List.length xs) - (0 : Nat)) : Nat) : Int) - p)))) then (k1) else (bif ((decide ((0 : Int) ≤ (IntKind.wrap .i64 (p + (0 : Int))))) && (decide ((IntKind.wrap .i64 (p + (0 : Int))) < ((((List.length xs) - (0 : Nat)) : Nat) : Int)))) then (bif ((List.getD xs (Int.toNat (IntKind.wrap .i64 (p + (0 : Int)))) (0 : Int)) != (76 : Int)) then (k1) else (bif ((decide ((0 : Int) ≤ (IntKind.wrap .i64 (p + (1 : Int))))) && (decide ((IntKind.wrap .i64 (p + (1 : Int))) < ((((List.length xs) - (0 : Nat)) : Nat) : Int)))) then (bif ((List.getD xs (Int.toNat (IntKind.wrap .i64 (p + (1 : Int)))) (0 : Int)) != (139 : Int)) then (k1) else (bif ((decide ((0 : Int) ≤ (IntKind.wrap .i64 (p + (2 : Int))))) && (decide ((IntKind.wrap .i64 (p + (2 : Int))) < ((((List.length xs) - (0 : Nat)) : Nat) : Int)))) then (bif ((List.getD xs (Int.toNat (IntKind.wrap .i64 (p + (2 : Int)))) (0 : Int)) != (29 : Int)) then (k1) else (k2)) else False)) else False)) else False))))
theorem F48_3_11_ok  (p : Int) (xs : List Int) (K : V → Mem → Prop) : cbody Try.prog C0 (fun _ => none) 1000 (fnOf Try.prog 48) [(.sl 0 (0 : Nat) (none : Option Nat) (none : Option Nat)), (.I .i64 p), (.I .i64 (3 : Int)), (.I .i64 (11 : Int))] [⟨[.ints .u8 xs], 5, true, false⟩] K =
    F48_3_11  p xs (K (.B false) [⟨[.ints .u8 xs], 5, true, false⟩]) (K (.B true) [⟨[.ints .u8 xs], 5, true, false⟩]) := by kernel_rfl
def G48_3_11 : Y48_3_11 := F48_3_11 
def VT48_3_11 (f : Y48_3_11) (F : Prop) (args : List V) (m : Mem) (K : V → Mem → Prop) : Prop :=
  (seeCons args F fun a1 q2 => (seeV (.sl 0 (0 : Nat) (none : Option Nat) (none : Option Nat)) a1 F (seeCons q2 F fun a3 q4 => (seeI .i64 a3 F fun p => (seeCons q4 F fun a5 q6 => (seeV (.I .i64 (3 : Int)) a5 F (seeCons q6 F fun a7 q8 => (seeV (.I .i64 (11 : Int)) a7 F (seeNil q8 F (seeCons m F fun a9 q10 => (seeBlk 5 true false a9 F fun cs11 => (seeCons cs11 F fun a12 q13 => (seeInts .u8 a12 F fun xs => (seeNil q13 F (seeNil q10 F (f p xs (K (.B false) [⟨[.ints .u8 xs], 5, true, false⟩]) (K (.B true) [⟨[.ints .u8 xs], 5, true, false⟩])))))))))))))))))
def T48_3_11 (f : Y48_3_11) (C : CC) : CC := fun g args m K =>
  match Nat.beq g 48 with
  | true => VT48_3_11 f (C g args m K) args m K
  | false => C g args m K
set_option maxRecDepth 100000 in
theorem T48_3_11_ok {C : CC} (hC : CallsOk Try.prog C) : CallsOk Try.prog (T48_3_11 G48_3_11 C) := by
  intro g args m K E w cargs hS ha h
  unfold T48_3_11 at h
  split at h
  · rename_i hg
    obtain rfl := Nat.eq_of_beq_eq_true hg
    unfold VT48_3_11 at h
    replace h := seeCons_use h
    rcases h with h | ⟨a1, q2, rfl, h⟩
    · exact hC _ _ _ _ _ _ _ hS ha h
    replace h := seeV_use h
    rcases h with h | ⟨rfl, h⟩
    · exact hC _ _ _ _ _ _ _ hS ha h
    replace h := seeCons_use h
    rcases h with h | ⟨a3, q4, rfl, h⟩
    · exact hC _ _ _ _ _ _ _ hS ha h
    replace h := seeI_use h
    rcases h with h | ⟨p, rfl, h⟩
    · exact hC _ _ _ _ _ _ _ hS ha h
    replace h := seeCons_use h
    rcases h with h | ⟨a5, q6, rfl, h⟩
    · exact hC _ _ _ _ _ _ _ hS ha h
    replace h := seeV_use h
    rcases h with h | ⟨rfl, h⟩
    · exact hC _ _ _ _ _ _ _ hS ha h
    replace h := seeCons_use h
    rcases h with h | ⟨a7, q8, rfl, h⟩
    · exact hC _ _ _ _ _ _ _ hS ha h
    replace h := seeV_use h
    rcases h with h | ⟨rfl, h⟩
    · exact hC _ _ _ _ _ _ _ hS ha h
    replace h := seeNil_use h
    rcases h with h | ⟨rfl, h⟩
    · exact hC _ _ _ _ _ _ _ hS ha h
    replace h := seeCons_use h
    rcases h with h | ⟨a9, q10, rfl, h⟩
    · exact hC _ _ _ _ _ _ _ hS ha h
    replace h := seeBlk_use h
    rcases h with h | ⟨cs11, rfl, h⟩
    · exact hC _ _ _ _ _ _ _ hS ha h
    replace h := seeCons_use h
    rcases h with h | ⟨a12, q13, rfl, h⟩
    · exact hC _ _ _ _ _ _ _ hS ha h
    replace h := seeInts_use h
    rcases h with h | ⟨xs, rfl, h⟩
    · exact hC _ _ _ _ _ _ _ hS ha h
    replace h := seeNil_use h
    rcases h with h | ⟨rfl, h⟩
    · exact hC _ _ _ _ _ _ _ hS ha h
    replace h := seeNil_use h
    rcases h with h | ⟨rfl, h⟩
    · exact hC _ _ _ _ _ _ _ hS ha h
    exact cbody_use named C0_ok at48 (l := 1) rfl (LoopsOk.none _ _) (F48_3_11_ok  p xs K) hS ha h
  · exact hC _ _ _ _ _ _ _ hS ha h
abbrev Y48_3_12 : Type := Int → List Int → (Prop) → (Prop) → Prop
def F48_3_12  (p : Int) (xs : List Int) (k1 : Prop) (k2 : Prop) : Prop :=
  (bif (decide (p < (0 : Int))) then (k1) else (bif (decide (p > ((((List.length xs) - (0 : Nat)) : Nat) : Int))) then (k1) else (bif (decide ((7 : Int) > (IntKind.wrap .i64 (((((List.length xs) - (0 : Nat)) : Nat) : Int) - p)))) then (k1) else (bif ((decide ((0 : Int) ≤ (IntKind.wrap .i64 (p + (0 : Int))))) && (decide ((IntKind.wrap .i64 (p + (0 : Int))) < ((((List.length xs) - (0 : Nat)) : Nat) : Int)))) then (bif ((List.getD xs (Int.toNat (IntKind.wrap .i64 (p + (0 : Int)))) (0 : Int)) != (76 : Int)) then (k1) else (bif ((decide ((0 : Int) ≤ (IntKind.wrap .i64 (p + (1 : Int))))) && (decide ((IntKind.wrap .i64 (p + (1 : Int))) < ((((List.length xs) - (0 : Nat)) : Nat) : Int)))) then (bif ((List.getD xs (Int.toNat (IntKind.wrap .i64 (p + (1 : Int)))) (0 : Int)) != (139 : Int)) then (k1) else (bif ((decide ((0 : Int) ≤ (IntKind.wrap .i64 (p + (2 : Int))))) && (decide ((IntKind.wrap .i64 (p + (2 : Int))) < ((((List.length xs) - (0 : Nat)) : Nat) : Int)))) then (bif ((List.getD xs (Int.toNat (IntKind.wrap .i64 (p + (2 : Int)))) (0 : Int)) != (37 : Int)) then (k1) else (k2)) else False)) else False)) else False))))
theorem F48_3_12_ok  (p : Int) (xs : List Int) (K : V → Mem → Prop) : cbody Try.prog C0 (fun _ => none) 1000 (fnOf Try.prog 48) [(.sl 0 (0 : Nat) (none : Option Nat) (none : Option Nat)), (.I .i64 p), (.I .i64 (3 : Int)), (.I .i64 (12 : Int))] [⟨[.ints .u8 xs], 5, true, false⟩] K =
    F48_3_12  p xs (K (.B false) [⟨[.ints .u8 xs], 5, true, false⟩]) (K (.B true) [⟨[.ints .u8 xs], 5, true, false⟩]) := by kernel_rfl
def G48_3_12 : Y48_3_12 := F48_3_12 
def VT48_3_12 (f : Y48_3_12) (F : Prop) (args : List V) (m : Mem) (K : V → Mem → Prop) : Prop :=
  (seeCons args F fun a1 q2 => (seeV (.sl 0 (0 : Nat) (none : Option Nat) (none : Option Nat)) a1 F (seeCons q2 F fun a3 q4 => (seeI .i64 a3 F fun p => (seeCons q4 F fun a5 q6 => (seeV (.I .i64 (3 : Int)) a5 F (seeCons q6 F fun a7 q8 => (seeV (.I .i64 (12 : Int)) a7 F (seeNil q8 F (seeCons m F fun a9 q10 => (seeBlk 5 true false a9 F fun cs11 => (seeCons cs11 F fun a12 q13 => (seeInts .u8 a12 F fun xs => (seeNil q13 F (seeNil q10 F (f p xs (K (.B false) [⟨[.ints .u8 xs], 5, true, false⟩]) (K (.B true) [⟨[.ints .u8 xs], 5, true, false⟩])))))))))))))))))
def T48_3_12 (f : Y48_3_12) (C : CC) : CC := fun g args m K =>
  match Nat.beq g 48 with
  | true => VT48_3_12 f (C g args m K) args m K
  | false => C g args m K
set_option maxRecDepth 100000 in
theorem T48_3_12_ok {C : CC} (hC : CallsOk Try.prog C) : CallsOk Try.prog (T48_3_12 G48_3_12 C) := by
  intro g args m K E w cargs hS ha h
  unfold T48_3_12 at h
  split at h
  · rename_i hg
    obtain rfl := Nat.eq_of_beq_eq_true hg
    unfold VT48_3_12 at h
    replace h := seeCons_use h
    rcases h with h | ⟨a1, q2, rfl, h⟩
    · exact hC _ _ _ _ _ _ _ hS ha h
    replace h := seeV_use h
    rcases h with h | ⟨rfl, h⟩
    · exact hC _ _ _ _ _ _ _ hS ha h
    replace h := seeCons_use h
    rcases h with h | ⟨a3, q4, rfl, h⟩
    · exact hC _ _ _ _ _ _ _ hS ha h
    replace h := seeI_use h
    rcases h with h | ⟨p, rfl, h⟩
    · exact hC _ _ _ _ _ _ _ hS ha h
    replace h := seeCons_use h
    rcases h with h | ⟨a5, q6, rfl, h⟩
    · exact hC _ _ _ _ _ _ _ hS ha h
    replace h := seeV_use h
    rcases h with h | ⟨rfl, h⟩
    · exact hC _ _ _ _ _ _ _ hS ha h
    replace h := seeCons_use h
    rcases h with h | ⟨a7, q8, rfl, h⟩
    · exact hC _ _ _ _ _ _ _ hS ha h
    replace h := seeV_use h
    rcases h with h | ⟨rfl, h⟩
    · exact hC _ _ _ _ _ _ _ hS ha h
    replace h := seeNil_use h
    rcases h with h | ⟨rfl, h⟩
    · exact hC _ _ _ _ _ _ _ hS ha h
    replace h := seeCons_use h
    rcases h with h | ⟨a9, q10, rfl, h⟩
    · exact hC _ _ _ _ _ _ _ hS ha h
    replace h := seeBlk_use h
    rcases h with h | ⟨cs11, rfl, h⟩
    · exact hC _ _ _ _ _ _ _ hS ha h
    replace h := seeCons_use h
    rcases h with h | ⟨a12, q13, rfl, h⟩
    · exact hC _ _ _ _ _ _ _ hS ha h
    replace h := seeInts_use h
    rcases h with h | ⟨xs, rfl, h⟩
    · exact hC _ _ _ _ _ _ _ hS ha h
    replace h := seeNil_use h
    rcases h with h | ⟨rfl, h⟩
    · exact hC _ _ _ _ _ _ _ hS ha h
    replace h := seeNil_use h
    rcases h with h | ⟨rfl, h⟩
    · exact hC _ _ _ _ _ _ _ hS ha h
    exact cbody_use named C0_ok at48 (l := 1) rfl (LoopsOk.none _ _) (F48_3_12_ok  p xs K) hS ha h
  · exact hC _ _ _ _ _ _ _ hS ha h
abbrev Y48_3_13 : Type := Int → List Int → (Prop) → (Prop) → Prop
def F48_3_13  (p : Int) (xs : List Int) (k1 : Prop) (k2 : Prop) : Prop :=
  (bif (decide (p < (0 : Int))) then (k1) else (bif (decide (p > ((((List.length xs) - (0 : Nat)) : Nat) : Int))) then (k1) else (bif (decide ((7 : Int) > (IntKind.wrap .i64 (((((List.length xs) - (0 : Nat)) : Nat) : Int) - p)))) then (k1) else (bif ((decide ((0 : Int) ≤ (IntKind.wrap .i64 (p + (0 : Int))))) && (decide ((IntKind.wrap .i64 (p + (0 : Int))) < ((((List.length xs) - (0 : Nat)) : Nat) : Int)))) then (bif ((List.getD xs (Int.toNat (IntKind.wrap .i64 (p + (0 : Int)))) (0 : Int)) != (76 : Int)) then (k1) else (bif ((decide ((0 : Int) ≤ (IntKind.wrap .i64 (p + (1 : Int))))) && (decide ((IntKind.wrap .i64 (p + (1 : Int))) < ((((List.length xs) - (0 : Nat)) : Nat) : Int)))) then (bif ((List.getD xs (Int.toNat (IntKind.wrap .i64 (p + (1 : Int)))) (0 : Int)) != (139 : Int)) then (k1) else (bif ((decide ((0 : Int) ≤ (IntKind.wrap .i64 (p + (2 : Int))))) && (decide ((IntKind.wrap .i64 (p + (2 : Int))) < ((((List.length xs) - (0 : Nat)) : Nat) : Int)))) then (bif ((List.getD xs (Int.toNat (IntKind.wrap .i64 (p + (2 : Int)))) (0 : Int)) != (45 : Int)) then (k1) else (k2)) else False)) else False)) else False))))
theorem F48_3_13_ok  (p : Int) (xs : List Int) (K : V → Mem → Prop) : cbody Try.prog C0 (fun _ => none) 1000 (fnOf Try.prog 48) [(.sl 0 (0 : Nat) (none : Option Nat) (none : Option Nat)), (.I .i64 p), (.I .i64 (3 : Int)), (.I .i64 (13 : Int))] [⟨[.ints .u8 xs], 5, true, false⟩] K =
    F48_3_13  p xs (K (.B false) [⟨[.ints .u8 xs], 5, true, false⟩]) (K (.B true) [⟨[.ints .u8 xs], 5, true, false⟩]) := by kernel_rfl
def G48_3_13 : Y48_3_13 := F48_3_13 
def VT48_3_13 (f : Y48_3_13) (F : Prop) (args : List V) (m : Mem) (K : V → Mem → Prop) : Prop :=
  (seeCons args F fun a1 q2 => (seeV (.sl 0 (0 : Nat) (none : Option Nat) (none : Option Nat)) a1 F (seeCons q2 F fun a3 q4 => (seeI .i64 a3 F fun p => (seeCons q4 F fun a5 q6 => (seeV (.I .i64 (3 : Int)) a5 F (seeCons q6 F fun a7 q8 => (seeV (.I .i64 (13 : Int)) a7 F (seeNil q8 F (seeCons m F fun a9 q10 => (seeBlk 5 true false a9 F fun cs11 => (seeCons cs11 F fun a12 q13 => (seeInts .u8 a12 F fun xs => (seeNil q13 F (seeNil q10 F (f p xs (K (.B false) [⟨[.ints .u8 xs], 5, true, false⟩]) (K (.B true) [⟨[.ints .u8 xs], 5, true, false⟩])))))))))))))))))
def T48_3_13 (f : Y48_3_13) (C : CC) : CC := fun g args m K =>
  match Nat.beq g 48 with
  | true => VT48_3_13 f (C g args m K) args m K
  | false => C g args m K
set_option maxRecDepth 100000 in
theorem T48_3_13_ok {C : CC} (hC : CallsOk Try.prog C) : CallsOk Try.prog (T48_3_13 G48_3_13 C) := by
  intro g args m K E w cargs hS ha h
  unfold T48_3_13 at h
  split at h
  · rename_i hg
    obtain rfl := Nat.eq_of_beq_eq_true hg
    unfold VT48_3_13 at h
    replace h := seeCons_use h
    rcases h with h | ⟨a1, q2, rfl, h⟩
    · exact hC _ _ _ _ _ _ _ hS ha h
    replace h := seeV_use h
    rcases h with h | ⟨rfl, h⟩
    · exact hC _ _ _ _ _ _ _ hS ha h
    replace h := seeCons_use h
    rcases h with h | ⟨a3, q4, rfl, h⟩
    · exact hC _ _ _ _ _ _ _ hS ha h
    replace h := seeI_use h
    rcases h with h | ⟨p, rfl, h⟩
    · exact hC _ _ _ _ _ _ _ hS ha h
    replace h := seeCons_use h
    rcases h with h | ⟨a5, q6, rfl, h⟩
    · exact hC _ _ _ _ _ _ _ hS ha h
    replace h := seeV_use h
    rcases h with h | ⟨rfl, h⟩
    · exact hC _ _ _ _ _ _ _ hS ha h
    replace h := seeCons_use h
    rcases h with h | ⟨a7, q8, rfl, h⟩
    · exact hC _ _ _ _ _ _ _ hS ha h
    replace h := seeV_use h
    rcases h with h | ⟨rfl, h⟩
    · exact hC _ _ _ _ _ _ _ hS ha h
    replace h := seeNil_use h
    rcases h with h | ⟨rfl, h⟩
    · exact hC _ _ _ _ _ _ _ hS ha h
    replace h := seeCons_use h
    rcases h with h | ⟨a9, q10, rfl, h⟩
    · exact hC _ _ _ _ _ _ _ hS ha h
    replace h := seeBlk_use h
    rcases h with h | ⟨cs11, rfl, h⟩
    · exact hC _ _ _ _ _ _ _ hS ha h
    replace h := seeCons_use h
    rcases h with h | ⟨a12, q13, rfl, h⟩
    · exact hC _ _ _ _ _ _ _ hS ha h
    replace h := seeInts_use h
    rcases h with h | ⟨xs, rfl, h⟩
    · exact hC _ _ _ _ _ _ _ hS ha h
    replace h := seeNil_use h
    rcases h with h | ⟨rfl, h⟩
    · exact hC _ _ _ _ _ _ _ hS ha h
    replace h := seeNil_use h
    rcases h with h | ⟨rfl, h⟩
    · exact hC _ _ _ _ _ _ _ hS ha h
    exact cbody_use named C0_ok at48 (l := 1) rfl (LoopsOk.none _ _) (F48_3_13_ok  p xs K) hS ha h
  · exact hC _ _ _ _ _ _ _ hS ha h
abbrev Y48_3_14 : Type := Int → List Int → (Prop) → (Prop) → Prop
def F48_3_14  (p : Int) (xs : List Int) (k1 : Prop) (k2 : Prop) : Prop :=
  (bif (decide (p < (0 : Int))) then (k1) else (bif (decide (p > ((((List.length xs) - (0 : Nat)) : Nat) : Int))) then (k1) else (bif (decide ((7 : Int) > (IntKind.wrap .i64 (((((List.length xs) - (0 : Nat)) : Nat) : Int) - p)))) then (k1) else (bif ((decide ((0 : Int) ≤ (IntKind.wrap .i64 (p + (0 : Int))))) && (decide ((IntKind.wrap .i64 (p + (0 : Int))) < ((((List.length xs) - (0 : Nat)) : Nat) : Int)))) then (bif ((List.getD xs (Int.toNat (IntKind.wrap .i64 (p + (0 : Int)))) (0 : Int)) != (76 : Int)) then (k1) else (bif ((decide ((0 : Int) ≤ (IntKind.wrap .i64 (p + (1 : Int))))) && (decide ((IntKind.wrap .i64 (p + (1 : Int))) < ((((List.length xs) - (0 : Nat)) : Nat) : Int)))) then (bif ((List.getD xs (Int.toNat (IntKind.wrap .i64 (p + (1 : Int)))) (0 : Int)) != (139 : Int)) then (k1) else (bif ((decide ((0 : Int) ≤ (IntKind.wrap .i64 (p + (2 : Int))))) && (decide ((IntKind.wrap .i64 (p + (2 : Int))) < ((((List.length xs) - (0 : Nat)) : Nat) : Int)))) then (bif ((List.getD xs (Int.toNat (IntKind.wrap .i64 (p + (2 : Int)))) (0 : Int)) != (53 : Int)) then (k1) else (k2)) else False)) else False)) else False))))
theorem F48_3_14_ok  (p : Int) (xs : List Int) (K : V → Mem → Prop) : cbody Try.prog C0 (fun _ => none) 1000 (fnOf Try.prog 48) [(.sl 0 (0 : Nat) (none : Option Nat) (none : Option Nat)), (.I .i64 p), (.I .i64 (3 : Int)), (.I .i64 (14 : Int))] [⟨[.ints .u8 xs], 5, true, false⟩] K =
    F48_3_14  p xs (K (.B false) [⟨[.ints .u8 xs], 5, true, false⟩]) (K (.B true) [⟨[.ints .u8 xs], 5, true, false⟩]) := by kernel_rfl
def G48_3_14 : Y48_3_14 := F48_3_14 
def VT48_3_14 (f : Y48_3_14) (F : Prop) (args : List V) (m : Mem) (K : V → Mem → Prop) : Prop :=
  (seeCons args F fun a1 q2 => (seeV (.sl 0 (0 : Nat) (none : Option Nat) (none : Option Nat)) a1 F (seeCons q2 F fun a3 q4 => (seeI .i64 a3 F fun p => (seeCons q4 F fun a5 q6 => (seeV (.I .i64 (3 : Int)) a5 F (seeCons q6 F fun a7 q8 => (seeV (.I .i64 (14 : Int)) a7 F (seeNil q8 F (seeCons m F fun a9 q10 => (seeBlk 5 true false a9 F fun cs11 => (seeCons cs11 F fun a12 q13 => (seeInts .u8 a12 F fun xs => (seeNil q13 F (seeNil q10 F (f p xs (K (.B false) [⟨[.ints .u8 xs], 5, true, false⟩]) (K (.B true) [⟨[.ints .u8 xs], 5, true, false⟩])))))))))))))))))
def T48_3_14 (f : Y48_3_14) (C : CC) : CC := fun g args m K =>
  match Nat.beq g 48 with
  | true => VT48_3_14 f (C g args m K) args m K
  | false => C g args m K
set_option maxRecDepth 100000 in
theorem T48_3_14_ok {C : CC} (hC : CallsOk Try.prog C) : CallsOk Try.prog (T48_3_14 G48_3_14 C) := by
  intro g args m K E w cargs hS ha h
  unfold T48_3_14 at h
  split at h
  · rename_i hg
    obtain rfl := Nat.eq_of_beq_eq_true hg
    unfold VT48_3_14 at h
    replace h := seeCons_use h
    rcases h with h | ⟨a1, q2, rfl, h⟩
    · exact hC _ _ _ _ _ _ _ hS ha h
    replace h := seeV_use h
    rcases h with h | ⟨rfl, h⟩
    · exact hC _ _ _ _ _ _ _ hS ha h
    replace h := seeCons_use h
    rcases h with h | ⟨a3, q4, rfl, h⟩
    · exact hC _ _ _ _ _ _ _ hS ha h
    replace h := seeI_use h
    rcases h with h | ⟨p, rfl, h⟩
    · exact hC _ _ _ _ _ _ _ hS ha h
    replace h := seeCons_use h
    rcases h with h | ⟨a5, q6, rfl, h⟩
    · exact hC _ _ _ _ _ _ _ hS ha h
    replace h := seeV_use h
    rcases h with h | ⟨rfl, h⟩
    · exact hC _ _ _ _ _ _ _ hS ha h
    replace h := seeCons_use h
    rcases h with h | ⟨a7, q8, rfl, h⟩
    · exact hC _ _ _ _ _ _ _ hS ha h
    replace h := seeV_use h
    rcases h with h | ⟨rfl, h⟩
    · exact hC _ _ _ _ _ _ _ hS ha h
    replace h := seeNil_use h
    rcases h with h | ⟨rfl, h⟩
    · exact hC _ _ _ _ _ _ _ hS ha h
    replace h := seeCons_use h
    rcases h with h | ⟨a9, q10, rfl, h⟩
    · exact hC _ _ _ _ _ _ _ hS ha h
    replace h := seeBlk_use h
    rcases h with h | ⟨cs11, rfl, h⟩
    · exact hC _ _ _ _ _ _ _ hS ha h
    replace h := seeCons_use h
    rcases h with h | ⟨a12, q13, rfl, h⟩
    · exact hC _ _ _ _ _ _ _ hS ha h
    replace h := seeInts_use h
    rcases h with h | ⟨xs, rfl, h⟩
    · exact hC _ _ _ _ _ _ _ hS ha h
    replace h := seeNil_use h
    rcases h with h | ⟨rfl, h⟩
    · exact hC _ _ _ _ _ _ _ hS ha h
    replace h := seeNil_use h
    rcases h with h | ⟨rfl, h⟩
    · exact hC _ _ _ _ _ _ _ hS ha h
    exact cbody_use named C0_ok at48 (l := 1) rfl (LoopsOk.none _ _) (F48_3_14_ok  p xs K) hS ha h
  · exact hC _ _ _ _ _ _ _ hS ha h
abbrev Y48_3_15 : Type := Int → List Int → (Prop) → (Prop) → Prop
def F48_3_15  (p : Int) (xs : List Int) (k1 : Prop) (k2 : Prop) : Prop :=
  (bif (decide (p < (0 : Int))) then (k1) else (bif (decide (p > ((((List.length xs) - (0 : Nat)) : Nat) : Int))) then (k1) else (bif (decide ((7 : Int) > (IntKind.wrap .i64 (((((List.length xs) - (0 : Nat)) : Nat) : Int) - p)))) then (k1) else (bif ((decide ((0 : Int) ≤ (IntKind.wrap .i64 (p + (0 : Int))))) && (decide ((IntKind.wrap .i64 (p + (0 : Int))) < ((((List.length xs) - (0 : Nat)) : Nat) : Int)))) then (bif ((List.getD xs (Int.toNat (IntKind.wrap .i64 (p + (0 : Int)))) (0 : Int)) != (76 : Int)) then (k1) else (bif ((decide ((0 : Int) ≤ (IntKind.wrap .i64 (p + (1 : Int))))) && (decide ((IntKind.wrap .i64 (p + (1 : Int))) < ((((List.length xs) - (0 : Nat)) : Nat) : Int)))) then (bif ((List.getD xs (Int.toNat (IntKind.wrap .i64 (p + (1 : Int)))) (0 : Int)) != (139 : Int)) then (k1) else (bif ((decide ((0 : Int) ≤ (IntKind.wrap .i64 (p + (2 : Int))))) && (decide ((IntKind.wrap .i64 (p + (2 : Int))) < ((((List.length xs) - (0 : Nat)) : Nat) : Int)))) then (bif ((List.getD xs (Int.toNat (IntKind.wrap .i64 (p + (2 : Int)))) (0 : Int)) != (61 : Int)) then (k1) else (k2)) else False)) else False)) else False))))
theorem F48_3_15_ok  (p : Int) (xs : List Int) (K : V → Mem → Prop) : cbody Try.prog C0 (fun _ => none) 1000 (fnOf Try.prog 48) [(.sl 0 (0 : Nat) (none : Option Nat) (none : Option Nat)), (.I .i64 p), (.I .i64 (3 : Int)), (.I .i64 (15 : Int))] [⟨[.ints .u8 xs], 5, true, false⟩] K =
    F48_3_15  p xs (K (.B false) [⟨[.ints .u8 xs], 5, true, false⟩]) (K (.B true) [⟨[.ints .u8 xs], 5, true, false⟩]) := by kernel_rfl
def G48_3_15 : Y48_3_15 := F48_3_15 
def VT48_3_15 (f : Y48_3_15) (F : Prop) (args : List V) (m : Mem) (K : V → Mem → Prop) : Prop :=
  (seeCons args F fun a1 q2 => (seeV (.sl 0 (0 : Nat) (none : Option Nat) (none : Option Nat)) a1 F (seeCons q2 F fun a3 q4 => (seeI .i64 a3 F fun p => (seeCons q4 F fun a5 q6 => (seeV (.I .i64 (3 : Int)) a5 F (seeCons q6 F fun a7 q8 => (seeV (.I .i64 (15 : Int)) a7 F (seeNil q8 F (seeCons m F fun a9 q10 => (seeBlk 5 true false a9 F fun cs11 => (seeCons cs11 F fun a12 q13 => (seeInts .u8 a12 F fun xs => (seeNil q13 F (seeNil q10 F (f p xs (K (.B false) [⟨[.ints .u8 xs], 5, true, false⟩]) (K (.B true) [⟨[.ints .u8 xs], 5, true, false⟩])))))))))))))))))
def T48_3_15 (f : Y48_3_15) (C : CC) : CC := fun g args m K =>
  match Nat.beq g 48 with
  | true => VT48_3_15 f (C g args m K) args m K
  | false => C g args m K
set_option maxRecDepth 100000 in
theorem T48_3_15_ok {C : CC} (hC : CallsOk Try.prog C) : CallsOk Try.prog (T48_3_15 G48_3_15 C) := by
  intro g args m K E w cargs hS ha h
  unfold T48_3_15 at h
  split at h
  · rename_i hg
    obtain rfl := Nat.eq_of_beq_eq_true hg
    unfold VT48_3_15 at h
    replace h := seeCons_use h
    rcases h with h | ⟨a1, q2, rfl, h⟩
    · exact hC _ _ _ _ _ _ _ hS ha h
    replace h := seeV_use h
    rcases h with h | ⟨rfl, h⟩
    · exact hC _ _ _ _ _ _ _ hS ha h
    replace h := seeCons_use h
    rcases h with h | ⟨a3, q4, rfl, h⟩
    · exact hC _ _ _ _ _ _ _ hS ha h
    replace h := seeI_use h
    rcases h with h | ⟨p, rfl, h⟩
    · exact hC _ _ _ _ _ _ _ hS ha h
    replace h := seeCons_use h
    rcases h with h | ⟨a5, q6, rfl, h⟩
    · exact hC _ _ _ _ _ _ _ hS ha h
    replace h := seeV_use h
    rcases h with h | ⟨rfl, h⟩
    · exact hC _ _ _ _ _ _ _ hS ha h
    replace h := seeCons_use h
    rcases h with h | ⟨a7, q8, rfl, h⟩
    · exact hC _ _ _ _ _ _ _ hS ha h
    replace h := seeV_use h
    rcases h with h | ⟨rfl, h⟩
    · exact hC _ _ _ _ _ _ _ hS ha h
    replace h := seeNil_use h
    rcases h with h | ⟨rfl, h⟩
    · exact hC _ _ _ _ _ _ _ hS ha h
    replace h := seeCons_use h
    rcases h with h | ⟨a9, q10, rfl, h⟩
    · exact hC _ _ _ _ _ _ _ hS ha h
    replace h := seeBlk_use h
    rcases h with h | ⟨cs11, rfl, h⟩
    · exact hC _ _ _ _ _ _ _ hS ha h
    replace h := seeCons_use h
    rcases h with h | ⟨a12, q13, rfl, h⟩
    · exact hC _ _ _ _ _ _ _ hS ha h
    replace h := seeInts_use h
    rcases h with h | ⟨xs, rfl, h⟩
    · exact hC _ _ _ _ _ _ _ hS ha h
    replace h := seeNil_use h
    rcases h with h | ⟨rfl, h⟩
    · exact hC _ _ _ _ _ _ _ hS ha h
    replace h := seeNil_use h
    rcases h with h | ⟨rfl, h⟩
    · exact hC _ _ _ _ _ _ _ hS ha h
    exact cbody_use named C0_ok at48 (l := 1) rfl (LoopsOk.none _ _) (F48_3_15_ok  p xs K) hS ha h
  · exact hC _ _ _ _ _ _ _ hS ha h
theorem at18 : Try.prog.funcs[18]? = some (fnOf Try.prog 18) := by kernel_rfl
abbrev Y18 : Type := Int → Int → List Int → (Int → Prop) → (Int → Int → Prop) → (Int → Int → Prop) → (Int → Int → Prop) → (Int → Prop) → Prop
def F18 (f48_1 : Y48_1) (f48_2 : Y48_2) (f48_3_0 : Y48_3_0) (f48_3_1 : Y48_3_1) (f48_3_2 : Y48_3_2) (f48_3_3 : Y48_3_3) (f48_3_4 : Y48_3_4) (f48_3_5 : Y48_3_5) (f48_3_6 : Y48_3_6) (f48_3_7 : Y48_3_7) (f48_3_8 : Y48_3_8) (f48_3_9 : Y48_3_9) (f48_3_10 : Y48_3_10) (f48_3_11 : Y48_3_11) (f48_3_12 : Y48_3_12) (f48_3_13 : Y48_3_13) (f48_3_14 : Y48_3_14) (f48_3_15 : Y48_3_15) (pa : Int) (t : Int) (xs : List Int) (k1 : Int → Prop) (k2 : Int → Int → Prop) (k3 : Int → Int → Prop) (k4 : Int → Int → Prop) (k5 : Int → Prop) : Prop :=
  (bif (t == (19 : Int)) then (f48_1 (IntKind.wrap .i64 (pa - (4 : Int))) xs ((k1 (0 : Int))) ((k2 (IntKind.wrap .i64 (pa - (4 : Int))) (0 : Int)))) else (bif (t == (20 : Int)) then (f48_2 (IntKind.wrap .i64 (pa - (3 : Int))) xs ((k1 (0 : Int))) ((k3 (IntKind.wrap .i64 (pa - (3 : Int))) (0 : Int)))) else (bif (t == (22 : Int)) then (f48_3_0 (IntKind.wrap .i64 (pa - (3 : Int))) xs ((f48_3_1 (IntKind.wrap .i64 (pa - (3 : Int))) xs ((f48_3_2 (IntKind.wrap .i64 (pa - (3 : Int))) xs ((f48_3_3 (IntKind.wrap .i64 (pa - (3 : Int))) xs ((f48_3_4 (IntKind.wrap .i64 (pa - (3 : Int))) xs ((f48_3_5 (IntKind.wrap .i64 (pa - (3 : Int))) xs ((f48_3_6 (IntKind.wrap .i64 (pa - (3 : Int))) xs ((f48_3_7 (IntKind.wrap .i64 (pa - (3 : Int))) xs ((f48_3_8 (IntKind.wrap .i64 (pa - (3 : Int))) xs ((f48_3_9 (IntKind.wrap .i64 (pa - (3 : Int))) xs ((f48_3_10 (IntKind.wrap .i64 (pa - (3 : Int))) xs ((f48_3_11 (IntKind.wrap .i64 (pa - (3 : Int))) xs ((f48_3_12 (IntKind.wrap .i64 (pa - (3 : Int))) xs ((f48_3_13 (IntKind.wrap .i64 (pa - (3 : Int))) xs ((f48_3_14 (IntKind.wrap .i64 (pa - (3 : Int))) xs ((f48_3_15 (IntKind.wrap .i64 (pa - (3 : Int))) xs ((k1 (0 : Int))) ((k4 (IntKind.wrap .i64 (pa - (3 : Int))) (15 : Int))))) ((k4 (IntKind.wrap .i64 (pa - (3 : Int))) (14 : Int))))) ((k4 (IntKind.wrap .i64 (pa - (3 : Int))) (13 : Int))))) ((k4 (IntKind.wrap .i64 (pa - (3 : Int))) (12 : Int))))) ((k4 (IntKind.wrap .i64 (pa - (3 : Int))) (11 : Int))))) ((k4 (IntKind.wrap .i64 (pa - (3 : Int))) (10 : Int))))) ((k4 (IntKind.wrap .i64 (pa - (3 : Int))) (9 : Int))))) ((k4 (IntKind.wrap .i64 (pa - (3 : Int))) (8 : Int))))) ((k4 (IntKind.wrap .i64 (pa - (3 : Int))) (7 : Int))))) ((k4 (IntKind.wrap .i64 (pa - (3 : Int))) (6 : Int))))) ((k4 (IntKind.wrap .i64 (pa - (3 : Int))) (5 : Int))))) ((k4 (IntKind.wrap .i64 (pa - (3 : Int))) (4 : Int))))) ((k4 (IntKind.wrap .i64 (pa - (3 : Int))) (3 : Int))))) ((k4 (IntKind.wrap .i64 (pa - (3 : Int))) (2 : Int))))) ((k4 (IntKind.wrap .i64 (pa - (3 : Int))) (1 : Int))))) ((k4 (IntKind.wrap .i64 (pa - (3 : Int))) (0 : Int)))) else (bif (t == (23 : Int)) then (bif (decide (pa ≥ (0 : Int))) then (bif (decide (pa ≤ ((((List.length xs) - (0 : Nat)) : Nat) : Int))) then (bif (decide ((4 : Int) ≤ (IntKind.wrap .i64 (((((List.length xs) - (0 : Nat)) : Nat) : Int) - pa)))) then (k5 (0 : Int)) else (k1 (0 : Int))) else (k1 (0 : Int))) else (k1 (0 : Int))) else (k1 (0 : Int))))))
theorem F18_ok (f48_1 : Y48_1) (f48_2 : Y48_2) (f48_3_0 : Y48_3_0) (f48_3_1 : Y48_3_1) (f48_3_2 : Y48_3_2) (f48_3_3 : Y48_3_3) (f48_3_4 : Y48_3_4) (f48_3_5 : Y48_3_5) (f48_3_6 : Y48_3_6) (f48_3_7 : Y48_3_7) (f48_3_8 : Y48_3_8) (f48_3_9 : Y48_3_9) (f48_3_10 : Y48_3_10) (f48_3_11 : Y48_3_11) (f48_3_12 : Y48_3_12) (f48_3_13 : Y48_3_13) (f48_3_14 : Y48_3_14) (f48_3_15 : Y48_3_15) (pa : Int) (t : Int) (xs : List Int) (K : V → Mem → Prop) : cbody Try.prog (T48_1 f48_1 (T48_2 f48_2 (T48_3_0 f48_3_0 (T48_3_1 f48_3_1 (T48_3_2 f48_3_2 (T48_3_3 f48_3_3 (T48_3_4 f48_3_4 (T48_3_5 f48_3_5 (T48_3_6 f48_3_6 (T48_3_7 f48_3_7 (T48_3_8 f48_3_8 (T48_3_9 f48_3_9 (T48_3_10 f48_3_10 (T48_3_11 f48_3_11 (T48_3_12 f48_3_12 (T48_3_13 f48_3_13 (T48_3_14 f48_3_14 (T48_3_15 f48_3_15 C0)))))))))))))))))) (fun _ => none) 1000 (fnOf Try.prog 18) [(.sl 0 (0 : Nat) (none : Option Nat) (none : Option Nat)), (.I .i64 pa), (.I .i64 t)] [⟨[.ints .u8 xs], 5, true, false⟩] K =
    F18 f48_1 f48_2 f48_3_0 f48_3_1 f48_3_2 f48_3_3 f48_3_4 f48_3_5 f48_3_6 f48_3_7 f48_3_8 f48_3_9 f48_3_10 f48_3_11 f48_3_12 f48_3_13 f48_3_14 f48_3_15 pa t xs (fun (u0 : Int) => K (.tup [(.I .i64 (0 : Int)), (.I .i64 (0 : Int)), (.I .i64 (0 : Int)), (.I .i64 u0), (.I .i64 (210 : Int))]) [⟨[.ints .u8 xs], 5, true, false⟩]) (fun (u0 : Int) (u1 : Int) => K (.tup [(.I .i64 (1 : Int)), (.I .i64 u0), (.I .i64 (16 : Int)), (.I .i64 u1), (.I .i64 (0 : Int))]) [⟨[.ints .u8 xs], 5, true, false⟩]) (fun (u0 : Int) (u1 : Int) => K (.tup [(.I .i64 (2 : Int)), (.I .i64 u0), (.I .i64 (12 : Int)), (.I .i64 u1), (.I .i64 (0 : Int))]) [⟨[.ints .u8 xs], 5, true, false⟩]) (fun (u0 : Int) (u1 : Int) => K (.tup [(.I .i64 (3 : Int)), (.I .i64 u0), (.I .i64 (7 : Int)), (.I .i64 u1), (.I .i64 (0 : Int))]) [⟨[.ints .u8 xs], 5, true, false⟩]) (fun (u0 : Int) => K (.tup [(.I .i64 (4 : Int)), (.I .i64 pa), (.I .i64 (4 : Int)), (.I .i64 u0), (.I .i64 (0 : Int))]) [⟨[.ints .u8 xs], 5, true, false⟩]) := by kernel_rfl
def G18 : Y18 := F18 G48_1 G48_2 G48_3_0 G48_3_1 G48_3_2 G48_3_3 G48_3_4 G48_3_5 G48_3_6 G48_3_7 G48_3_8 G48_3_9 G48_3_10 G48_3_11 G48_3_12 G48_3_13 G48_3_14 G48_3_15
def VT18 (f : Y18) (F : Prop) (args : List V) (m : Mem) (K : V → Mem → Prop) : Prop :=
  (seeCons args F fun a1 q2 => (seeV (.sl 0 (0 : Nat) (none : Option Nat) (none : Option Nat)) a1 F (seeCons q2 F fun a3 q4 => (seeI .i64 a3 F fun pa => (seeCons q4 F fun a5 q6 => (seeI .i64 a5 F fun t => (seeNil q6 F (seeCons m F fun a7 q8 => (seeBlk 5 true false a7 F fun cs9 => (seeCons cs9 F fun a10 q11 => (seeInts .u8 a10 F fun xs => (seeNil q11 F (seeNil q8 F (f pa t xs (fun (u0 : Int) => K (.tup [(.I .i64 (0 : Int)), (.I .i64 (0 : Int)), (.I .i64 (0 : Int)), (.I .i64 u0), (.I .i64 (210 : Int))]) [⟨[.ints .u8 xs], 5, true, false⟩]) (fun (u0 : Int) (u1 : Int) => K (.tup [(.I .i64 (1 : Int)), (.I .i64 u0), (.I .i64 (16 : Int)), (.I .i64 u1), (.I .i64 (0 : Int))]) [⟨[.ints .u8 xs], 5, true, false⟩]) (fun (u0 : Int) (u1 : Int) => K (.tup [(.I .i64 (2 : Int)), (.I .i64 u0), (.I .i64 (12 : Int)), (.I .i64 u1), (.I .i64 (0 : Int))]) [⟨[.ints .u8 xs], 5, true, false⟩]) (fun (u0 : Int) (u1 : Int) => K (.tup [(.I .i64 (3 : Int)), (.I .i64 u0), (.I .i64 (7 : Int)), (.I .i64 u1), (.I .i64 (0 : Int))]) [⟨[.ints .u8 xs], 5, true, false⟩]) (fun (u0 : Int) => K (.tup [(.I .i64 (4 : Int)), (.I .i64 pa), (.I .i64 (4 : Int)), (.I .i64 u0), (.I .i64 (0 : Int))]) [⟨[.ints .u8 xs], 5, true, false⟩])))))))))))))))
def T18 (f : Y18) (C : CC) : CC := fun g args m K =>
  match Nat.beq g 18 with
  | true => VT18 f (C g args m K) args m K
  | false => C g args m K
set_option maxRecDepth 100000 in
theorem T18_ok {C : CC} (hC : CallsOk Try.prog C) : CallsOk Try.prog (T18 G18 C) := by
  intro g args m K E w cargs hS ha h
  unfold T18 at h
  split at h
  · rename_i hg
    obtain rfl := Nat.eq_of_beq_eq_true hg
    unfold VT18 at h
    replace h := seeCons_use h
    rcases h with h | ⟨a1, q2, rfl, h⟩
    · exact hC _ _ _ _ _ _ _ hS ha h
    replace h := seeV_use h
    rcases h with h | ⟨rfl, h⟩
    · exact hC _ _ _ _ _ _ _ hS ha h
    replace h := seeCons_use h
    rcases h with h | ⟨a3, q4, rfl, h⟩
    · exact hC _ _ _ _ _ _ _ hS ha h
    replace h := seeI_use h
    rcases h with h | ⟨pa, rfl, h⟩
    · exact hC _ _ _ _ _ _ _ hS ha h
    replace h := seeCons_use h
    rcases h with h | ⟨a5, q6, rfl, h⟩
    · exact hC _ _ _ _ _ _ _ hS ha h
    replace h := seeI_use h
    rcases h with h | ⟨t, rfl, h⟩
    · exact hC _ _ _ _ _ _ _ hS ha h
    replace h := seeNil_use h
    rcases h with h | ⟨rfl, h⟩
    · exact hC _ _ _ _ _ _ _ hS ha h
    replace h := seeCons_use h
    rcases h with h | ⟨a7, q8, rfl, h⟩
    · exact hC _ _ _ _ _ _ _ hS ha h
    replace h := seeBlk_use h
    rcases h with h | ⟨cs9, rfl, h⟩
    · exact hC _ _ _ _ _ _ _ hS ha h
    replace h := seeCons_use h
    rcases h with h | ⟨a10, q11, rfl, h⟩
    · exact hC _ _ _ _ _ _ _ hS ha h
    replace h := seeInts_use h
    rcases h with h | ⟨xs, rfl, h⟩
    · exact hC _ _ _ _ _ _ _ hS ha h
    replace h := seeNil_use h
    rcases h with h | ⟨rfl, h⟩
    · exact hC _ _ _ _ _ _ _ hS ha h
    replace h := seeNil_use h
    rcases h with h | ⟨rfl, h⟩
    · exact hC _ _ _ _ _ _ _ hS ha h
    exact cbody_use named (T48_1_ok (T48_2_ok (T48_3_0_ok (T48_3_1_ok (T48_3_2_ok (T48_3_3_ok (T48_3_4_ok (T48_3_5_ok (T48_3_6_ok (T48_3_7_ok (T48_3_8_ok (T48_3_9_ok (T48_3_10_ok (T48_3_11_ok (T48_3_12_ok (T48_3_13_ok (T48_3_14_ok (T48_3_15_ok C0_ok)))))))))))))))))) at18 (l := 1) rfl (LoopsOk.none _ _) (F18_ok G48_1 G48_2 G48_3_0 G48_3_1 G48_3_2 G48_3_3 G48_3_4 G48_3_5 G48_3_6 G48_3_7 G48_3_8 G48_3_9 G48_3_10 G48_3_11 G48_3_12 G48_3_13 G48_3_14 G48_3_15 pa t xs K) hS ha h
  · exact hC _ _ _ _ _ _ _ hS ha h
theorem at19 : Try.prog.funcs[19]? = some (fnOf Try.prog 19) := by kernel_rfl
abbrev Y19 : Type := Int → Int → Int → List Int → (Prop) → (Prop) → (Prop) → (List Int → Prop) → Prop
def F19 (f49 : Y49) (f50 : Y50) (f18 : Y18) (pa : Int) (t : Int) (off : Int) (xs : List Int) (k1 : Prop) (k2 : Prop) (k3 : Prop) (k4 : List Int → Prop) : Prop :=
  (bif (decide (((((List.length xs) - (0 : Nat)) : Nat) : Int) > (1048576 : Int))) then (k1) else (f18 pa t xs (fun (n1 : Int) => (k2)) (fun (n2 : Int) (n3 : Int) => (f49 off (fun (b4 : Bool) => (bif (!b4) then (k3) else (f50 off ((bif ((decide ((((0 : Nat) + ((List.length xs) - (0 : Nat))) * (1 : Nat)) ≤ (140737488355328 : Nat))) && (decide (((0 : Nat) + ((List.length xs) - (0 : Nat))) ≤ (140737488355328 : Nat)))) then (bif ((decide ((0 : Int) ≤ (IntKind.wrap .i64 (n2 + (0 : Int))))) && (decide ((IntKind.wrap .i64 (n2 + (0 : Int))) < ((((List.length xs) - (0 : Nat)) : Nat) : Int)))) then (bif ((decide ((0 : Int) ≤ (IntKind.wrap .i64 (n2 + (1 : Int))))) && (decide ((IntKind.wrap .i64 (n2 + (1 : Int))) < ((((List.length (List.set xs (Int.toNat (IntKind.wrap .i64 (n2 + (0 : Int)))) (100 : Int))) - (0 : Nat)) : Nat) : Int)))) then (bif ((decide ((0 : Int) ≤ (IntKind.wrap .i64 (n2 + (2 : Int))))) && (decide ((IntKind.wrap .i64 (n2 + (2 : Int))) < ((((List.length (List.set (List.set xs (Int.toNat (IntKind.wrap .i64 (n2 + (0 : Int)))) (100 : Int)) (Int.toNat (IntKind.wrap .i64 (n2 + (1 : Int)))) (72 : Int))) - (0 : Nat)) : Nat) : Int)))) then (bif ((decide ((0 : Int) ≤ (IntKind.wrap .i64 (n2 + (3 : Int))))) && (decide ((IntKind.wrap .i64 (n2 + (3 : Int))) < ((((List.length (List.set (List.set (List.set xs (Int.toNat (IntKind.wrap .i64 (n2 + (0 : Int)))) (100 : Int)) (Int.toNat (IntKind.wrap .i64 (n2 + (1 : Int)))) (72 : Int)) (Int.toNat (IntKind.wrap .i64 (n2 + (2 : Int)))) (139 : Int))) - (0 : Nat)) : Nat) : Int)))) then (bif ((decide ((0 : Int) ≤ (IntKind.wrap .i64 (n2 + (4 : Int))))) && (decide ((IntKind.wrap .i64 (n2 + (4 : Int))) < ((((List.length (List.set (List.set (List.set (List.set xs (Int.toNat (IntKind.wrap .i64 (n2 + (0 : Int)))) (100 : Int)) (Int.toNat (IntKind.wrap .i64 (n2 + (1 : Int)))) (72 : Int)) (Int.toNat (IntKind.wrap .i64 (n2 + (2 : Int)))) (139 : Int)) (Int.toNat (IntKind.wrap .i64 (n2 + (3 : Int)))) (4 : Int))) - (0 : Nat)) : Nat) : Int)))) then (bif ((decide ((0 : Int) ≤ (IntKind.wrap .i64 (n2 + (5 : Int))))) && (decide ((IntKind.wrap .i64 (n2 + (5 : Int))) < ((((List.length (List.set (List.set (List.set (List.set (List.set xs (Int.toNat (IntKind.wrap .i64 (n2 + (0 : Int)))) (100 : Int)) (Int.toNat (IntKind.wrap .i64 (n2 + (1 : Int)))) (72 : Int)) (Int.toNat (IntKind.wrap .i64 (n2 + (2 : Int)))) (139 : Int)) (Int.toNat (IntKind.wrap .i64 (n2 + (3 : Int)))) (4 : Int)) (Int.toNat (IntKind.wrap .i64 (n2 + (4 : Int)))) (37 : Int))) - (0 : Nat)) : Nat) : Int)))) then (bif ((decide ((0 : Int) ≤ (IntKind.wrap .i64 (n2 + (6 : Int))))) && (decide ((IntKind.wrap .i64 (n2 + (6 : Int))) < ((((List.length (List.set (List.set (List.set (List.set (List.set (List.set xs (Int.toNat (IntKind.wrap .i64 (n2 + (0 : Int)))) (100 : Int)) (Int.toNat (IntKind.wrap .i64 (n2 + (1 : Int)))) (72 : Int)) (Int.toNat (IntKind.wrap .i64 (n2 + (2 : Int)))) (139 : Int)) (Int.toNat (IntKind.wrap .i64 (n2 + (3 : Int)))) (4 : Int)) (Int.toNat (IntKind.wrap .i64 (n2 + (4 : Int)))) (37 : Int)) (Int.toNat (IntKind.wrap .i64 (n2 + (5 : Int)))) (0 : Int))) - (0 : Nat)) : Nat) : Int)))) then (bif ((decide ((0 : Int) ≤ (IntKind.wrap .i64 (n2 + (7 : Int))))) && (decide ((IntKind.wrap .i64 (n2 + (7 : Int))) < ((((List.length (List.set (List.set (List.set (List.set (List.set (List.set (List.set xs (Int.toNat (IntKind.wrap .i64 (n2 + (0 : Int)))) (100 : Int)) (Int.toNat (IntKind.wrap .i64 (n2 + (1 : Int)))) (72 : Int)) (Int.toNat (IntKind.wrap .i64 (n2 + (2 : Int)))) (139 : Int)) (Int.toNat (IntKind.wrap .i64 (n2 + (3 : Int)))) (4 : Int)) (Int.toNat (IntKind.wrap .i64 (n2 + (4 : Int)))) (37 : Int)) (Int.toNat (IntKind.wrap .i64 (n2 + (5 : Int)))) (0 : Int)) (Int.toNat (IntKind.wrap .i64 (n2 + (6 : Int)))) (0 : Int))) - (0 : Nat)) : Nat) : Int)))) then (bif ((decide ((0 : Int) ≤ (IntKind.wrap .i64 (n2 + (8 : Int))))) && (decide ((IntKind.wrap .i64 (n2 + (8 : Int))) < ((((List.length (List.set (List.set (List.set (List.set (List.set (List.set (List.set (List.set xs (Int.toNat (IntKind.wrap .i64 (n2 + (0 : Int)))) (100 : Int)) (Int.toNat (IntKind.wrap .i64 (n2 + (1 : Int)))) (72 : Int)) (Int.toNat (IntKind.wrap .i64 (n2 + (2 : Int)))) (139 : Int)) (Int.toNat (IntKind.wrap .i64 (n2 + (3 : Int)))) (4 : Int)) (Int.toNat (IntKind.wrap .i64 (n2 + (4 : Int)))) (37 : Int)) (Int.toNat (IntKind.wrap .i64 (n2 + (5 : Int)))) (0 : Int)) (Int.toNat (IntKind.wrap .i64 (n2 + (6 : Int)))) (0 : Int)) (Int.toNat (IntKind.wrap .i64 (n2 + (7 : Int)))) (0 : Int))) - (0 : Nat)) : Nat) : Int)))) then (bif ((decide ((0 : Int) ≤ (IntKind.wrap .i64 (n2 + (9 : Int))))) && (decide ((IntKind.wrap .i64 (n2 + (9 : Int))) < ((((List.length (List.set (List.set (List.set (List.set (List.set (List.set (List.set (List.set (List.set xs (Int.toNat (IntKind.wrap .i64 (n2 + (0 : Int)))) (100 : Int)) (Int.toNat (IntKind.wrap .i64 (n2 + (1 : Int)))) (72 : Int)) (Int.toNat (IntKind.wrap .i64 (n2 + (2 : Int)))) (139 : Int)) (Int.toNat (IntKind.wrap .i64 (n2 + (3 : Int)))) (4 : Int)) (Int.toNat (IntKind.wrap .i64 (n2 + (4 : Int)))) (37 : Int)) (Int.toNat (IntKind.wrap .i64 (n2 + (5 : Int)))) (0 : Int)) (Int.toNat (IntKind.wrap .i64 (n2 + (6 : Int)))) (0 : Int)) (Int.toNat (IntKind.wrap .i64 (n2 + (7 : Int)))) (0 : Int)) (Int.toNat (IntKind.wrap .i64 (n2 + (8 : Int)))) (0 : Int))) - (0 : Nat)) : Nat) : Int)))) then (bif ((decide ((0 : Int) ≤ (IntKind.wrap .i64 (n2 + (10 : Int))))) && (decide ((IntKind.wrap .i64 (n2 + (10 : Int))) < ((((List.length (List.set (List.set (List.set (List.set (List.set (List.set (List.set (List.set (List.set (List.set xs (Int.toNat (IntKind.wrap .i64 (n2 + (0 : Int)))) (100 : Int)) (Int.toNat (IntKind.wrap .i64 (n2 + (1 : Int)))) (72 : Int)) (Int.toNat (IntKind.wrap .i64 (n2 + (2 : Int)))) (139 : Int)) (Int.toNat (IntKind.wrap .i64 (n2 + (3 : Int)))) (4 : Int)) (Int.toNat (IntKind.wrap .i64 (n2 + (4 : Int)))) (37 : Int)) (Int.toNat (IntKind.wrap .i64 (n2 + (5 : Int)))) (0 : Int)) (Int.toNat (IntKind.wrap .i64 (n2 + (6 : Int)))) (0 : Int)) (Int.toNat (IntKind.wrap .i64 (n2 + (7 : Int)))) (0 : Int)) (Int.toNat (IntKind.wrap .i64 (n2 + (8 : Int)))) (0 : Int)) (Int.toNat (IntKind.wrap .i64 (n2 + (9 : Int)))) (72 : Int))) - (0 : Nat)) : Nat) : Int)))) then (bif ((decide ((0 : Int) ≤ (IntKind.wrap .i64 (n2 + (11 : Int))))) && (decide ((IntKind.wrap .i64 (n2 + (11 : Int))) < ((((List.length (List.set (List.set (List.set (List.set (List.set (List.set (List.set (List.set (List.set (List.set (List.set xs (Int.toNat (IntKind.wrap .i64 (n2 + (0 : Int)))) (100 : Int)) (Int.toNat (IntKind.wrap .i64 (n2 + (1 : Int)))) (72 : Int)) (Int.toNat (IntKind.wrap .i64 (n2 + (2 : Int)))) (139 : Int)) (Int.toNat (IntKind.wrap .i64 (n2 + (3 : Int)))) (4 : Int)) (Int.toNat (IntKind.wrap .i64 (n2 + (4 : Int)))) (37 : Int)) (Int.toNat (IntKind.wrap .i64 (n2 + (5 : Int)))) (0 : Int)) (Int.toNat (IntKind.wrap .i64 (n2 + (6 : Int)))) (0 : Int)) (Int.toNat (IntKind.wrap .i64 (n2 + (7 : Int)))) (0 : Int)) (Int.toNat (IntKind.wrap .i64 (n2 + (8 : Int)))) (0 : Int)) (Int.toNat (IntKind.wrap .i64 (n2 + (9 : Int)))) (72 : Int)) (Int.toNat (IntKind.wrap .i64 (n2 + (10 : Int)))) (141 : Int))) - (0 : Nat)) : Nat) : Int)))) then False else False) else False) else False) else False) else False) else False) else False) else False) else False) else False) else False) else False) else False)) (fun (xs5 : List Int) => (bif ((decide ((((12 : Nat) + ((List.length xs5) - (0 : Nat))) * (1 : Nat)) ≤ (140737488355328 : Nat))) && (decide (((12 : Nat) + ((List.length xs5) - (0 : Nat))) ≤ (140737488355328 : Nat)))) then (bif ((decide ((((0 : Nat) + ((List.length xs) - (0 : Nat))) * (1 : Nat)) ≤ (140737488355328 : Nat))) && (decide (((0 : Nat) + ((List.length xs) - (0 : Nat))) ≤ (140737488355328 : Nat)))) then (bif (decide ((0 : Int) < ((((List.length (([(100 : Int), (72 : Int), (139 : Int), (4 : Int), (37 : Int), (0 : Int), (0 : Int), (0 : Int), (0 : Int), (72 : Int), (141 : Int), (128 : Int)] : List Int) ++ xs5)) - (0 : Nat)) : Nat) : Int))) then (bif ((decide ((0 : Int) ≤ (IntKind.wrap .i64 (n2 + (0 : Int))))) && (decide ((IntKind.wrap .i64 (n2 + (0 : Int))) < ((((List.length xs) - (0 : Nat)) : Nat) : Int)))) then (bif (decide ((1 : Int) < ((((List.length (([(100 : Int), (72 : Int), (139 : Int), (4 : Int), (37 : Int), (0 : Int), (0 : Int), (0 : Int), (0 : Int), (72 : Int), (141 : Int), (128 : Int)] : List Int) ++ xs5)) - (0 : Nat)) : Nat) : Int))) then (bif ((decide ((0 : Int) ≤ (IntKind.wrap .i64 (n2 + (1 : Int))))) && (decide ((IntKind.wrap .i64 (n2 + (1 : Int))) < ((((List.length (List.set xs (Int.toNat (IntKind.wrap .i64 (n2 + (0 : Int)))) (List.getD (([(100 : Int), (72 : Int), (139 : Int), (4 : Int), (37 : Int), (0 : Int), (0 : Int), (0 : Int), (0 : Int), (72 : Int), (141 : Int), (128 : Int)] : List Int) ++ xs5) (0 : Nat) (0 : Int)))) - (0 : Nat)) : Nat) : Int)))) then (bif (decide ((2 : Int) < ((((List.length (([(100 : Int), (72 : Int), (139 : Int), (4 : Int), (37 : Int), (0 : Int), (0 : Int), (0 : Int), (0 : Int), (72 : Int), (141 : Int), (128 : Int)] : List Int) ++ xs5)) - (0 : Nat)) : Nat) : Int))) then (bif ((decide ((0 : Int) ≤ (IntKind.wrap .i64 (n2 + (2 : Int))))) && (decide ((IntKind.wrap .i64 (n2 + (2 : Int))) < ((((List.length (List.set (List.set xs (Int.toNat (IntKind.wrap .i64 (n2 + (0 : Int)))) (List.getD (([(100 : Int), (72 : Int), (139 : Int), (4 : Int), (37 : Int), (0 : Int), (0 : Int), (0 : Int), (0 : Int), (72 : Int), (141 : Int), (128 : Int)] : List Int) ++ xs5) (0 : Nat) (0 : Int))) (Int.toNat (IntKind.wrap .i64 (n2 + (1 : Int)))) (List.getD (([(100 : Int), (72 : Int), (139 : Int), (4 : Int), (37 : Int), (0 : Int), (0 : Int), (0 : Int), (0 : Int), (72 : Int), (141 : Int), (128 : Int)] : List Int) ++ xs5) (1 : Nat) (0 : Int)))) - (0 : Nat)) : Nat) : Int)))) then (bif (decide ((3 : Int) < ((((List.length (([(100 : Int), (72 : Int), (139 : Int), (4 : Int), (37 : Int), (0 : Int), (0 : Int), (0 : Int), (0 : Int), (72 : Int), (141 : Int), (128 : Int)] : List Int) ++ xs5)) - (0 : Nat)) : Nat) : Int))) then (bif ((decide ((0 : Int) ≤ (IntKind.wrap .i64 (n2 + (3 : Int))))) && (decide ((IntKind.wrap .i64 (n2 + (3 : Int))) < ((((List.length (List.set (List.set (List.set xs (Int.toNat (IntKind.wrap .i64 (n2 + (0 : Int)))) (List.getD (([(100 : Int), (72 : Int), (139 : Int), (4 : Int), (37 : Int), (0 : Int), (0 : Int), (0 : Int), (0 : Int), (72 : Int), (141 : Int), (128 : Int)] : List Int) ++ xs5) (0 : Nat) (0 : Int))) (Int.toNat (IntKind.wrap .i64 (n2 + (1 : Int)))) (List.getD (([(100 : Int), (72 : Int), (139 : Int), (4 : Int), (37 : Int), (0 : Int), (0 : Int), (0 : Int), (0 : Int), (72 : Int), (141 : Int), (128 : Int)] : List Int) ++ xs5) (1 : Nat) (0 : Int))) (Int.toNat (IntKind.wrap .i64 (n2 + (2 : Int)))) (List.getD (([(100 : Int), (72 : Int), (139 : Int), (4 : Int), (37 : Int), (0 : Int), (0 : Int), (0 : Int), (0 : Int), (72 : Int), (141 : Int), (128 : Int)] : List Int) ++ xs5) (2 : Nat) (0 : Int)))) - (0 : Nat)) : Nat) : Int)))) then (bif (decide ((4 : Int) < ((((List.length (([(100 : Int), (72 : Int), (139 : Int), (4 : Int), (37 : Int), (0 : Int), (0 : Int), (0 : Int), (0 : Int), (72 : Int), (141 : Int), (128 : Int)] : List Int) ++ xs5)) - (0 : Nat)) : Nat) : Int))) then (bif ((decide ((0 : Int) ≤ (IntKind.wrap .i64 (n2 + (4 : Int))))) && (decide ((IntKind.wrap .i64 (n2 + (4 : Int))) < ((((List.length (List.set (List.set (List.set (List.set xs (Int.toNat (IntKind.wrap .i64 (n2 + (0 : Int)))) (List.getD (([(100 : Int), (72 : Int), (139 : Int), (4 : Int), (37 : Int), (0 : Int), (0 : Int), (0 : Int), (0 : Int), (72 : Int), (141 : Int), (128 : Int)] : List Int) ++ xs5) (0 : Nat) (0 : Int))) (Int.toNat (IntKind.wrap .i64 (n2 + (1 : Int)))) (List.getD (([(100 : Int), (72 : Int), (139 : Int), (4 : Int), (37 : Int), (0 : Int), (0 : Int), (0 : Int), (0 : Int), (72 : Int), (141 : Int), (128 : Int)] : List Int) ++ xs5) (1 : Nat) (0 : Int))) (Int.toNat (IntKind.wrap .i64 (n2 + (2 : Int)))) (List.getD (([(100 : Int), (72 : Int), (139 : Int), (4 : Int), (37 : Int), (0 : Int), (0 : Int), (0 : Int), (0 : Int), (72 : Int), (141 : Int), (128 : Int)] : List Int) ++ xs5) (2 : Nat) (0 : Int))) (Int.toNat (IntKind.wrap .i64 (n2 + (3 : Int)))) (List.getD (([(100 : Int), (72 : Int), (139 : Int), (4 : Int), (37 : Int), (0 : Int), (0 : Int), (0 : Int), (0 : Int), (72 : Int), (141 : Int), (128 : Int)] : List Int) ++ xs5) (3 : Nat) (0 : Int)))) - (0 : Nat)) : Nat) : Int)))) then (bif (decide ((5 : Int) < ((((List.length (([(100 : Int), (72 : Int), (139 : Int), (4 : Int), (37 : Int), (0 : Int), (0 : Int), (0 : Int), (0 : Int), (72 : Int), (141 : Int), (128 : Int)] : List Int) ++ xs5)) - (0 : Nat)) : Nat) : Int))) then (bif ((decide ((0 : Int) ≤ (IntKind.wrap .i64 (n2 + (5 : Int))))) && (decide ((IntKind.wrap .i64 (n2 + (5 : Int))) < ((((List.length (List.set (List.set (List.set (List.set (List.set xs (Int.toNat (IntKind.wrap .i64 (n2 + (0 : Int)))) (List.getD (([(100 : Int), (72 : Int), (139 : Int), (4 : Int), (37 : Int), (0 : Int), (0 : Int), (0 : Int), (0 : Int), (72 : Int), (141 : Int), (128 : Int)] : List Int) ++ xs5) (0 : Nat) (0 : Int))) (Int.toNat (IntKind.wrap .i64 (n2 + (1 : Int)))) (List.getD (([(100 : Int), (72 : Int), (139 : Int), (4 : Int), (37 : Int), (0 : Int), (0 : Int), (0 : Int), (0 : Int), (72 : Int), (141 : Int), (128 : Int)] : List Int) ++ xs5) (1 : Nat) (0 : Int))) (Int.toNat (IntKind.wrap .i64 (n2 + (2 : Int)))) (List.getD (([(100 : Int), (72 : Int), (139 : Int), (4 : Int), (37 : Int), (0 : Int), (0 : Int), (0 : Int), (0 : Int), (72 : Int), (141 : Int), (128 : Int)] : List Int) ++ xs5) (2 : Nat) (0 : Int))) (Int.toNat (IntKind.wrap .i64 (n2 + (3 : Int)))) (List.getD (([(100 : Int), (72 : Int), (139 : Int), (4 : Int), (37 : Int), (0 : Int), (0 : Int), (0 : Int), (0 : Int), (72 : Int), (141 : Int), (128 : Int)] : List Int) ++ xs5) (3 : Nat) (0 : Int))) (Int.toNat (IntKind.wrap .i64 (n2 + (4 : Int)))) (List.getD (([(100 : Int), (72 : Int), (139 : Int), (4 : Int), (37 : Int), (0 : Int), (0 : Int), (0 : Int), (0 : Int), (72 : Int), (141 : Int), (128 : Int)] : List Int) ++ xs5) (4 : Nat) (0 : Int)))) - (0 : Nat)) : Nat) : Int)))) then (bif (decide ((6 : Int) < ((((List.length (([(100 : Int), (72 : Int), (139 : Int), (4 : Int), (37 : Int), (0 : Int), (0 : Int), (0 : Int), (0 : Int), (72 : Int), (141 : Int), (128 : Int)] : List Int) ++ xs5)) - (0 : Nat)) : Nat) : Int))) then (bif ((decide ((0 : Int) ≤ (IntKind.wrap .i64 (n2 + (6 : Int))))) && (decide ((IntKind.wrap .i64 (n2 + (6 : Int))) < ((((List.length (List.set (List.set (List.set (List.set (List.set (List.set xs (Int.toNat (IntKind.wrap .i64 (n2 + (0 : Int)))) (List.getD (([(100 : Int), (72 : Int), (139 : Int), (4 : Int), (37 : Int), (0 : Int), (0 : Int), (0 : Int), (0 : Int), (72 : Int), (141 : Int), (128 : Int)] : List Int) ++ xs5) (0 : Nat) (0 : Int))) (Int.toNat (IntKind.wrap .i64 (n2 + (1 : Int)))) (List.getD (([(100 : Int), (72 : Int), (139 : Int), (4 : Int), (37 : Int), (0 : Int), (0 : Int), (0 : Int), (0 : Int), (72 : Int), (141 : Int), (128 : Int)] : List Int) ++ xs5) (1 : Nat) (0 : Int))) (Int.toNat (IntKind.wrap .i64 (n2 + (2 : Int)))) (List.getD (([(100 : Int), (72 : Int), (139 : Int), (4 : Int), (37 : Int), (0 : Int), (0 : Int), (0 : Int), (0 : Int), (72 : Int), (141 : Int), (128 : Int)] : List Int) ++ xs5) (2 : Nat) (0 : Int))) (Int.toNat (IntKind.wrap .i64 (n2 + (3 : Int)))) (List.getD (([(100 : Int), (72 : Int), (139 : Int), (4 : Int), (37 : Int), (0 : Int), (0 : Int), (0 : Int), (0 : Int), (72 : Int), (141 : Int), (128 : Int)] : List Int) ++ xs5) (3 : Nat) (0 : Int))) (Int.toNat (IntKind.wrap .i64 (n2 + (4 : Int)))) (List.getD (([(100 : Int), (72 : Int), (139 : Int), (4 : Int), (37 : Int), (0 : Int), (0 : Int), (0 : Int), (0 : Int), (72 : Int), (141 : Int), (128 : Int)] : List Int) ++ xs5) (4 : Nat) (0 : Int))) (Int.toNat (IntKind.wrap .i64 (n2 + (5 : Int)))) (List.getD (([(100 : Int), (72 : Int), (139 : Int), (4 : Int), (37 : Int), (0 : Int), (0 : Int), (0 : Int), (0 : Int), (72 : Int), (141 : Int), (128 : Int)] : List Int) ++ xs5) (5 : Nat) (0 : Int)))) - (0 : Nat)) : Nat) : Int)))) then (bif (decide ((7 : Int) < ((((List.length (([(100 : Int), (72 : Int), (139 : Int), (4 : Int), (37 : Int), (0 : Int), (0 : Int), (0 : Int), (0 : Int), (72 : Int), (141 : Int), (128 : Int)] : List Int) ++ xs5)) - (0 : Nat)) : Nat) : Int))) then (bif ((decide ((0 : Int) ≤ (IntKind.wrap .i64 (n2 + (7 : Int))))) && (decide ((IntKind.wrap .i64 (n2 + (7 : Int))) < ((((List.length (List.set (List.set (List.set (List.set (List.set (List.set (List.set xs (Int.toNat (IntKind.wrap .i64 (n2 + (0 : Int)))) (List.getD (([(100 : Int), (72 : Int), (139 : Int), (4 : Int), (37 : Int), (0 : Int), (0 : Int), (0 : Int), (0 : Int), (72 : Int), (141 : Int), (128 : Int)] : List Int) ++ xs5) (0 : Nat) (0 : Int))) (Int.toNat (IntKind.wrap .i64 (n2 + (1 : Int)))) (List.getD (([(100 : Int), (72 : Int), (139 : Int), (4 : Int), (37 : Int), (0 : Int), (0 : Int), (0 : Int), (0 : Int), (72 : Int), (141 : Int), (128 : Int)] : List Int) ++ xs5) (1 : Nat) (0 : Int))) (Int.toNat (IntKind.wrap .i64 (n2 + (2 : Int)))) (List.getD (([(100 : Int), (72 : Int), (139 : Int), (4 : Int), (37 : Int), (0 : Int), (0 : Int), (0 : Int), (0 : Int), (72 : Int), (141 : Int), (128 : Int)] : List Int) ++ xs5) (2 : Nat) (0 : Int))) (Int.toNat (IntKind.wrap .i64 (n2 + (3 : Int)))) (List.getD (([(100 : Int), (72 : Int), (139 : Int), (4 : Int), (37 : Int), (0 : Int), (0 : Int), (0 : Int), (0 : Int), (72 : Int), (141 : Int), (128 : Int)] : List Int) ++ xs5) (3 : Nat) (0 : Int))) (Int.toNat (IntKind.wrap .i64 (n2 + (4 : Int)))) (List.getD (([(100 : Int), (72 : Int), (139 : Int), (4 : Int), (37 : Int), (0 : Int), (0 : Int), (0 : Int), (0 : Int), (72 : Int), (141 : Int), (128 : Int)] : List Int) ++ xs5) (4 : Nat) (0 : Int))) (Int.toNat (IntKind.wrap .i64 (n2 + (5 : Int)))) (List.getD (([(100 : Int), (72 : Int), (139 : Int), (4 : Int), (37 : Int), (0 : Int), (0 : Int), (0 : Int), (0 : Int), (72 : Int), (141 : Int), (128 : Int)] : List Int) ++ xs5) (5 : Nat) (0 : Int))) (Int.toNat (IntKind.wrap .i64 (n2 + (6 : Int)))) (List.getD (([(100 : Int), (72 : Int), (139 : Int), (4 : Int), (37 : Int), (0 : Int), (0 : Int), (0 : Int), (0 : Int), (72 : Int), (141 : Int), (128 : Int)] : List Int) ++ xs5) (6 : Nat) (0 : Int)))) - (0 : Nat)) : Nat) : Int)))) then (bif (decide ((8 : Int) < ((((List.length (([(100 : Int), (72 : Int), (139 : Int), (4 : Int), (37 : Int), (0 : Int), (0 : Int), (0 : Int), (0 : Int), (72 : Int), (141 : Int), (128 : Int)] : List Int) ++ xs5)) - (0 : Nat)) : Nat) : Int))) then (bif ((decide ((0 : Int) ≤ (IntKind.wrap .i64 (n2 + (8 : Int))))) && (decide ((IntKind.wrap .i64 (n2 + (8 : Int))) < ((((List.length (List.set (List.set (List.set (List.set (List.set (List.set (List.set (List.set xs (Int.toNat (IntKind.wrap .i64 (n2 + (0 : Int)))) (List.getD (([(100 : Int), (72 : Int), (139 : Int), (4 : Int), (37 : Int), (0 : Int), (0 : Int), (0 : Int), (0 : Int), (72 : Int), (141 : Int), (128 : Int)] : List Int) ++ xs5) (0 : Nat) (0 : Int))) (Int.toNat (IntKind.wrap .i64 (n2 + (1 : Int)))) (List.getD (([(100 : Int), (72 : Int), (139 : Int), (4 : Int), (37 : Int), (0 : Int), (0 : Int), (0 : Int), (0 : Int), (72 : Int), (141 : Int), (128 : Int)] : List Int) ++ xs5) (1 : Nat) (0 : Int))) (Int.toNat (IntKind.wrap .i64 (n2 + (2 : Int)))) (List.getD (([(100 : Int), (72 : Int), (139 : Int), (4 : Int), (37 : Int), (0 : Int), (0 : Int), (0 : Int), (0 : Int), (72 : Int), (141 : Int), (128 : Int)] : List Int) ++ xs5) (2 : Nat) (0 : Int))) (Int.toNat (IntKind.wrap .i64 (n2 + (3 : Int)))) (List.getD (([(100 : Int), (72 : Int), (139 : Int), (4 : Int), (37 : Int), (0 : Int), (0 : Int), (0 : Int), (0 : Int), (72 : Int), (141 : Int), (128 : Int)] : List Int) ++ xs5) (3 : Nat) (0 : Int))) (Int.toNat (IntKind.wrap .i64 (n2 + (4 : Int)))) (List.getD (([(100 : Int), (72 : Int), (139 : Int), (4 : Int), (37 : Int), (0 : Int), (0 : Int), (0 : Int), (0 : Int), (72 : Int), (141 : Int), (128 : Int)] : List Int) ++ xs5) (4 : Nat) (0 : Int))) (Int.toNat (IntKind.wrap .i64 (n2 + (5 : Int)))) (List.getD (([(100 : Int), (72 : Int), (139 : Int), (4 : Int), (37 : Int), (0 : Int), (0 : Int), (0 : Int), (0 : Int), (72 : Int), (141 : Int), (128 : Int)] : List Int) ++ xs5) (5 : Nat) (0 : Int))) (Int.toNat (IntKind.wrap .i64 (n2 + (6 : Int)))) (List.getD (([(100 : Int), (72 : Int), (139 : Int), (4 : Int), (37 : Int), (0 : Int), (0 : Int), (0 : Int), (0 : Int), (72 : Int), (141 : Int), (128 : Int)] : List Int) ++ xs5) (6 : Nat) (0 : Int))) (Int.toNat (IntKind.wrap .i64 (n2 + (7 : Int)))) (List.getD (([(100 : Int), (72 : Int), (139 : Int), (4 : Int), (37 : Int), (0 : Int), (0 : Int), (0 : Int), (0 : Int), (72 : Int), (141 : Int), (128 : Int)] : List Int) ++ xs5) (7 : Nat) (0 : Int)))) - (0 : Nat)) : Nat) : Int)))) then (bif (decide ((9 : Int) < ((((List.length (([(100 : Int), (72 : Int), (139 : Int), (4 : Int), (37 : Int), (0 : Int), (0 : Int), (0 : Int), (0 : Int), (72 : Int), (141 : Int), (128 : Int)] : List Int) ++ xs5)) - (0 : Nat)) : Nat) : Int))) then (bif ((decide ((0 : Int) ≤ (IntKind.wrap .i64 (n2 + (9 : Int))))) && (decide ((IntKind.wrap .i64 (n2 + (9 : Int))) < ((((List.length (List.set (List.set (List.set (List.set (List.set (List.set (List.set (List.set (List.set xs (Int.toNat (IntKind.wrap .i64 (n2 + (0 : Int)))) (List.getD (([(100 : Int), (72 : Int), (139 : Int), (4 : Int), (37 : Int), (0 : Int), (0 : Int), (0 : Int), (0 : Int), (72 : Int), (141 : Int), (128 : Int)] : List Int) ++ xs5) (0 : Nat) (0 : Int))) (Int.toNat (IntKind.wrap .i64 (n2 + (1 : Int)))) (List.getD (([(100 : Int), (72 : Int), (139 : Int), (4 : Int), (37 : Int), (0 : Int), (0 : Int), (0 : Int), (0 : Int), (72 : Int), (141 : Int), (128 : Int)] : List Int) ++ xs5) (1 : Nat) (0 : Int))) (Int.toNat (IntKind.wrap .i64 (n2 + (2 : Int)))) (List.getD (([(100 : Int), (72 : Int), (139 : Int), (4 : Int), (37 : Int), (0 : Int), (0 : Int), (0 : Int), (0 : Int), (72 : Int), (141 : Int), (128 : Int)] : List Int) ++ xs5) (2 : Nat) (0 : Int))) (Int.toNat (IntKind.wrap .i64 (n2 + (3 : Int)))) (List.getD (([(100 : Int), (72 : Int), (139 : Int), (4 : Int), (37 : Int), (0 : Int), (0 : Int), (0 : Int), (0 : Int), (72 : Int), (141 : Int), (128 : Int)] : List Int) ++ xs5) (3 : Nat) (0 : Int))) (Int.toNat (IntKind.wrap .i64 (n2 + (4 : Int)))) (List.getD (([(100 : Int), (72 : Int), (139 : Int), (4 : Int), (37 : Int), (0 : Int), (0 : Int), (0 : Int), (0 : Int), (72 : Int), (141 : Int), (128 : Int)] : List Int) ++ xs5) (4 : Nat) (0 : Int))) (Int.toNat (IntKind.wrap .i64 (n2 + (5 : Int)))) (List.getD (([(100 : Int), (72 : Int), (139 : Int), (4 : Int), (37 : Int), (0 : Int), (0 : Int), (0 : Int), (0 : Int), (72 : Int), (141 : Int), (128 : Int)] : List Int) ++ xs5) (5 : Nat) (0 : Int))) (Int.toNat (IntKind.wrap .i64 (n2 + (6 : Int)))) (List.getD (([(100 : Int), (72 : Int), (139 : Int), (4 : Int), (37 : Int), (0 : Int), (0 : Int), (0 : Int), (0 : Int), (72 : Int), (141 : Int), (128 : Int)] : List Int) ++ xs5) (6 : Nat) (0 : Int))) (Int.toNat (IntKind.wrap .i64 (n2 + (7 : Int)))) (List.getD (([(100 : Int), (72 : Int), (139 : Int), (4 : Int), (37 : Int), (0 : Int), (0 : Int), (0 : Int), (0 : Int), (72 : Int), (141 : Int), (128 : Int)] : List Int) ++ xs5) (7 : Nat) (0 : Int))) (Int.toNat (IntKind.wrap .i64 (n2 + (8 : Int)))) (List.getD (([(100 : Int), (72 : Int), (139 : Int), (4 : Int), (37 : Int), (0 : Int), (0 : Int), (0 : Int), (0 : Int), (72 : Int), (141 : Int), (128 : Int)] : List Int) ++ xs5) (8 : Nat) (0 : Int)))) - (0 : Nat)) : Nat) : Int)))) then (bif (decide ((10 : Int) < ((((List.length (([(100 : Int), (72 : Int), (139 : Int), (4 : Int), (37 : Int), (0 : Int), (0 : Int), (0 : Int), (0 : Int), (72 : Int), (141 : Int), (128 : Int)] : List Int) ++ xs5)) - (0 : Nat)) : Nat) : Int))) then (bif ((decide ((0 : Int) ≤ (IntKind.wrap .i64 (n2 + (10 : Int))))) && (decide ((IntKind.wrap .i64 (n2 + (10 : Int))) < ((((List.length (List.set (List.set (List.set (List.set (List.set (List.set (List.set (List.set (List.set (List.set xs (Int.toNat (IntKind.wrap .i64 (n2 + (0 : Int)))) (List.getD (([(100 : Int), (72 : Int), (139 : Int), (4 : Int), (37 : Int), (0 : Int), (0 : Int), (0 : Int), (0 : Int), (72 : Int), (141 : Int), (128 : Int)] : List Int) ++ xs5) (0 : Nat) (0 : Int))) (Int.toNat (IntKind.wrap .i64 (n2 + (1 : Int)))) (List.getD (([(100 : Int), (72 : Int), (139 : Int), (4 : Int), (37 : Int), (0 : Int), (0 : Int), (0 : Int), (0 : Int), (72 : Int), (141 : Int), (128 : Int)] : List Int) ++ xs5) (1 : Nat) (0 : Int))) (Int.toNat (IntKind.wrap .i64 (n2 + (2 : Int)))) (List.getD (([(100 : Int), (72 : Int), (139 : Int), (4 : Int), (37 : Int), (0 : Int), (0 : Int), (0 : Int), (0 : Int), (72 : Int), (141 : Int), (128 : Int)] : List Int) ++ xs5) (2 : Nat) (0 : Int))) (Int.toNat (IntKind.wrap .i64 (n2 + (3 : Int)))) (List.getD (([(100 : Int), (72 : Int), (139 : Int), (4 : Int), (37 : Int), (0 : Int), (0 : Int), (0 : Int), (0 : Int), (72 : Int), (141 : Int), (128 : Int)] : List Int) ++ xs5) (3 : Nat) (0 : Int))) (Int.toNat (IntKind.wrap .i64 (n2 + (4 : Int)))) (List.getD (([(100 : Int), (72 : Int), (139 : Int), (4 : Int), (37 : Int), (0 : Int), (0 : Int), (0 : Int), (0 : Int), (72 : Int), (141 : Int), (128 : Int)] : List Int) ++ xs5) (4 : Nat) (0 : Int))) (Int.toNat (IntKind.wrap .i64 (n2 + (5 : Int)))) (List.getD (([(100 : Int), (72 : Int), (139 : Int), (4 : Int), (37 : Int), (0 : Int), (0 : Int), (0 : Int), (0 : Int), (72 : Int), (141 : Int), (128 : Int)] : List Int) ++ xs5) (5 : Nat) (0 : Int))) (Int.toNat (IntKind.wrap .i64 (n2 + (6 : Int)))) (List.getD (([(100 : Int), (72 : Int), (139 : Int), (4 : Int), (37 : Int), (0 : Int), (0 : Int), (0 : Int), (0 : Int), (72 : Int), (141 : Int), (128 : Int)] : List Int) ++ xs5) (6 : Nat) (0 : Int))) (Int.toNat (IntKind.wrap .i64 (n2 + (7 : Int)))) (List.getD (([(100 : Int), (72 : Int), (139 : Int), (4 : Int), (37 : Int), (0 : Int), (0 : Int), (0 : Int), (0 : Int), (72 : Int), (141 : Int), (128 : Int)] : List Int) ++ xs5) (7 : Nat) (0 : Int))) (Int.toNat (IntKind.wrap .i64 (n2 + (8 : Int)))) (List.getD (([(100 : Int), (72 : Int), (139 : Int), (4 : Int), (37 : Int), (0 : Int), (0 : Int), (0 : Int), (0 : Int), (72 : Int), (141 : Int), (128 : Int)] : List Int) ++ xs5) (8 : Nat) (0 : Int))) (Int.toNat (IntKind.wrap .i64 (n2 + (9 : Int)))) (List.getD (([(100 : Int), (72 : Int), (139 : Int), (4 : Int), (37 : Int), (0 : Int), (0 : Int), (0 : Int), (0 : Int), (72 : Int), (141 : Int), (128 : Int)] : List Int) ++ xs5) (9 : Nat) (0 : Int)))) - (0 : Nat)) : Nat) : Int)))) then (bif (decide ((11 : Int) < ((((List.length (([(100 : Int), (72 : Int), (139 : Int), (4 : Int), (37 : Int), (0 : Int), (0 : Int), (0 : Int), (0 : Int), (72 : Int), (141 : Int), (128 : Int)] : List Int) ++ xs5)) - (0 : Nat)) : Nat) : Int))) then (bif ((decide ((0 : Int) ≤ (IntKind.wrap .i64 (n2 + (11 : Int))))) && (decide ((IntKind.wrap .i64 (n2 + (11 : Int))) < ((((List.length (List.set (List.set (List.set (List.set (List.set (List.set (List.set (List.set (List.set (List.set (List.set xs (Int.toNat (IntKind.wrap .i64 (n2 + (0 : Int)))) (List.getD (([(100 : Int), (72 : Int), (139 : Int), (4 : Int), (37 : Int), (0 : Int), (0 : Int), (0 : Int), (0 : Int), (72 : Int), (141 : Int), (128 : Int)] : List Int) ++ xs5) (0 : Nat) (0 : Int))) (Int.toNat (IntKind.wrap .i64 (n2 + (1 : Int)))) (List.getD (([(100 : Int), (72 : Int), (139 : Int), (4 : Int), (37 : Int), (0 : Int), (0 : Int), (0 : Int), (0 : Int), (72 : Int), (141 : Int), (128 : Int)] : List Int) ++ xs5) (1 : Nat) (0 : Int))) (Int.toNat (IntKind.wrap .i64 (n2 + (2 : Int)))) (List.getD (([(100 : Int), (72 : Int), (139 : Int), (4 : Int), (37 : Int), (0 : Int), (0 : Int), (0 : Int), (0 : Int), (72 : Int), (141 : Int), (128 : Int)] : List Int) ++ xs5) (2 : Nat) (0 : Int))) (Int.toNat (IntKind.wrap .i64 (n2 + (3 : Int)))) (List.getD (([(100 : Int), (72 : Int), (139 : Int), (4 : Int), (37 : Int), (0 : Int), (0 : Int), (0 : Int), (0 : Int), (72 : Int), (141 : Int), (128 : Int)] : List Int) ++ xs5) (3 : Nat) (0 : Int))) (Int.toNat (IntKind.wrap .i64 (n2 + (4 : Int)))) (List.getD (([(100 : Int), (72 : Int), (139 : Int), (4 : Int), (37 : Int), (0 : Int), (0 : Int), (0 : Int), (0 : Int), (72 : Int), (141 : Int), (128 : Int)] : List Int) ++ xs5) (4 : Nat) (0 : Int))) (Int.toNat (IntKind.wrap .i64 (n2 + (5 : Int)))) (List.getD (([(100 : Int), (72 : Int), (139 : Int), (4 : Int), (37 : Int), (0 : Int), (0 : Int), (0 : Int), (0 : Int), (72 : Int), (141 : Int), (128 : Int)] : List Int) ++ xs5) (5 : Nat) (0 : Int))) (Int.toNat (IntKind.wrap .i64 (n2 + (6 : Int)))) (List.getD (([(100 : Int), (72 : Int), (139 : Int), (4 : Int), (37 : Int), (0 : Int), (0 : Int), (0 : Int), (0 : Int), (72 : Int), (141 : Int), (128 : Int)] : List Int) ++ xs5) (6 : Nat) (0 : Int))) (Int.toNat (IntKind.wrap .i64 (n2 + (7 : Int)))) (List.getD (([(100 : Int), (72 : Int), (139 : Int), (4 : Int), (37 : Int), (0 : Int), (0 : Int), (0 : Int), (0 : Int), (72 : Int), (141 : Int), (128 : Int)] : List Int) ++ xs5) (7 : Nat) (0 : Int))) (Int.toNat (IntKind.wrap .i64 (n2 + (8 : Int)))) (List.getD (([(100 : Int), (72 : Int), (139 : Int), (4 : Int), (37 : Int), (0 : Int), (0 : Int), (0 : Int), (0 : Int), (72 : Int), (141 : Int), (128 : Int)] : List Int) ++ xs5) (8 : Nat) (0 : Int))) (Int.toNat (IntKind.wrap .i64 (n2 + (9 : Int)))) (List.getD (([(100 : Int), (72 : Int), (139 : Int), (4 : Int), (37 : Int), (0 : Int), (0 : Int), (0 : Int), (0 : Int), (72 : Int), (141 : Int), (128 : Int)] : List Int) ++ xs5) (9 : Nat) (0 : Int))) (Int.toNat (IntKind.wrap .i64 (n2 + (10 : Int)))) (List.getD (([(100 : Int), (72 : Int), (139 : Int), (4 : Int), (37 : Int), (0 : Int), (0 : Int), (0 : Int), (0 : Int), (72 : Int), (141 : Int), (128 : Int)] : List Int) ++ xs5) (10 : Nat) (0 : Int)))) - (0 : Nat)) : Nat) : Int)))) then (bif (decide ((12 : Int) < ((((List.length (([(100 : Int), (72 : Int), (139 : Int), (4 : Int), (37 : Int), (0 : Int), (0 : Int), (0 : Int), (0 : Int), (72 : Int), (141 : Int), (128 : Int)] : List Int) ++ xs5)) - (0 : Nat)) : Nat) : Int))) then (bif ((decide ((0 : Int) ≤ (IntKind.wrap .i64 (n2 + (12 : Int))))) && (decide ((IntKind.wrap .i64 (n2 + (12 : Int))) < ((((List.length (List.set (List.set (List.set (List.set (List.set (List.set (List.set (List.set (List.set (List.set (List.set (List.set xs (Int.toNat (IntKind.wrap .i64 (n2 + (0 : Int)))) (List.getD (([(100 : Int), (72 : Int), (139 : Int), (4 : Int), (37 : Int), (0 : Int), (0 : Int), (0 : Int), (0 : Int), (72 : Int), (141 : Int), (128 : Int)] : List Int) ++ xs5) (0 : Nat) (0 : Int))) (Int.toNat (IntKind.wrap .i64 (n2 + (1 : Int)))) (List.getD (([(100 : Int), (72 : Int), (139 : Int), (4 : Int), (37 : Int), (0 : Int), (0 : Int), (0 : Int), (0 : Int), (72 : Int), (141 : Int), (128 : Int)] : List Int) ++ xs5) (1 : Nat) (0 : Int))) (Int.toNat (IntKind.wrap .i64 (n2 + (2 : Int)))) (List.getD (([(100 : Int), (72 : Int), (139 : Int), (4 : Int), (37 : Int), (0 : Int), (0 : Int), (0 : Int), (0 : Int), (72 : Int), (141 : Int), (128 : Int)] : List Int) ++ xs5) (2 : Nat) (0 : Int))) (Int.toNat (IntKind.wrap .i64 (n2 + (3 : Int)))) (List.getD (([(100 : Int), (72 : Int), (139 : Int), (4 : Int), (37 : Int), (0 : Int), (0 : Int), (0 : Int), (0 : Int), (72 : Int), (141 : Int), (128 : Int)] : List Int) ++ xs5) (3 : Nat) (0 : Int))) (Int.toNat (IntKind.wrap .i64 (n2 + (4 : Int)))) (List.getD (([(100 : Int), (72 : Int), (139 : Int), (4 : Int), (37 : Int), (0 : Int), (0 : Int), (0 : Int), (0 : Int), (72 : Int), (141 : Int), (128 : Int)] : List Int) ++ xs5) (4 : Nat) (0 : Int))) (Int.toNat (IntKind.wrap .i64 (n2 + (5 : Int)))) (List.getD (([(100 : Int), (72 : Int), (139 : Int), (4 : Int), (37 : Int), (0 : Int), (0 : Int), (0 : Int), (0 : Int), (72 : Int), (141 : Int), (128 : Int)] : List Int) ++ xs5) (5 : Nat) (0 : Int))) (Int.toNat (IntKind.wrap .i64 (n2 + (6 : Int)))) (List.getD (([(100 : Int), (72 : Int), (139 : Int), (4 : Int), (37 : Int), (0 : Int), (0 : Int), (0 : Int), (0 : Int), (72 : Int), (141 : Int), (128 : Int)] : List Int) ++ xs5) (6 : Nat) (0 : Int))) (Int.toNat (IntKind.wrap .i64 (n2 + (7 : Int)))) (List.getD (([(100 : Int), (72 : Int), (139 : Int), (4 : Int), (37 : Int), (0 : Int), (0 : Int), (0 : Int), (0 : Int), (72 : Int), (141 : Int), (128 : Int)] : List Int) ++ xs5) (7 : Nat) (0 : Int))) (Int.toNat (IntKind.wrap .i64 (n2 + (8 : Int)))) (List.getD (([(100 : Int), (72 : Int), (139 : Int), (4 : Int), (37 : Int), (0 : Int), (0 : Int), (0 : Int), (0 : Int), (72 : Int), (141 : Int), (128 : Int)] : List Int) ++ xs5) (8 : Nat) (0 : Int))) (Int.toNat (IntKind.wrap .i64 (n2 + (9 : Int)))) (List.getD (([(100 : Int), (72 : Int), (139 : Int), (4 : Int), (37 : Int), (0 : Int), (0 : Int), (0 : Int), (0 : Int), (72 : Int), (141 : Int), (128 : Int)] : List Int) ++ xs5) (9 : Nat) (0 : Int))) (Int.toNat (IntKind.wrap .i64 (n2 + (10 : Int)))) (List.getD (([(100 : Int), (72 : Int), (139 : Int), (4 : Int), (37 : Int), (0 : Int), (0 : Int), (0 : Int), (0 : Int), (72 : Int), (141 : Int), (128 : Int)] : List Int) ++ xs5) (10 : Nat) (0 : Int))) (Int.toNat (IntKind.wrap .i64 (n2 + (11 : Int)))) (List.getD (([(100 : Int), (72 : Int), (139 : Int), (4 : Int), (37 : Int), (0 : Int), (0 : Int), (0 : Int), (0 : Int), (72 : Int), (141 : Int), (128 : Int)] : List Int) ++ xs5) (11 : Nat) (0 : Int)))) - (0 : Nat)) : Nat) : Int)))) then (bif (decide ((13 : Int) < ((((List.length (([(100 : Int), (72 : Int), (139 : Int), (4 : Int), (37 : Int), (0 : Int), (0 : Int), (0 : Int), (0 : Int), (72 : Int), (141 : Int), (128 : Int)] : List Int) ++ xs5)) - (0 : Nat)) : Nat) : Int))) then (bif ((decide ((0 : Int) ≤ (IntKind.wrap .i64 (n2 + (13 : Int))))) && (decide ((IntKind.wrap .i64 (n2 + (13 : Int))) < ((((List.length (List.set (List.set (List.set (List.set (List.set (List.set (List.set (List.set (List.set (List.set (List.set (List.set (List.set xs (Int.toNat (IntKind.wrap .i64 (n2 + (0 : Int)))) (List.getD (([(100 : Int), (72 : Int), (139 : Int), (4 : Int), (37 : Int), (0 : Int), (0 : Int), (0 : Int), (0 : Int), (72 : Int), (141 : Int), (128 : Int)] : List Int) ++ xs5) (0 : Nat) (0 : Int))) (Int.toNat (IntKind.wrap .i64 (n2 + (1 : Int)))) (List.getD (([(100 : Int), (72 : Int), (139 : Int), (4 : Int), (37 : Int), (0 : Int), (0 : Int), (0 : Int), (0 : Int), (72 : Int), (141 : Int), (128 : Int)] : List Int) ++ xs5) (1 : Nat) (0 : Int))) (Int.toNat (IntKind.wrap .i64 (n2 + (2 : Int)))) (List.getD (([(100 : Int), (72 : Int), (139 : Int), (4 : Int), (37 : Int), (0 : Int), (0 : Int), (0 : Int), (0 : Int), (72 : Int), (141 : Int), (128 : Int)] : List Int) ++ xs5) (2 : Nat) (0 : Int))) (Int.toNat (IntKind.wrap .i64 (n2 + (3 : Int)))) (List.getD (([(100 : Int), (72 : Int), (139 : Int), (4 : Int), (37 : Int), (0 : Int), (0 : Int), (0 : Int), (0 : Int), (72 : Int), (141 : Int), (128 : Int)] : List Int) ++ xs5) (3 : Nat) (0 : Int))) (Int.toNat (IntKind.wrap .i64 (n2 + (4 : Int)))) (List.getD (([(100 : Int), (72 : Int), (139 : Int), (4 : Int), (37 : Int), (0 : Int), (0 : Int), (0 : Int), (0 : Int), (72 : Int), (141 : Int), (128 : Int)] : List Int) ++ xs5) (4 : Nat) (0 : Int))) (Int.toNat (IntKind.wrap .i64 (n2 + (5 : Int)))) (List.getD (([(100 : Int), (72 : Int), (139 : Int), (4 : Int), (37 : Int), (0 : Int), (0 : Int), (0 : Int), (0 : Int), (72 : Int), (141 : Int), (128 : Int)] : List Int) ++ xs5) (5 : Nat) (0 : Int))) (Int.toNat (IntKind.wrap .i64 (n2 + (6 : Int)))) (List.getD (([(100 : Int), (72 : Int), (139 : Int), (4 : Int), (37 : Int), (0 : Int), (0 : Int), (0 : Int), (0 : Int), (72 : Int), (141 : Int), (128 : Int)] : List Int) ++ xs5) (6 : Nat) (0 : Int))) (Int.toNat (IntKind.wrap .i64 (n2 + (7 : Int)))) (List.getD (([(100 : Int), (72 : Int), (139 : Int), (4 : Int), (37 : Int), (0 : Int), (0 : Int), (0 : Int), (0 : Int), (72 : Int), (141 : Int), (128 : Int)] : List Int) ++ xs5) (7 : Nat) (0 : Int))) (Int.toNat (IntKind.wrap .i64 (n2 + (8 : Int)))) (List.getD (([(100 : Int), (72 : Int), (139 : Int), (4 : Int), (37 : Int), (0 : Int), (0 : Int), (0 : Int), (0 : Int), (72 : Int), (141 : Int), (128 : Int)] : List Int) ++ xs5) (8 : Nat) (0 : Int))) (Int.toNat (IntKind.wrap .i64 (n2 + (9 : Int)))) (List.getD (([(100 : Int), (72 : Int), (139 : Int), (4 : Int), (37 : Int), (0 : Int), (0 : Int), (0 : Int), (0 : Int), (72 : Int), (141 : Int), (128 : Int)] : List Int) ++ xs5) (9 : Nat) (0 : Int))) (Int.toNat (IntKind.wrap .i64 (n2 + (10 : Int)))) (List.getD (([(100 : Int), (72 : Int), (139 : Int), (4 : Int), (37 : Int), (0 : Int), (0 : Int), (0 : Int), (0 : Int), (72 : Int), (141 : Int), (128 : Int)] : List Int) ++ xs5) (10 : Nat) (0 : Int))) (Int.toNat (IntKind.wrap .i64 (n2 + (11 : Int)))) (List.getD (([(100 : Int), (72 : Int), (139 : Int), (4 : Int), (37 : Int), (0 : Int), (0 : Int), (0 : Int), (0 : Int), (72 : Int), (141 : Int), (128 : Int)] : List Int) ++ xs5) (11 : Nat) (0 : Int))) (Int.toNat (IntKind.wrap .i64 (n2 + (12 : Int)))) (List.getD (([(100 : Int), (72 : Int), (139 : Int), (4 : Int), (37 : Int), (0 : Int), (0 : Int), (0 : Int), (0 : Int), (72 : Int), (141 : Int), (128 : Int)] : List Int) ++ xs5) (12 : Nat) (0 : Int)))) - (0 : Nat)) : Nat) : Int)))) then (bif (decide ((14 : Int) < ((((List.length (([(100 : Int), (72 : Int), (139 : Int), (4 : Int), (37 : Int), (0 : Int), (0 : Int), (0 : Int), (0 : Int), (72 : Int), (141 : Int), (128 : Int)] : List Int) ++ xs5)) - (0 : Nat)) : Nat) : Int))) then (bif ((decide ((0 : Int) ≤ (IntKind.wrap .i64 (n2 + (14 : Int))))) && (decide ((IntKind.wrap .i64 (n2 + (14 : Int))) < ((((List.length (List.set (List.set (List.set (List.set (List.set (List.set (List.set (List.set (List.set (List.set (List.set (List.set (List.set (List.set xs (Int.toNat (IntKind.wrap .i64 (n2 + (0 : Int)))) (List.getD (([(100 : Int), (72 : Int), (139 : Int), (4 : Int), (37 : Int), (0 : Int), (0 : Int), (0 : Int), (0 : Int), (72 : Int), (141 : Int), (128 : Int)] : List Int) ++ xs5) (0 : Nat) (0 : Int))) (Int.toNat (IntKind.wrap .i64 (n2 + (1 : Int)))) (List.getD (([(100 : Int), (72 : Int), (139 : Int), (4 : Int), (37 : Int), (0 : Int), (0 : Int), (0 : Int), (0 : Int), (72 : Int), (141 : Int), (128 : Int)] : List Int) ++ xs5) (1 : Nat) (0 : Int))) (Int.toNat (IntKind.wrap .i64 (n2 + (2 : Int)))) (List.getD (([(100 : Int), (72 : Int), (139 : Int), (4 : Int), (37 : Int), (0 : Int), (0 : Int), (0 : Int), (0 : Int), (72 : Int), (141 : Int), (128 : Int)] : List Int) ++ xs5) (2 : Nat) (0 : Int))) (Int.toNat (IntKind.wrap .i64 (n2 + (3 : Int)))) (List.getD (([(100 : Int), (72 : Int), (139 : Int), (4 : Int), (37 : Int), (0 : Int), (0 : Int), (0 : Int), (0 : Int), (72 : Int), (141 : Int), (128 : Int)] : List Int) ++ xs5) (3 : Nat) (0 : Int))) (Int.toNat (IntKind.wrap .i64 (n2 + (4 : Int)))) (List.getD (([(100 : Int), (72 : Int), (139 : Int), (4 : Int), (37 : Int), (0 : Int), (0 : Int), (0 : Int), (0 : Int), (72 : Int), (141 : Int), (128 : Int)] : List Int) ++ xs5) (4 : Nat) (0 : Int))) (Int.toNat (IntKind.wrap .i64 (n2 + (5 : Int)))) (List.getD (([(100 : Int), (72 : Int), (139 : Int), (4 : Int), (37 : Int), (0 : Int), (0 : Int), (0 : Int), (0 : Int), (72 : Int), (141 : Int), (128 : Int)] : List Int) ++ xs5) (5 : Nat) (0 : Int))) (Int.toNat (IntKind.wrap .i64 (n2 + (6 : Int)))) (List.getD (([(100 : Int), (72 : Int), (139 : Int), (4 : Int), (37 : Int), (0 : Int), (0 : Int), (0 : Int), (0 : Int), (72 : Int), (141 : Int), (128 : Int)] : List Int) ++ xs5) (6 : Nat) (0 : Int))) (Int.toNat (IntKind.wrap .i64 (n2 + (7 : Int)))) (List.getD (([(100 : Int), (72 : Int), (139 : Int), (4 : Int), (37 : Int), (0 : Int), (0 : Int), (0 : Int), (0 : Int), (72 : Int), (141 : Int), (128 : Int)] : List Int) ++ xs5) (7 : Nat) (0 : Int))) (Int.toNat (IntKind.wrap .i64 (n2 + (8 : Int)))) (List.getD (([(100 : Int), (72 : Int), (139 : Int), (4 : Int), (37 : Int), (0 : Int), (0 : Int), (0 : Int), (0 : Int), (72 : Int), (141 : Int), (128 : Int)] : List Int) ++ xs5) (8 : Nat) (0 : Int))) (Int.toNat (IntKind.wrap .i64 (n2 + (9 : Int)))) (List.getD (([(100 : Int), (72 : Int), (139 : Int), (4 : Int), (37 : Int), (0 : Int), (0 : Int), (0 : Int), (0 : Int), (72 : Int), (141 : Int), (128 : Int)] : List Int) ++ xs5) (9 : Nat) (0 : Int))) (Int.toNat (IntKind.wrap .i64 (n2 + (10 : Int)))) (List.getD (([(100 : Int), (72 : Int), (139 : Int), (4 : Int), (37 : Int), (0 : Int), (0 : Int), (0 : Int), (0 : Int), (72 : Int), (141 : Int), (128 : Int)] : List Int) ++ xs5) (10 : Nat) (0 : Int))) (Int.toNat (IntKind.wrap .i64 (n2 + (11 : Int)))) (List.getD (([(100 : Int), (72 : Int), (139 : Int), (4 : Int), (37 : Int), (0 : Int), (0 : Int), (0 : Int), (0 : Int), (72 : Int), (141 : Int), (128 : Int)] : List Int) ++ xs5) (11 : Nat) (0 : Int))) (Int.toNat (IntKind.wrap .i64 (n2 + (12 : Int)))) (List.getD (([(100 : Int), (72 : Int), (139 : Int), (4 : Int), (37 : Int), (0 : Int), (0 : Int), (0 : Int), (0 : Int), (72 : Int), (141 : Int), (128 : Int)] : List Int) ++ xs5) (12 : Nat) (0 : Int))) (Int.toNat (IntKind.wrap .i64 (n2 + (13 : Int)))) (List.getD (([(100 : Int), (72 : Int), (139 : Int), (4 : Int), (37 : Int), (0 : Int), (0 : Int), (0 : Int), (0 : Int), (72 : Int), (141 : Int), (128 : Int)] : List Int) ++ xs5) (13 : Nat) (0 : Int)))) - (0 : Nat)) : Nat) : Int)))) then (bif (decide ((15 : Int) < ((((List.length (([(100 : Int), (72 : Int), (139 : Int), (4 : Int), (37 : Int), (0 : Int), (0 : Int), (0 : Int), (0 : Int), (72 : Int), (141 : Int), (128 : Int)] : List Int) ++ xs5)) - (0 : Nat)) : Nat) : Int))) then (bif ((decide ((0 : Int) ≤ (IntKind.wrap .i64 (n2 + (15 : Int))))) && (decide ((IntKind.wrap .i64 (n2 + (15 : Int))) < ((((List.length (List.set (List.set (List.set (List.set (List.set (List.set (List.set (List.set (List.set (List.set (List.set (List.set (List.set (List.set (List.set xs (Int.toNat (IntKind.wrap .i64 (n2 + (0 : Int)))) (List.getD (([(100 : Int), (72 : Int), (139 : Int), (4 : Int), (37 : Int), (0 : Int), (0 : Int), (0 : Int), (0 : Int), (72 : Int), (141 : Int), (128 : Int)] : List Int) ++ xs5) (0 : Nat) (0 : Int))) (Int.toNat (IntKind.wrap .i64 (n2 + (1 : Int)))) (List.getD (([(100 : Int), (72 : Int), (139 : Int), (4 : Int), (37 : Int), (0 : Int), (0 : Int), (0 : Int), (0 : Int), (72 : Int), (141 : Int), (128 : Int)] : List Int) ++ xs5) (1 : Nat) (0 : Int))) (Int.toNat (IntKind.wrap .i64 (n2 + (2 : Int)))) (List.getD (([(100 : Int), (72 : Int), (139 : Int), (4 : Int), (37 : Int), (0 : Int), (0 : Int), (0 : Int), (0 : Int), (72 : Int), (141 : Int), (128 : Int)] : List Int) ++ xs5) (2 : Nat) (0 : Int))) (Int.toNat (IntKind.wrap .i64 (n2 + (3 : Int)))) (List.getD (([(100 : Int), (72 : Int), (139 : Int), (4 : Int), (37 : Int), (0 : Int), (0 : Int), (0 : Int), (0 : Int), (72 : Int), (141 : Int), (128 : Int)] : List Int) ++ xs5) (3 : Nat) (0 : Int))) (Int.toNat (IntKind.wrap .i64 (n2 + (4 : Int)))) (List.getD (([(100 : Int), (72 : Int), (139 : Int), (4 : Int), (37 : Int), (0 : Int), (0 : Int), (0 : Int), (0 : Int), (72 : Int), (141 : Int), (128 : Int)] : List Int) ++ xs5) (4 : Nat) (0 : Int))) (Int.toNat (IntKind.wrap .i64 (n2 + (5 : Int)))) (List.getD (([(100 : Int), (72 : Int), (139 : Int), (4 : Int), (37 : Int), (0 : Int), (0 : Int), (0 : Int), (0 : Int), (72 : Int), (141 : Int), (128 : Int)] : List Int) ++ xs5) (5 : Nat) (0 : Int))) (Int.toNat (IntKind.wrap .i64 (n2 + (6 : Int)))) (List.getD (([(100 : Int), (72 : Int), (139 : Int), (4 : Int), (37 : Int), (0 : Int), (0 : Int), (0 : Int), (0 : Int), (72 : Int), (141 : Int), (128 : Int)] : List Int) ++ xs5) (6 : Nat) (0 : Int))) (Int.toNat (IntKind.wrap .i64 (n2 + (7 : Int)))) (List.getD (([(100 : Int), (72 : Int), (139 : Int), (4 : Int), (37 : Int), (0 : Int), (0 : Int), (0 : Int), (0 : Int), (72 : Int), (141 : Int), (128 : Int)] : List Int) ++ xs5) (7 : Nat) (0 : Int))) (Int.toNat (IntKind.wrap .i64 (n2 + (8 : Int)))) (List.getD (([(100 : Int), (72 : Int), (139 : Int), (4 : Int), (37 : Int), (0 : Int), (0 : Int), (0 : Int), (0 : Int), (72 : Int), (141 : Int), (128 : Int)] : List Int) ++ xs5) (8 : Nat) (0 : Int))) (Int.toNat (IntKind.wrap .i64 (n2 + (9 : Int)))) (List.getD (([(100 : Int), (72 : Int), (139 : Int), (4 : Int), (37 : Int), (0 : Int), (0 : Int), (0 : Int), (0 : Int), (72 : Int), (141 : Int), (128 : Int)] : List Int) ++ xs5) (9 : Nat) (0 : Int))) (Int.toNat (IntKind.wrap .i64 (n2 + (10 : Int)))) (List.getD (([(100 : Int), (72 : Int), (139 : Int), (4 : Int), (37 : Int), (0 : Int), (0 : Int), (0 : Int), (0 : Int), (72 : Int), (141 : Int), (128 : Int)] : List Int) ++ xs5) (10 : Nat) (0 : Int))) (Int.toNat (IntKind.wrap .i64 (n2 + (11 : Int)))) (List.getD (([(100 : Int), (72 : Int), (139 : Int), (4 : Int), (37 : Int), (0 : Int), (0 : Int), (0 : Int), (0 : Int), (72 : Int), (141 : Int), (128 : Int)] : List Int) ++ xs5) (11 : Nat) (0 : Int))) (Int.toNat (IntKind.wrap .i64 (n2 + (12 : Int)))) (List.getD (([(100 : Int), (72 : Int), (139 : Int), (4 : Int), (37 : Int), (0 : Int), (0 : Int), (0 : Int), (0 : Int), (72 : Int), (141 : Int), (128 : Int)] : List Int) ++ xs5) (12 : Nat) (0 : Int))) (Int.toNat (IntKind.wrap .i64 (n2 + (13 : Int)))) (List.getD (([(100 : Int), (72 : Int), (139 : Int), (4 : Int), (37 : Int), (0 : Int), (0 : Int), (0 : Int), (0 : Int), (72 : Int), (141 : Int), (128 : Int)] : List Int) ++ xs5) (13 : Nat) (0 : Int))) (Int.toNat (IntKind.wrap .i64 (n2 + (14 : Int)))) (List.getD (([(100 : Int), (72 : Int), (139 : Int), (4 : Int), (37 : Int), (0 : Int), (0 : Int), (0 : Int), (0 : Int), (72 : Int), (141 : Int), (128 : Int)] : List Int) ++ xs5) (14 : Nat) (0 : Int)))) - (0 : Nat)) : Nat) : Int)))) then (k4 (List.set (List.set (List.set (List.set (List.set (List.set (List.set (List.set (List.set (List.set (List.set (List.set (List.set (List.set (List.set (List.set xs (Int.toNat (IntKind.wrap .i64 (n2 + (0 : Int)))) (List.getD (([(100 : Int), (72 : Int), (139 : Int), (4 : Int), (37 : Int), (0 : Int), (0 : Int), (0 : Int), (0 : Int), (72 : Int), (141 : Int), (128 : Int)] : List Int) ++ xs5) (0 : Nat) (0 : Int))) (Int.toNat (IntKind.wrap .i64 (n2 + (1 : Int)))) (List.getD (([(100 : Int), (72 : Int), (139 : Int), (4 : Int), (37 : Int), (0 : Int), (0 : Int), (0 : Int), (0 : Int), (72 : Int), (141 : Int), (128 : Int)] : List Int) ++ xs5) (1 : Nat) (0 : Int))) (Int.toNat (IntKind.wrap .i64 (n2 + (2 : Int)))) (List.getD (([(100 : Int), (72 : Int), (139 : Int), (4 : Int), (37 : Int), (0 : Int), (0 : Int), (0 : Int), (0 : Int), (72 : Int), (141 : Int), (128 : Int)] : List Int) ++ xs5) (2 : Nat) (0 : Int))) (Int.toNat (IntKind.wrap .i64 (n2 + (3 : Int)))) (List.getD (([(100 : Int), (72 : Int), (139 : Int), (4 : Int), (37 : Int), (0 : Int), (0 : Int), (0 : Int), (0 : Int), (72 : Int), (141 : Int), (128 : Int)] : List Int) ++ xs5) (3 : Nat) (0 : Int))) (Int.toNat (IntKind.wrap .i64 (n2 + (4 : Int)))) (List.getD (([(100 : Int), (72 : Int), (139 : Int), (4 : Int), (37 : Int), (0 : Int), (0 : Int), (0 : Int), (0 : Int), (72 : Int), (141 : Int), (128 : Int)] : List Int) ++ xs5) (4 : Nat) (0 : Int))) (Int.toNat (IntKind.wrap .i64 (n2 + (5 : Int)))) (List.getD (([(100 : Int), (72 : Int), (139 : Int), (4 : Int), (37 : Int), (0 : Int), (0 : Int), (0 : Int), (0 : Int), (72 : Int), (141 : Int), (128 : Int)] : List Int) ++ xs5) (5 : Nat) (0 : Int))) (Int.toNat (IntKind.wrap .i64 (n2 + (6 : Int)))) (List.getD (([(100 : Int), (72 : Int), (139 : Int), (4 : Int), (37 : Int), (0 : Int), (0 : Int), (0 : Int), (0 : Int), (72 : Int), (141 : Int), (128 : Int)] : List Int) ++ xs5) (6 : Nat) (0 : Int))) (Int.toNat (IntKind.wrap .i64 (n2 + (7 : Int)))) (List.getD (([(100 : Int), (72 : Int), (139 : Int), (4 : Int), (37 : Int), (0 : Int), (0 : Int), (0 : Int), (0 : Int), (72 : Int), (141 : Int), (128 : Int)] : List Int) ++ xs5) (7 : Nat) (0 : Int))) (Int.toNat (IntKind.wrap .i64 (n2 + (8 : Int)))) (List.getD (([(100 : Int), (72 : Int), (139 : Int), (4 : Int), (37 : Int), (0 : Int), (0 : Int), (0 : Int), (0 : Int), (72 : Int), (141 : Int), (128 : Int)] : List Int) ++ xs5) (8 : Nat) (0 : Int))) (Int.toNat (IntKind.wrap .i64 (n2 + (9 : Int)))) (List.getD (([(100 : Int), (72 : Int), (139 : Int), (4 : Int), (37 : Int), (0 : Int), (0 : Int), (0 : Int), (0 : Int), (72 : Int), (141 : Int), (128 : Int)] : List Int) ++ xs5) (9 : Nat) (0 : Int))) (Int.toNat (IntKind.wrap .i64 (n2 + (10 : Int)))) (List.getD (([(100 : Int), (72 : Int), (139 : Int), (4 : Int), (37 : Int), (0 : Int), (0 : Int), (0 : Int), (0 : Int), (72 : Int), (141 : Int), (128 : Int)] : List Int) ++ xs5) (10 : Nat) (0 : Int))) (Int.toNat (IntKind.wrap .i64 (n2 + (11 : Int)))) (List.getD (([(100 : Int), (72 : Int), (139 : Int), (4 : Int), (37 : Int), (0 : Int), (0 : Int), (0 : Int), (0 : Int), (72 : Int), (141 : Int), (128 : Int)] : List Int) ++ xs5) (11 : Nat) (0 : Int))) (Int.toNat (IntKind.wrap .i64 (n2 + (12 : Int)))) (List.getD (([(100 : Int), (72 : Int), (139 : Int), (4 : Int), (37 : Int), (0 : Int), (0 : Int), (0 : Int), (0 : Int), (72 : Int), (141 : Int), (128 : Int)] : List Int) ++ xs5) (12 : Nat) (0 : Int))) (Int.toNat (IntKind.wrap .i64 (n2 + (13 : Int)))) (List.getD (([(100 : Int), (72 : Int), (139 : Int), (4 : Int), (37 : Int), (0 : Int), (0 : Int), (0 : Int), (0 : Int), (72 : Int), (141 : Int), (128 : Int)] : List Int) ++ xs5) (13 : Nat) (0 : Int))) (Int.toNat (IntKind.wrap .i64 (n2 + (14 : Int)))) (List.getD (([(100 : Int), (72 : Int), (139 : Int), (4 : Int), (37 : Int), (0 : Int), (0 : Int), (0 : Int), (0 : Int), (72 : Int), (141 : Int), (128 : Int)] : List Int) ++ xs5) (14 : Nat) (0 : Int))) (Int.toNat (IntKind.wrap .i64 (n2 + (15 : Int)))) (List.getD (([(100 : Int), (72 : Int), (139 : Int), (4 : Int), (37 : Int), (0 : Int), (0 : Int), (0 : Int), (0 : Int), (72 : Int), (141 : Int), (128 : Int)] : List Int) ++ xs5) (15 : Nat) (0 : Int)))) else False) else False) else False) else False) else False) else False) else False) else False) else False) else False) else False) else False) else False) else False) else False) else False) else False) else False) else False) else False) else False) else False) else False) else False) else False) else False) else False) else False) else False) else False) else False) else False) else False) else False))))) ((k3)))) (fun (n6 : Int) (n7 : Int) => (f49 off (fun (b8 : Bool) => (bif (!b8) then (k3) else (f50 off ((bif ((decide ((((0 : Nat) + ((List.length xs) - (0 : Nat))) * (1 : Nat)) ≤ (140737488355328 : Nat))) && (decide (((0 : Nat) + ((List.length xs) - (0 : Nat))) ≤ (140737488355328 : Nat)))) then (bif ((decide ((0 : Int) ≤ (IntKind.wrap .i64 (n6 + (0 : Int))))) && (decide ((IntKind.wrap .i64 (n6 + (0 : Int))) < ((((List.length xs) - (0 : Nat)) : Nat) : Int)))) then (bif ((decide ((0 : Int) ≤ (IntKind.wrap .i64 (n6 + (1 : Int))))) && (decide ((IntKind.wrap .i64 (n6 + (1 : Int))) < ((((List.length (List.set xs (Int.toNat (IntKind.wrap .i64 (n6 + (0 : Int)))) (100 : Int))) - (0 : Nat)) : Nat) : Int)))) then (bif ((decide ((0 : Int) ≤ (IntKind.wrap .i64 (n6 + (2 : Int))))) && (decide ((IntKind.wrap .i64 (n6 + (2 : Int))) < ((((List.length (List.set (List.set xs (Int.toNat (IntKind.wrap .i64 (n6 + (0 : Int)))) (100 : Int)) (Int.toNat (IntKind.wrap .i64 (n6 + (1 : Int)))) (72 : Int))) - (0 : Nat)) : Nat) : Int)))) then (bif ((decide ((0 : Int) ≤ (IntKind.wrap .i64 (n6 + (3 : Int))))) && (decide ((IntKind.wrap .i64 (n6 + (3 : Int))) < ((((List.length (List.set (List.set (List.set xs (Int.toNat (IntKind.wrap .i64 (n6 + (0 : Int)))) (100 : Int)) (Int.toNat (IntKind.wrap .i64 (n6 + (1 : Int)))) (72 : Int)) (Int.toNat (IntKind.wrap .i64 (n6 + (2 : Int)))) (139 : Int))) - (0 : Nat)) : Nat) : Int)))) then (bif ((decide ((0 : Int) ≤ (IntKind.wrap .i64 (n6 + (4 : Int))))) && (decide ((IntKind.wrap .i64 (n6 + (4 : Int))) < ((((List.length (List.set (List.set (List.set (List.set xs (Int.toNat (IntKind.wrap .i64 (n6 + (0 : Int)))) (100 : Int)) (Int.toNat (IntKind.wrap .i64 (n6 + (1 : Int)))) (72 : Int)) (Int.toNat (IntKind.wrap .i64 (n6 + (2 : Int)))) (139 : Int)) (Int.toNat (IntKind.wrap .i64 (n6 + (3 : Int)))) (4 : Int))) - (0 : Nat)) : Nat) : Int)))) then (bif ((decide ((0 : Int) ≤ (IntKind.wrap .i64 (n6 + (5 : Int))))) && (decide ((IntKind.wrap .i64 (n6 + (5 : Int))) < ((((List.length (List.set (List.set (List.set (List.set (List.set xs (Int.toNat (IntKind.wrap .i64 (n6 + (0 : Int)))) (100 : Int)) (Int.toNat (IntKind.wrap .i64 (n6 + (1 : Int)))) (72 : Int)) (Int.toNat (IntKind.wrap .i64 (n6 + (2 : Int)))) (139 : Int)) (Int.toNat (IntKind.wrap .i64 (n6 + (3 : Int)))) (4 : Int)) (Int.toNat (IntKind.wrap .i64 (n6 + (4 : Int)))) (37 : Int))) - (0 : Nat)) : Nat) : Int)))) then (bif ((decide ((0 : Int) ≤ (IntKind.wrap .i64 (n6 + (6 : Int))))) && (decide ((IntKind.wrap .i64 (n6 + (6 : Int))) < ((((List.length (List.set (List.set (List.set (List.set (List.set (List.set xs (Int.toNat (IntKind.wrap .i64 (n6 + (0 : Int)))) (100 : Int)) (Int.toNat (IntKind.wrap .i64 (n6 + (1 : Int)))) (72 : Int)) (Int.toNat (IntKind.wrap .i64 (n6 + (2 : Int)))) (139 : Int)) (Int.toNat (IntKind.wrap .i64 (n6 + (3 : Int)))) (4 : Int)) (Int.toNat (IntKind.wrap .i64 (n6 + (4 : Int)))) (37 : Int)) (Int.toNat (IntKind.wrap .i64 (n6 + (5 : Int)))) (0 : Int))) - (0 : Nat)) : Nat) : Int)))) then (bif ((decide ((0 : Int) ≤ (IntKind.wrap .i64 (n6 + (7 : Int))))) && (decide ((IntKind.wrap .i64 (n6 + (7 : Int))) < ((((List.length (List.set (List.set (List.set (List.set (List.set (List.set (List.set xs (Int.toNat (IntKind.wrap .i64 (n6 + (0 : Int)))) (100 : Int)) (Int.toNat (IntKind.wrap .i64 (n6 + (1 : Int)))) (72 : Int)) (Int.toNat (IntKind.wrap .i64 (n6 + (2 : Int)))) (139 : Int)) (Int.toNat (IntKind.wrap .i64 (n6 + (3 : Int)))) (4 : Int)) (Int.toNat (IntKind.wrap .i64 (n6 + (4 : Int)))) (37 : Int)) (Int.toNat (IntKind.wrap .i64 (n6 + (5 : Int)))) (0 : Int)) (Int.toNat (IntKind.wrap .i64 (n6 + (6 : Int)))) (0 : Int))) - (0 : Nat)) : Nat) : Int)))) then (bif ((decide ((0 : Int) ≤ (IntKind.wrap .i64 (n6 + (8 : Int))))) && (decide ((IntKind.wrap .i64 (n6 + (8 : Int))) < ((((List.length (List.set (List.set (List.set (List.set (List.set (List.set (List.set (List.set xs (Int.toNat (IntKind.wrap .i64 (n6 + (0 : Int)))) (100 : Int)) (Int.toNat (IntKind.wrap .i64 (n6 + (1 : Int)))) (72 : Int)) (Int.toNat (IntKind.wrap .i64 (n6 + (2 : Int)))) (139 : Int)) (Int.toNat (IntKind.wrap .i64 (n6 + (3 : Int)))) (4 : Int)) (Int.toNat (IntKind.wrap .i64 (n6 + (4 : Int)))) (37 : Int)) (Int.toNat (IntKind.wrap .i64 (n6 + (5 : Int)))) (0 : Int)) (Int.toNat (IntKind.wrap .i64 (n6 + (6 : Int)))) (0 : Int)) (Int.toNat (IntKind.wrap .i64 (n6 + (7 : Int)))) (0 : Int))) - (0 : Nat)) : Nat) : Int)))) then (bif ((decide ((0 : Int) ≤ (IntKind.wrap .i64 (n6 + (9 : Int))))) && (decide ((IntKind.wrap .i64 (n6 + (9 : Int))) < ((((List.length (List.set (List.set (List.set (List.set (List.set (List.set (List.set (List.set (List.set xs (Int.toNat (IntKind.wrap .i64 (n6 + (0 : Int)))) (100 : Int)) (Int.toNat (IntKind.wrap .i64 (n6 + (1 : Int)))) (72 : Int)) (Int.toNat (IntKind.wrap .i64 (n6 + (2 : Int)))) (139 : Int)) (Int.toNat (IntKind.wrap .i64 (n6 + (3 : Int)))) (4 : Int)) (Int.toNat (IntKind.wrap .i64 (n6 + (4 : Int)))) (37 : Int)) (Int.toNat (IntKind.wrap .i64 (n6 + (5 : Int)))) (0 : Int)) (Int.toNat (IntKind.wrap .i64 (n6 + (6 : Int)))) (0 : Int)) (Int.toNat (IntKind.wrap .i64 (n6 + (7 : Int)))) (0 : Int)) (Int.toNat (IntKind.wrap .i64 (n6 + (8 : Int)))) (0 : Int))) - (0 : Nat)) : Nat) : Int)))) then (bif ((decide ((0 : Int) ≤ (IntKind.wrap .i64 (n6 + (10 : Int))))) && (decide ((IntKind.wrap .i64 (n6 + (10 : Int))) < ((((List.length (List.set (List.set (List.set (List.set (List.set (List.set (List.set (List.set (List.set (List.set xs (Int.toNat (IntKind.wrap .i64 (n6 + (0 : Int)))) (100 : Int)) (Int.toNat (IntKind.wrap .i64 (n6 + (1 : Int)))) (72 : Int)) (Int.toNat (IntKind.wrap .i64 (n6 + (2 : Int)))) (139 : Int)) (Int.toNat (IntKind.wrap .i64 (n6 + (3 : Int)))) (4 : Int)) (Int.toNat (IntKind.wrap .i64 (n6 + (4 : Int)))) (37 : Int)) (Int.toNat (IntKind.wrap .i64 (n6 + (5 : Int)))) (0 : Int)) (Int.toNat (IntKind.wrap .i64 (n6 + (6 : Int)))) (0 : Int)) (Int.toNat (IntKind.wrap .i64 (n6 + (7 : Int)))) (0 : Int)) (Int.toNat (IntKind.wrap .i64 (n6 + (8 : Int)))) (0 : Int)) (Int.toNat (IntKind.wrap .i64 (n6 + (9 : Int)))) (144 : Int))) - (0 : Nat)) : Nat) : Int)))) then (bif ((decide ((0 : Int) ≤ (IntKind.wrap .i64 (n6 + (11 : Int))))) && (decide ((IntKind.wrap .i64 (n6 + (11 : Int))) < ((((List.length (List.set (List.set (List.set (List.set (List.set (List.set (List.set (List.set (List.set (List.set (List.set xs (Int.toNat (IntKind.wrap .i64 (n6 + (0 : Int)))) (100 : Int)) (Int.toNat (IntKind.wrap .i64 (n6 + (1 : Int)))) (72 : Int)) (Int.toNat (IntKind.wrap .i64 (n6 + (2 : Int)))) (139 : Int)) (Int.toNat (IntKind.wrap .i64 (n6 + (3 : Int)))) (4 : Int)) (Int.toNat (IntKind.wrap .i64 (n6 + (4 : Int)))) (37 : Int)) (Int.toNat (IntKind.wrap .i64 (n6 + (5 : Int)))) (0 : Int)) (Int.toNat (IntKind.wrap .i64 (n6 + (6 : Int)))) (0 : Int)) (Int.toNat (IntKind.wrap .i64 (n6 + (7 : Int)))) (0 : Int)) (Int.toNat (IntKind.wrap .i64 (n6 + (8 : Int)))) (0 : Int)) (Int.toNat (IntKind.wrap .i64 (n6 + (9 : Int)))) (144 : Int)) (Int.toNat (IntKind.wrap .i64 (n6 + (10 : Int)))) (144 : Int))) - (0 : Nat)) : Nat) : Int)))) then (k4 (List.set (List.set (List.set (List.set (List.set (List.set (List.set (List.set (List.set (List.set (List.set (List.set xs (Int.toNat (IntKind.wrap .i64 (n6 + (0 : Int)))) (100 : Int)) (Int.toNat (IntKind.wrap .i64 (n6 + (1 : Int)))) (72 : Int)) (Int.toNat (IntKind.wrap .i64 (n6 + (2 : Int)))) (139 : Int)) (Int.toNat (IntKind.wrap .i64 (n6 + (3 : Int)))) (4 : Int)) (Int.toNat (IntKind.wrap .i64 (n6 + (4 : Int)))) (37 : Int)) (Int.toNat (IntKind.wrap .i64 (n6 + (5 : Int)))) (0 : Int)) (Int.toNat (IntKind.wrap .i64 (n6 + (6 : Int)))) (0 : Int)) (Int.toNat (IntKind.wrap .i64 (n6 + (7 : Int)))) (0 : Int)) (Int.toNat (IntKind.wrap .i64 (n6 + (8 : Int)))) (0 : Int)) (Int.toNat (IntKind.wrap .i64 (n6 + (9 : Int)))) (144 : Int)) (Int.toNat (IntKind.wrap .i64 (n6 + (10 : Int)))) (144 : Int)) (Int.toNat (IntKind.wrap .i64 (n6 + (11 : Int)))) (144 : Int))) else False) else False) else False) else False) else False) else False) else False) else False) else False) else False) else False) else False) else False)) (fun (xs9 : List Int) => (bif ((decide ((((0 : Nat) + ((List.length xs) - (0 : Nat))) * (1 : Nat)) ≤ (140737488355328 : Nat))) && (decide (((0 : Nat) + ((List.length xs) - (0 : Nat))) ≤ (140737488355328 : Nat)))) then (bif ((decide ((0 : Int) ≤ (IntKind.wrap .i64 (n6 + (0 : Int))))) && (decide ((IntKind.wrap .i64 (n6 + (0 : Int))) < ((((List.length xs) - (0 : Nat)) : Nat) : Int)))) then (bif ((decide ((0 : Int) ≤ (IntKind.wrap .i64 (n6 + (1 : Int))))) && (decide ((IntKind.wrap .i64 (n6 + (1 : Int))) < ((((List.length (List.set xs (Int.toNat (IntKind.wrap .i64 (n6 + (0 : Int)))) (100 : Int))) - (0 : Nat)) : Nat) : Int)))) then (bif ((decide ((0 : Int) ≤ (IntKind.wrap .i64 (n6 + (2 : Int))))) && (decide ((IntKind.wrap .i64 (n6 + (2 : Int))) < ((((List.length (List.set (List.set xs (Int.toNat (IntKind.wrap .i64 (n6 + (0 : Int)))) (100 : Int)) (Int.toNat (IntKind.wrap .i64 (n6 + (1 : Int)))) (72 : Int))) - (0 : Nat)) : Nat) : Int)))) then (bif ((decide ((0 : Int) ≤ (IntKind.wrap .i64 (n6 + (3 : Int))))) && (decide ((IntKind.wrap .i64 (n6 + (3 : Int))) < ((((List.length (List.set (List.set (List.set xs (Int.toNat (IntKind.wrap .i64 (n6 + (0 : Int)))) (100 : Int)) (Int.toNat (IntKind.wrap .i64 (n6 + (1 : Int)))) (72 : Int)) (Int.toNat (IntKind.wrap .i64 (n6 + (2 : Int)))) (139 : Int))) - (0 : Nat)) : Nat) : Int)))) then (bif ((decide ((0 : Int) ≤ (IntKind.wrap .i64 (n6 + (4 : Int))))) && (decide ((IntKind.wrap .i64 (n6 + (4 : Int))) < ((((List.length (List.set (List.set (List.set (List.set xs (Int.toNat (IntKind.wrap .i64 (n6 + (0 : Int)))) (100 : Int)) (Int.toNat (IntKind.wrap .i64 (n6 + (1 : Int)))) (72 : Int)) (Int.toNat (IntKind.wrap .i64 (n6 + (2 : Int)))) (139 : Int)) (Int.toNat (IntKind.wrap .i64 (n6 + (3 : Int)))) (4 : Int))) - (0 : Nat)) : Nat) : Int)))) then (bif ((decide ((0 : Int) ≤ (IntKind.wrap .i64 (n6 + (5 : Int))))) && (decide ((IntKind.wrap .i64 (n6 + (5 : Int))) < ((((List.length (List.set (List.set (List.set (List.set (List.set xs (Int.toNat (IntKind.wrap .i64 (n6 + (0 : Int)))) (100 : Int)) (Int.toNat (IntKind.wrap .i64 (n6 + (1 : Int)))) (72 : Int)) (Int.toNat (IntKind.wrap .i64 (n6 + (2 : Int)))) (139 : Int)) (Int.toNat (IntKind.wrap .i64 (n6 + (3 : Int)))) (4 : Int)) (Int.toNat (IntKind.wrap .i64 (n6 + (4 : Int)))) (37 : Int))) - (0 : Nat)) : Nat) : Int)))) then (bif ((decide ((0 : Int) ≤ (IntKind.wrap .i64 (n6 + (6 : Int))))) && (decide ((IntKind.wrap .i64 (n6 + (6 : Int))) < ((((List.length (List.set (List.set (List.set (List.set (List.set (List.set xs (Int.toNat (IntKind.wrap .i64 (n6 + (0 : Int)))) (100 : Int)) (Int.toNat (IntKind.wrap .i64 (n6 + (1 : Int)))) (72 : Int)) (Int.toNat (IntKind.wrap .i64 (n6 + (2 : Int)))) (139 : Int)) (Int.toNat (IntKind.wrap .i64 (n6 + (3 : Int)))) (4 : Int)) (Int.toNat (IntKind.wrap .i64 (n6 + (4 : Int)))) (37 : Int)) (Int.toNat (IntKind.wrap .i64 (n6 + (5 : Int)))) (0 : Int))) - (0 : Nat)) : Nat) : Int)))) then (bif ((decide ((0 : Int) ≤ (IntKind.wrap .i64 (n6 + (7 : Int))))) && (decide ((IntKind.wrap .i64 (n6 + (7 : Int))) < ((((List.length (List.set (List.set (List.set (List.set (List.set (List.set (List.set xs (Int.toNat (IntKind.wrap .i64 (n6 + (0 : Int)))) (100 : Int)) (Int.toNat (IntKind.wrap .i64 (n6 + (1 : Int)))) (72 : Int)) (Int.toNat (IntKind.wrap .i64 (n6 + (2 : Int)))) (139 : Int)) (Int.toNat (IntKind.wrap .i64 (n6 + (3 : Int)))) (4 : Int)) (Int.toNat (IntKind.wrap .i64 (n6 + (4 : Int)))) (37 : Int)) (Int.toNat (IntKind.wrap .i64 (n6 + (5 : Int)))) (0 : Int)) (Int.toNat (IntKind.wrap .i64 (n6 + (6 : Int)))) (0 : Int))) - (0 : Nat)) : Nat) : Int)))) then (bif ((decide ((0 : Int) ≤ (IntKind.wrap .i64 (n6 + (8 : Int))))) && (decide ((IntKind.wrap .i64 (n6 + (8 : Int))) < ((((List.length (List.set (List.set (List.set (List.set (List.set (List.set (List.set (List.set xs (Int.toNat (IntKind.wrap .i64 (n6 + (0 : Int)))) (100 : Int)) (Int.toNat (IntKind.wrap .i64 (n6 + (1 : Int)))) (72 : Int)) (Int.toNat (IntKind.wrap .i64 (n6 + (2 : Int)))) (139 : Int)) (Int.toNat (IntKind.wrap .i64 (n6 + (3 : Int)))) (4 : Int)) (Int.toNat (IntKind.wrap .i64 (n6 + (4 : Int)))) (37 : Int)) (Int.toNat (IntKind.wrap .i64 (n6 + (5 : Int)))) (0 : Int)) (Int.toNat (IntKind.wrap .i64 (n6 + (6 : Int)))) (0 : Int)) (Int.toNat (IntKind.wrap .i64 (n6 + (7 : Int)))) (0 : Int))) - (0 : Nat)) : Nat) : Int)))) then (bif ((decide ((0 : Int) ≤ (IntKind.wrap .i64 (n6 + (9 : Int))))) && (decide ((IntKind.wrap .i64 (n6 + (9 : Int))) < ((((List.length (List.set (List.set (List.set (List.set (List.set (List.set (List.set (List.set (List.set xs (Int.toNat (IntKind.wrap .i64 (n6 + (0 : Int)))) (100 : Int)) (Int.toNat (IntKind.wrap .i64 (n6 + (1 : Int)))) (72 : Int)) (Int.toNat (IntKind.wrap .i64 (n6 + (2 : Int)))) (139 : Int)) (Int.toNat (IntKind.wrap .i64 (n6 + (3 : Int)))) (4 : Int)) (Int.toNat (IntKind.wrap .i64 (n6 + (4 : Int)))) (37 : Int)) (Int.toNat (IntKind.wrap .i64 (n6 + (5 : Int)))) (0 : Int)) (Int.toNat (IntKind.wrap .i64 (n6 + (6 : Int)))) (0 : Int)) (Int.toNat (IntKind.wrap .i64 (n6 + (7 : Int)))) (0 : Int)) (Int.toNat (IntKind.wrap .i64 (n6 + (8 : Int)))) (0 : Int))) - (0 : Nat)) : Nat) : Int)))) then (bif ((decide ((0 : Int) ≤ (IntKind.wrap .i64 (n6 + (10 : Int))))) && (decide ((IntKind.wrap .i64 (n6 + (10 : Int))) < ((((List.length (List.set (List.set (List.set (List.set (List.set (List.set (List.set (List.set (List.set (List.set xs (Int.toNat (IntKind.wrap .i64 (n6 + (0 : Int)))) (100 : Int)) (Int.toNat (IntKind.wrap .i64 (n6 + (1 : Int)))) (72 : Int)) (Int.toNat (IntKind.wrap .i64 (n6 + (2 : Int)))) (139 : Int)) (Int.toNat (IntKind.wrap .i64 (n6 + (3 : Int)))) (4 : Int)) (Int.toNat (IntKind.wrap .i64 (n6 + (4 : Int)))) (37 : Int)) (Int.toNat (IntKind.wrap .i64 (n6 + (5 : Int)))) (0 : Int)) (Int.toNat (IntKind.wrap .i64 (n6 + (6 : Int)))) (0 : Int)) (Int.toNat (IntKind.wrap .i64 (n6 + (7 : Int)))) (0 : Int)) (Int.toNat (IntKind.wrap .i64 (n6 + (8 : Int)))) (0 : Int)) (Int.toNat (IntKind.wrap .i64 (n6 + (9 : Int)))) (144 : Int))) - (0 : Nat)) : Nat) : Int)))) then (bif ((decide ((0 : Int) ≤ (IntKind.wrap .i64 (n6 + (11 : Int))))) && (decide ((IntKind.wrap .i64 (n6 + (11 : Int))) < ((((List.length (List.set (List.set (List.set (List.set (List.set (List.set (List.set (List.set (List.set (List.set (List.set xs (Int.toNat (IntKind.wrap .i64 (n6 + (0 : Int)))) (100 : Int)) (Int.toNat (IntKind.wrap .i64 (n6 + (1 : Int)))) (72 : Int)) (Int.toNat (IntKind.wrap .i64 (n6 + (2 : Int)))) (139 : Int)) (Int.toNat (IntKind.wrap .i64 (n6 + (3 : Int)))) (4 : Int)) (Int.toNat (IntKind.wrap .i64 (n6 + (4 : Int)))) (37 : Int)) (Int.toNat (IntKind.wrap .i64 (n6 + (5 : Int)))) (0 : Int)) (Int.toNat (IntKind.wrap .i64 (n6 + (6 : Int)))) (0 : Int)) (Int.toNat (IntKind.wrap .i64 (n6 + (7 : Int)))) (0 : Int)) (Int.toNat (IntKind.wrap .i64 (n6 + (8 : Int)))) (0 : Int)) (Int.toNat (IntKind.wrap .i64 (n6 + (9 : Int)))) (144 : Int)) (Int.toNat (IntKind.wrap .i64 (n6 + (10 : Int)))) (144 : Int))) - (0 : Nat)) : Nat) : Int)))) then (k4 (List.set (List.set (List.set (List.set (List.set (List.set (List.set (List.set (List.set (List.set (List.set (List.set xs (Int.toNat (IntKind.wrap .i64 (n6 + (0 : Int)))) (100 : Int)) (Int.toNat (IntKind.wrap .i64 (n6 + (1 : Int)))) (72 : Int)) (Int.toNat (IntKind.wrap .i64 (n6 + (2 : Int)))) (139 : Int)) (Int.toNat (IntKind.wrap .i64 (n6 + (3 : Int)))) (4 : Int)) (Int.toNat (IntKind.wrap .i64 (n6 + (4 : Int)))) (37 : Int)) (Int.toNat (IntKind.wrap .i64 (n6 + (5 : Int)))) (0 : Int)) (Int.toNat (IntKind.wrap .i64 (n6 + (6 : Int)))) (0 : Int)) (Int.toNat (IntKind.wrap .i64 (n6 + (7 : Int)))) (0 : Int)) (Int.toNat (IntKind.wrap .i64 (n6 + (8 : Int)))) (0 : Int)) (Int.toNat (IntKind.wrap .i64 (n6 + (9 : Int)))) (144 : Int)) (Int.toNat (IntKind.wrap .i64 (n6 + (10 : Int)))) (144 : Int)) (Int.toNat (IntKind.wrap .i64 (n6 + (11 : Int)))) (144 : Int))) else False) else False) else False) else False) else False) else False) else False) else False) else False) else False) else False) else False) else False))))) ((k3)))) (fun (n10 : Int) (n11 : Int) => (f49 off (fun (b12 : Bool) => (bif (!b12) then (k3) else (f50 off ((bif (decide (n11 ≥ (8 : Int))) then (bif (decide (n11 ≥ (8 : Int))) then (bif ((decide ((((0 : Nat) + ((List.length xs) - (0 : Nat))) * (1 : Nat)) ≤ (140737488355328 : Nat))) && (decide (((0 : Nat) + ((List.length xs) - (0 : Nat))) ≤ (140737488355328 : Nat)))) then (bif ((decide ((0 : Int) ≤ (IntKind.wrap .i64 (n10 + (0 : Int))))) && (decide ((IntKind.wrap .i64 (n10 + (0 : Int))) < ((((List.length xs) - (0 : Nat)) : Nat) : Int)))) then (bif ((decide ((0 : Int) ≤ (IntKind.wrap .i64 (n10 + (1 : Int))))) && (decide ((IntKind.wrap .i64 (n10 + (1 : Int))) < ((((List.length (List.set xs (Int.toNat (IntKind.wrap .i64 (n10 + (0 : Int)))) (73 : Int))) - (0 : Nat)) : Nat) : Int)))) then (bif ((decide ((0 : Int) ≤ (IntKind.wrap .i64 (n10 + (2 : Int))))) && (decide ((IntKind.wrap .i64 (n10 + (2 : Int))) < ((((List.length (List.set (List.set xs (Int.toNat (IntKind.wrap .i64 (n10 + (0 : Int)))) (73 : Int)) (Int.toNat (IntKind.wrap .i64 (n10 + (1 : Int)))) (199 : Int))) - (0 : Nat)) : Nat) : Int)))) then False else False) else False) else False) else False) else (bif ((decide ((((0 : Nat) + ((List.length xs) - (0 : Nat))) * (1 : Nat)) ≤ (140737488355328 : Nat))) && (decide (((0 : Nat) + ((List.length xs) - (0 : Nat))) ≤ (140737488355328 : Nat)))) then (bif ((decide ((0 : Int) ≤ (IntKind.wrap .i64 (n10 + (0 : Int))))) && (decide ((IntKind.wrap .i64 (n10 + (0 : Int))) < ((((List.length xs) - (0 : Nat)) : Nat) : Int)))) then (bif ((decide ((0 : Int) ≤ (IntKind.wrap .i64 (n10 + (1 : Int))))) && (decide ((IntKind.wrap .i64 (n10 + (1 : Int))) < ((((List.length (List.set xs (Int.toNat (IntKind.wrap .i64 (n10 + (0 : Int)))) (72 : Int))) - (0 : Nat)) : Nat) : Int)))) then (bif ((decide ((0 : Int) ≤ (IntKind.wrap .i64 (n10 + (2 : Int))))) && (decide ((IntKind.wrap .i64 (n10 + (2 : Int))) < ((((List.length (List.set (List.set xs (Int.toNat (IntKind.wrap .i64 (n10 + (0 : Int)))) (72 : Int)) (Int.toNat (IntKind.wrap .i64 (n10 + (1 : Int)))) (199 : Int))) - (0 : Nat)) : Nat) : Int)))) then False else False) else False) else False) else False)) else (bif (decide (n11 ≥ (8 : Int))) then (bif ((decide ((((0 : Nat) + ((List.length xs) - (0 : Nat))) * (1 : Nat)) ≤ (140737488355328 : Nat))) && (decide (((0 : Nat) + ((List.length xs) - (0 : Nat))) ≤ (140737488355328 : Nat)))) then (bif ((decide ((0 : Int) ≤ (IntKind.wrap .i64 (n10 + (0 : Int))))) && (decide ((IntKind.wrap .i64 (n10 + (0 : Int))) < ((((List.length xs) - (0 : Nat)) : Nat) : Int)))) then (bif ((decide ((0 : Int) ≤ (IntKind.wrap .i64 (n10 + (1 : Int))))) && (decide ((IntKind.wrap .i64 (n10 + (1 : Int))) < ((((List.length (List.set xs (Int.toNat (IntKind.wrap .i64 (n10 + (0 : Int)))) (73 : Int))) - (0 : Nat)) : Nat) : Int)))) then (bif ((decide ((0 : Int) ≤ (IntKind.wrap .i64 (n10 + (2 : Int))))) && (decide ((IntKind.wrap .i64 (n10 + (2 : Int))) < ((((List.length (List.set (List.set xs (Int.toNat (IntKind.wrap .i64 (n10 + (0 : Int)))) (73 : Int)) (Int.toNat (IntKind.wrap .i64 (n10 + (1 : Int)))) (199 : Int))) - (0 : Nat)) : Nat) : Int)))) then False else False) else False) else False) else False) else (bif ((decide ((((0 : Nat) + ((List.length xs) - (0 : Nat))) * (1 : Nat)) ≤ (140737488355328 : Nat))) && (decide (((0 : Nat) + ((List.length xs) - (0 : Nat))) ≤ (140737488355328 : Nat)))) then (bif ((decide ((0 : Int) ≤ (IntKind.wrap .i64 (n10 + (0 : Int))))) && (decide ((IntKind.wrap .i64 (n10 + (0 : Int))) < ((((List.length xs) - (0 : Nat)) : Nat) : Int)))) then (bif ((decide ((0 : Int) ≤ (IntKind.wrap .i64 (n10 + (1 : Int))))) && (decide ((IntKind.wrap .i64 (n10 + (1 : Int))) < ((((List.length (List.set xs (Int.toNat (IntKind.wrap .i64 (n10 + (0 : Int)))) (72 : Int))) - (0 : Nat)) : Nat) : Int)))) then (bif ((decide ((0 : Int) ≤ (IntKind.wrap .i64 (n10 + (2 : Int))))) && (decide ((IntKind.wrap .i64 (n10 + (2 : Int))) < ((((List.length (List.set (List.set xs (Int.toNat (IntKind.wrap .i64 (n10 + (0 : Int)))) (72 : Int)) (Int.toNat (IntKind.wrap .i64 (n10 + (1 : Int)))) (199 : Int))) - (0 : Nat)) : Nat) : Int)))) then False else False) else False) else False) else False)))) (fun (xs13 : List Int) => (bif (decide (n11 ≥ (8 : Int))) then (bif (decide (n11 ≥ (8 : Int))) then (bif ((decide ((((3 : Nat) + ((List.length xs13) - (0 : Nat))) * (1 : Nat)) ≤ (140737488355328 : Nat))) && (decide (((3 : Nat) + ((List.length xs13) - (0 : Nat))) ≤ (140737488355328 : Nat)))) then (bif ((decide ((((0 : Nat) + ((List.length xs) - (0 : Nat))) * (1 : Nat)) ≤ (140737488355328 : Nat))) && (decide (((0 : Nat) + ((List.length xs) - (0 : Nat))) ≤ (140737488355328 : Nat)))) then (bif (decide ((0 : Int) < ((((List.length (([(73 : Int), (199 : Int), (IntKind.wrap .u8 (IntKind.wrap .i64 ((192 : Int) + (Int.tmod n11 (8 : Int)))))] : List Int) ++ xs13)) - (0 : Nat)) : Nat) : Int))) then (bif ((decide ((0 : Int) ≤ (IntKind.wrap .i64 (n10 + (0 : Int))))) && (decide ((IntKind.wrap .i64 (n10 + (0 : Int))) < ((((List.length xs) - (0 : Nat)) : Nat) : Int)))) then (bif (decide ((1 : Int) < ((((List.length (([(73 : Int), (199 : Int), (IntKind.wrap .u8 (IntKind.wrap .i64 ((192 : Int) + (Int.tmod n11 (8 : Int)))))] : List Int) ++ xs13)) - (0 : Nat)) : Nat) : Int))) then (bif ((decide ((0 : Int) ≤ (IntKind.wrap .i64 (n10 + (1 : Int))))) && (decide ((IntKind.wrap .i64 (n10 + (1 : Int))) < ((((List.length (List.set xs (Int.toNat (IntKind.wrap .i64 (n10 + (0 : Int)))) (List.getD (([(73 : Int), (199 : Int), (IntKind.wrap .u8 (IntKind.wrap .i64 ((192 : Int) + (Int.tmod n11 (8 : Int)))))] : List Int) ++ xs13) (0 : Nat) (0 : Int)))) - (0 : Nat)) : Nat) : Int)))) then (bif (decide ((2 : Int) < ((((List.length (([(73 : Int), (199 : Int), (IntKind.wrap .u8 (IntKind.wrap .i64 ((192 : Int) + (Int.tmod n11 (8 : Int)))))] : List Int) ++ xs13)) - (0 : Nat)) : Nat) : Int))) then (bif ((decide ((0 : Int) ≤ (IntKind.wrap .i64 (n10 + (2 : Int))))) && (decide ((IntKind.wrap .i64 (n10 + (2 : Int))) < ((((List.length (List.set (List.set xs (Int.toNat (IntKind.wrap .i64 (n10 + (0 : Int)))) (List.getD (([(73 : Int), (199 : Int), (IntKind.wrap .u8 (IntKind.wrap .i64 ((192 : Int) + (Int.tmod n11 (8 : Int)))))] : List Int) ++ xs13) (0 : Nat) (0 : Int))) (Int.toNat (IntKind.wrap .i64 (n10 + (1 : Int)))) (List.getD (([(73 : Int), (199 : Int), (IntKind.wrap .u8 (IntKind.wrap .i64 ((192 : Int) + (Int.tmod n11 (8 : Int)))))] : List Int) ++ xs13) (1 : Nat) (0 : Int)))) - (0 : Nat)) : Nat) : Int)))) then (bif (decide ((3 : Int) < ((((List.length (([(73 : Int), (199 : Int), (IntKind.wrap .u8 (IntKind.wrap .i64 ((192 : Int) + (Int.tmod n11 (8 : Int)))))] : List Int) ++ xs13)) - (0 : Nat)) : Nat) : Int))) then (bif ((decide ((0 : Int) ≤ (IntKind.wrap .i64 (n10 + (3 : Int))))) && (decide ((IntKind.wrap .i64 (n10 + (3 : Int))) < ((((List.length (List.set (List.set (List.set xs (Int.toNat (IntKind.wrap .i64 (n10 + (0 : Int)))) (List.getD (([(73 : Int), (199 : Int), (IntKind.wrap .u8 (IntKind.wrap .i64 ((192 : Int) + (Int.tmod n11 (8 : Int)))))] : List Int) ++ xs13) (0 : Nat) (0 : Int))) (Int.toNat (IntKind.wrap .i64 (n10 + (1 : Int)))) (List.getD (([(73 : Int), (199 : Int), (IntKind.wrap .u8 (IntKind.wrap .i64 ((192 : Int) + (Int.tmod n11 (8 : Int)))))] : List Int) ++ xs13) (1 : Nat) (0 : Int))) (Int.toNat (IntKind.wrap .i64 (n10 + (2 : Int)))) (List.getD (([(73 : Int), (199 : Int), (IntKind.wrap .u8 (IntKind.wrap .i64 ((192 : Int) + (Int.tmod n11 (8 : Int)))))] : List Int) ++ xs13) (2 : Nat) (0 : Int)))) - (0 : Nat)) : Nat) : Int)))) then (bif (decide ((4 : Int) < ((((List.length (([(73 : Int), (199 : Int), (IntKind.wrap .u8 (IntKind.wrap .i64 ((192 : Int) + (Int.tmod n11 (8 : Int)))))] : List Int) ++ xs13)) - (0 : Nat)) : Nat) : Int))) then (bif ((decide ((0 : Int) ≤ (IntKind.wrap .i64 (n10 + (4 : Int))))) && (decide ((IntKind.wrap .i64 (n10 + (4 : Int))) < ((((List.length (List.set (List.set (List.set (List.set xs (Int.toNat (IntKind.wrap .i64 (n10 + (0 : Int)))) (List.getD (([(73 : Int), (199 : Int), (IntKind.wrap .u8 (IntKind.wrap .i64 ((192 : Int) + (Int.tmod n11 (8 : Int)))))] : List Int) ++ xs13) (0 : Nat) (0 : Int))) (Int.toNat (IntKind.wrap .i64 (n10 + (1 : Int)))) (List.getD (([(73 : Int), (199 : Int), (IntKind.wrap .u8 (IntKind.wrap .i64 ((192 : Int) + (Int.tmod n11 (8 : Int)))))] : List Int) ++ xs13) (1 : Nat) (0 : Int))) (Int.toNat (IntKind.wrap .i64 (n10 + (2 : Int)))) (List.getD (([(73 : Int), (199 : Int), (IntKind.wrap .u8 (IntKind.wrap .i64 ((192 : Int) + (Int.tmod n11 (8 : Int)))))] : List Int) ++ xs13) (2 : Nat) (0 : Int))) (Int.toNat (IntKind.wrap .i64 (n10 + (3 : Int)))) (List.getD (([(73 : Int), (199 : Int), (IntKind.wrap .u8 (IntKind.wrap .i64 ((192 : Int) + (Int.tmod n11 (8 : Int)))))] : List Int) ++ xs13) (3 : Nat) (0 : Int)))) - (0 : Nat)) : Nat) : Int)))) then (bif (decide ((5 : Int) < ((((List.length (([(73 : Int), (199 : Int), (IntKind.wrap .u8 (IntKind.wrap .i64 ((192 : Int) + (Int.tmod n11 (8 : Int)))))] : List Int) ++ xs13)) - (0 : Nat)) : Nat) : Int))) then (bif ((decide ((0 : Int) ≤ (IntKind.wrap .i64 (n10 + (5 : Int))))) && (decide ((IntKind.wrap .i64 (n10 + (5 : Int))) < ((((List.length (List.set (List.set (List.set (List.set (List.set xs (Int.toNat (IntKind.wrap .i64 (n10 + (0 : Int)))) (List.getD (([(73 : Int), (199 : Int), (IntKind.wrap .u8 (IntKind.wrap .i64 ((192 : Int) + (Int.tmod n11 (8 : Int)))))] : List Int) ++ xs13) (0 : Nat) (0 : Int))) (Int.toNat (IntKind.wrap .i64 (n10 + (1 : Int)))) (List.getD (([(73 : Int), (199 : Int), (IntKind.wrap .u8 (IntKind.wrap .i64 ((192 : Int) + (Int.tmod n11 (8 : Int)))))] : List Int) ++ xs13) (1 : Nat) (0 : Int))) (Int.toNat (IntKind.wrap .i64 (n10 + (2 : Int)))) (List.getD (([(73 : Int), (199 : Int), (IntKind.wrap .u8 (IntKind.wrap .i64 ((192 : Int) + (Int.tmod n11 (8 : Int)))))] : List Int) ++ xs13) (2 : Nat) (0 : Int))) (Int.toNat (IntKind.wrap .i64 (n10 + (3 : Int)))) (List.getD (([(73 : Int), (199 : Int), (IntKind.wrap .u8 (IntKind.wrap .i64 ((192 : Int) + (Int.tmod n11 (8 : Int)))))] : List Int) ++ xs13) (3 : Nat) (0 : Int))) (Int.toNat (IntKind.wrap .i64 (n10 + (4 : Int)))) (List.getD (([(73 : Int), (199 : Int), (IntKind.wrap .u8 (IntKind.wrap .i64 ((192 : Int) + (Int.tmod n11 (8 : Int)))))] : List Int) ++ xs13) (4 : Nat) (0 : Int)))) - (0 : Nat)) : Nat) : Int)))) then (bif (decide ((6 : Int) < ((((List.length (([(73 : Int), (199 : Int), (IntKind.wrap .u8 (IntKind.wrap .i64 ((192 : Int) + (Int.tmod n11 (8 : Int)))))] : List Int) ++ xs13)) - (0 : Nat)) : Nat) : Int))) then (bif ((decide ((0 : Int) ≤ (IntKind.wrap .i64 (n10 + (6 : Int))))) && (decide ((IntKind.wrap .i64 (n10 + (6 : Int))) < ((((List.length (List.set (List.set (List.set (List.set (List.set (List.set xs (Int.toNat (IntKind.wrap .i64 (n10 + (0 : Int)))) (List.getD (([(73 : Int), (199 : Int), (IntKind.wrap .u8 (IntKind.wrap .i64 ((192 : Int) + (Int.tmod n11 (8 : Int)))))] : List Int) ++ xs13) (0 : Nat) (0 : Int))) (Int.toNat (IntKind.wrap .i64 (n10 + (1 : Int)))) (List.getD (([(73 : Int), (199 : Int), (IntKind.wrap .u8 (IntKind.wrap .i64 ((192 : Int) + (Int.tmod n11 (8 : Int)))))] : List Int) ++ xs13) (1 : Nat) (0 : Int))) (Int.toNat (IntKind.wrap .i64 (n10 + (2 : Int)))) (List.getD (([(73 : Int), (199 : Int), (IntKind.wrap .u8 (IntKind.wrap .i64 ((192 : Int) + (Int.tmod n11 (8 : Int)))))] : List Int) ++ xs13) (2 : Nat) (0 : Int))) (Int.toNat (IntKind.wrap .i64 (n10 + (3 : Int)))) (List.getD (([(73 : Int), (199 : Int), (IntKind.wrap .u8 (IntKind.wrap .i64 ((192 : Int) + (Int.tmod n11 (8 : Int)))))] : List Int) ++ xs13) (3 : Nat) (0 : Int))) (Int.toNat (IntKind.wrap .i64 (n10 + (4 : Int)))) (List.getD (([(73 : Int), (199 : Int), (IntKind.wrap .u8 (IntKind.wrap .i64 ((192 : Int) + (Int.tmod n11 (8 : Int)))))] : List Int) ++ xs13) (4 : Nat) (0 : Int))) (Int.toNat (IntKind.wrap .i64 (n10 + (5 : Int)))) (List.getD (([(73 : Int), (199 : Int), (IntKind.wrap .u8 (IntKind.wrap .i64 ((192 : Int) + (Int.tmod n11 (8 : Int)))))] : List Int) ++ xs13) (5 : Nat) (0 : Int)))) - (0 : Nat)) : Nat) : Int)))) then (k4 (List.set (List.set (List.set (List.set (List.set (List.set (List.set xs (Int.toNat (IntKind.wrap .i64 (n10 + (0 : Int)))) (List.getD (([(73 : Int), (199 : Int), (IntKind.wrap .u8 (IntKind.wrap .i64 ((192 : Int) + (Int.tmod n11 (8 : Int)))))] : List Int) ++ xs13) (0 : Nat) (0 : Int))) (Int.toNat (IntKind.wrap .i64 (n10 + (1 : Int)))) (List.getD (([(73 : Int), (199 : Int), (IntKind.wrap .u8 (IntKind.wrap .i64 ((192 : Int) + (Int.tmod n11 (8 : Int)))))] : List Int) ++ xs13) (1 : Nat) (0 : Int))) (Int.toNat (IntKind.wrap .i64 (n10 + (2 : Int)))) (List.getD (([(73 : Int), (199 : Int), (IntKind.wrap .u8 (IntKind.wrap .i64 ((192 : Int) + (Int.tmod n11 (8 : Int)))))] : List Int) ++ xs13) (2 : Nat) (0 : Int))) (Int.toNat (IntKind.wrap .i64 (n10 + (3 : Int)))) (List.getD (([(73 : Int), (199 : Int), (IntKind.wrap .u8 (IntKind.wrap .i64 ((192 : Int) + (Int.tmod n11 (8 : Int)))))] : List Int) ++ xs13) (3 : Nat) (0 : Int))) (Int.toNat (IntKind.wrap .i64 (n10 + (4 : Int)))) (List.getD (([(73 : Int), (199 : Int), (IntKind.wrap .u8 (IntKind.wrap .i64 ((192 : Int) + (Int.tmod n11 (8 : Int)))))] : List Int) ++ xs13) (4 : Nat) (0 : Int))) (Int.toNat (IntKind.wrap .i64 (n10 + (5 : Int)))) (List.getD (([(73 : Int), (199 : Int), (IntKind.wrap .u8 (IntKind.wrap .i64 ((192 : Int) + (Int.tmod n11 (8 : Int)))))] : List Int) ++ xs13) (5 : Nat) (0 : Int))) (Int.toNat (IntKind.wrap .i64 (n10 + (6 : Int)))) (List.getD (([(73 : Int), (199 : Int), (IntKind.wrap .u8 (IntKind.wrap .i64 ((192 : Int) + (Int.tmod n11 (8 : Int)))))] : List Int) ++ xs13) (6 : Nat) (0 : Int)))) else False) else False) else False) else False) else False) else False) else False) else False) else False) else False) else False) else False) else False) else False) else False) else False) else (bif ((decide ((((3 : Nat) + ((List.length xs13) - (0 : Nat))) * (1 : Nat)) ≤ (140737488355328 : Nat))) && (decide (((3 : Nat) + ((List.length xs13) - (0 : Nat))) ≤ (140737488355328 : Nat)))) then (bif ((decide ((((0 : Nat) + ((List.length xs) - (0 : Nat))) * (1 : Nat)) ≤ (140737488355328 : Nat))) && (decide (((0 : Nat) + ((List.length xs) - (0 : Nat))) ≤ (140737488355328 : Nat)))) then (bif (decide ((0 : Int) < ((((List.length (([(72 : Int), (199 : Int), (IntKind.wrap .u8 (IntKind.wrap .i64 ((192 : Int) + (Int.tmod n11 (8 : Int)))))] : List Int) ++ xs13)) - (0 : Nat)) : Nat) : Int))) then (bif ((decide ((0 : Int) ≤ (IntKind.wrap .i64 (n10 + (0 : Int))))) && (decide ((IntKind.wrap .i64 (n10 + (0 : Int))) < ((((List.length xs) - (0 : Nat)) : Nat) : Int)))) then (bif (decide ((1 : Int) < ((((List.length (([(72 : Int), (199 : Int), (IntKind.wrap .u8 (IntKind.wrap .i64 ((192 : Int) + (Int.tmod n11 (8 : Int)))))] : List Int) ++ xs13)) - (0 : Nat)) : Nat) : Int))) then (bif ((decide ((0 : Int) ≤ (IntKind.wrap .i64 (n10 + (1 : Int))))) && (decide ((IntKind.wrap .i64 (n10 + (1 : Int))) < ((((List.length (List.set xs (Int.toNat (IntKind.wrap .i64 (n10 + (0 : Int)))) (List.getD (([(72 : Int), (199 : Int), (IntKind.wrap .u8 (IntKind.wrap .i64 ((192 : Int) + (Int.tmod n11 (8 : Int)))))] : List Int) ++ xs13) (0 : Nat) (0 : Int)))) - (0 : Nat)) : Nat) : Int)))) then (bif (decide ((2 : Int) < ((((List.length (([(72 : Int), (199 : Int), (IntKind.wrap .u8 (IntKind.wrap .i64 ((192 : Int) + (Int.tmod n11 (8 : Int)))))] : List Int) ++ xs13)) - (0 : Nat)) : Nat) : Int))) then (bif ((decide ((0 : Int) ≤ (IntKind.wrap .i64 (n10 + (2 : Int))))) && (decide ((IntKind.wrap .i64 (n10 + (2 : Int))) < ((((List.length (List.set (List.set xs (Int.toNat (IntKind.wrap .i64 (n10 + (0 : Int)))) (List.getD (([(72 : Int), (199 : Int), (IntKind.wrap .u8 (IntKind.wrap .i64 ((192 : Int) + (Int.tmod n11 (8 : Int)))))] : List Int) ++ xs13) (0 : Nat) (0 : Int))) (Int.toNat (IntKind.wrap .i64 (n10 + (1 : Int)))) (List.getD (([(72 : Int), (199 : Int), (IntKind.wrap .u8 (IntKind.wrap .i64 ((192 : Int) + (Int.tmod n11 (8 : Int)))))] : List Int) ++ xs13) (1 : Nat) (0 : Int)))) - (0 : Nat)) : Nat) : Int)))) then (bif (decide ((3 : Int) < ((((List.length (([(72 : Int), (199 : Int), (IntKind.wrap .u8 (IntKind.wrap .i64 ((192 : Int) + (Int.tmod n11 (8 : Int)))))] : List Int) ++ xs13)) - (0 : Nat)) : Nat) : Int))) then (bif ((decide ((0 : Int) ≤ (IntKind.wrap .i64 (n10 + (3 : Int))))) && (decide ((IntKind.wrap .i64 (n10 + (3 : Int))) < ((((List.length (List.set (List.set (List.set xs (Int.toNat (IntKind.wrap .i64 (n10 + (0 : Int)))) (List.getD (([(72 : Int), (199 : Int), (IntKind.wrap .u8 (IntKind.wrap .i64 ((192 : Int) + (Int.tmod n11 (8 : Int)))))] : List Int) ++ xs13) (0 : Nat) (0 : Int))) (Int.toNat (IntKind.wrap .i64 (n10 + (1 : Int)))) (List.getD (([(72 : Int), (199 : Int), (IntKind.wrap .u8 (IntKind.wrap .i64 ((192 : Int) + (Int.tmod n11 (8 : Int)))))] : List Int) ++ xs13) (1 : Nat) (0 : Int))) (Int.toNat (IntKind.wrap .i64 (n10 + (2 : Int)))) (List.getD (([(72 : Int), (199 : Int), (IntKind.wrap .u8 (IntKind.wrap .i64 ((192 : Int) + (Int.tmod n11 (8 : Int)))))] : List Int) ++ xs13) (2 : Nat) (0 : Int)))) - (0 : Nat)) : Nat) : Int)))) then (bif (decide ((4 : Int) < ((((List.length (([(72 : Int), (199 : Int), (IntKind.wrap .u8 (IntKind.wrap .i64 ((192 : Int) + (Int.tmod n11 (8 : Int)))))] : List Int) ++ xs13)) - (0 : Nat)) : Nat) : Int))) then (bif ((decide ((0 : Int) ≤ (IntKind.wrap .i64 (n10 + (4 : Int))))) && (decide ((IntKind.wrap .i64 (n10 + (4 : Int))) < ((((List.length (List.set (List.set (List.set (List.set xs (Int.toNat (IntKind.wrap .i64 (n10 + (0 : Int)))) (List.getD (([(72 : Int), (199 : Int), (IntKind.wrap .u8 (IntKind.wrap .i64 ((192 : Int) + (Int.tmod n11 (8 : Int)))))] : List Int) ++ xs13) (0 : Nat) (0 : Int))) (Int.toNat (IntKind.wrap .i64 (n10 + (1 : Int)))) (List.getD (([(72 : Int), (199 : Int), (IntKind.wrap .u8 (IntKind.wrap .i64 ((192 : Int) + (Int.tmod n11 (8 : Int)))))] : List Int) ++ xs13) (1 : Nat) (0 : Int))) (Int.toNat (IntKind.wrap .i64 (n10 + (2 : Int)))) (List.getD (([(72 : Int), (199 : Int), (IntKind.wrap .u8 (IntKind.wrap .i64 ((192 : Int) + (Int.tmod n11 (8 : Int)))))] : List Int) ++ xs13) (2 : Nat) (0 : Int))) (Int.toNat (IntKind.wrap .i64 (n10 + (3 : Int)))) (List.getD (([(72 : Int), (199 : Int), (IntKind.wrap .u8 (IntKind.wrap .i64 ((192 : Int) + (Int.tmod n11 (8 : Int)))))] : List Int) ++ xs13) (3 : Nat) (0 : Int)))) - (0 : Nat)) : Nat) : Int)))) then (bif (decide ((5 : Int) < ((((List.length (([(72 : Int), (199 : Int), (IntKind.wrap .u8 (IntKind.wrap .i64 ((192 : Int) + (Int.tmod n11 (8 : Int)))))] : List Int) ++ xs13)) - (0 : Nat)) : Nat) : Int))) then (bif ((decide ((0 : Int) ≤ (IntKind.wrap .i64 (n10 + (5 : Int))))) && (decide ((IntKind.wrap .i64 (n10 + (5 : Int))) < ((((List.length (List.set (List.set (List.set (List.set (List.set xs (Int.toNat (IntKind.wrap .i64 (n10 + (0 : Int)))) (List.getD (([(72 : Int), (199 : Int), (IntKind.wrap .u8 (IntKind.wrap .i64 ((192 : Int) + (Int.tmod n11 (8 : Int)))))] : List Int) ++ xs13) (0 : Nat) (0 : Int))) (Int.toNat (IntKind.wrap .i64 (n10 + (1 : Int)))) (List.getD (([(72 : Int), (199 : Int), (IntKind.wrap .u8 (IntKind.wrap .i64 ((192 : Int) + (Int.tmod n11 (8 : Int)))))] : List Int) ++ xs13) (1 : Nat) (0 : Int))) (Int.toNat (IntKind.wrap .i64 (n10 + (2 : Int)))) (List.getD (([(72 : Int), (199 : Int), (IntKind.wrap .u8 (IntKind.wrap .i64 ((192 : Int) + (Int.tmod n11 (8 : Int)))))] : List Int) ++ xs13) (2 : Nat) (0 : Int))) (Int.toNat (IntKind.wrap .i64 (n10 + (3 : Int)))) (List.getD (([(72 : Int), (199 : Int), (IntKind.wrap .u8 (IntKind.wrap .i64 ((192 : Int) + (Int.tmod n11 (8 : Int)))))] : List Int) ++ xs13) (3 : Nat) (0 : Int))) (Int.toNat (IntKind.wrap .i64 (n10 + (4 : Int)))) (List.getD (([(72 : Int), (199 : Int), (IntKind.wrap .u8 (IntKind.wrap .i64 ((192 : Int) + (Int.tmod n11 (8 : Int)))))] : List Int) ++ xs13) (4 : Nat) (0 : Int)))) - (0 : Nat)) : Nat) : Int)))) then (bif (decide ((6 : Int) < ((((List.length (([(72 : Int), (199 : Int), (IntKind.wrap .u8 (IntKind.wrap .i64 ((192 : Int) + (Int.tmod n11 (8 : Int)))))] : List Int) ++ xs13)) - (0 : Nat)) : Nat) : Int))) then (bif ((decide ((0 : Int) ≤ (IntKind.wrap .i64 (n10 + (6 : Int))))) && (decide ((IntKind.wrap .i64 (n10 + (6 : Int))) < ((((List.length (List.set (List.set (List.set (List.set (List.set (List.set xs (Int.toNat (IntKind.wrap .i64 (n10 + (0 : Int)))) (List.getD (([(72 : Int), (199 : Int), (IntKind.wrap .u8 (IntKind.wrap .i64 ((192 : Int) + (Int.tmod n11 (8 : Int)))))] : List Int) ++ xs13) (0 : Nat) (0 : Int))) (Int.toNat (IntKind.wrap .i64 (n10 + (1 : Int)))) (List.getD (([(72 : Int), (199 : Int), (IntKind.wrap .u8 (IntKind.wrap .i64 ((192 : Int) + (Int.tmod n11 (8 : Int)))))] : List Int) ++ xs13) (1 : Nat) (0 : Int))) (Int.toNat (IntKind.wrap .i64 (n10 + (2 : Int)))) (List.getD (([(72 : Int), (199 : Int), (IntKind.wrap .u8 (IntKind.wrap .i64 ((192 : Int) + (Int.tmod n11 (8 : Int)))))] : List Int) ++ xs13) (2 : Nat) (0 : Int))) (Int.toNat (IntKind.wrap .i64 (n10 + (3 : Int)))) (List.getD (([(72 : Int), (199 : Int), (IntKind.wrap .u8 (IntKind.wrap .i64 ((192 : Int) + (Int.tmod n11 (8 : Int)))))] : List Int) ++ xs13) (3 : Nat) (0 : Int))) (Int.toNat (IntKind.wrap .i64 (n10 + (4 : Int)))) (List.getD (([(72 : Int), (199 : Int), (IntKind.wrap .u8 (IntKind.wrap .i64 ((192 : Int) + (Int.tmod n11 (8 : Int)))))] : List Int) ++ xs13) (4 : Nat) (0 : Int))) (Int.toNat (IntKind.wrap .i64 (n10 + (5 : Int)))) (List.getD (([(72 : Int), (199 : Int), (IntKind.wrap .u8 (IntKind.wrap .i64 ((192 : Int) + (Int.tmod n11 (8 : Int)))))] : List Int) ++ xs13) (5 : Nat) (0 : Int)))) - (0 : Nat)) : Nat) : Int)))) then (k4 (List.set (List.set (List.set (List.set (List.set (List.set (List.set xs (Int.toNat (IntKind.wrap .i64 (n10 + (0 : Int)))) (List.getD (([(72 : Int), (199 : Int), (IntKind.wrap .u8 (IntKind.wrap .i64 ((192 : Int) + (Int.tmod n11 (8 : Int)))))] : List Int) ++ xs13) (0 : Nat) (0 : Int))) (Int.toNat (IntKind.wrap .i64 (n10 + (1 : Int)))) (List.getD (([(72 : Int), (199 : Int), (IntKind.wrap .u8 (IntKind.wrap .i64 ((192 : Int) + (Int.tmod n11 (8 : Int)))))] : List Int) ++ xs13) (1 : Nat) (0 : Int))) (Int.toNat (IntKind.wrap .i64 (n10 + (2 : Int)))) (List.getD (([(72 : Int), (199 : Int), (IntKind.wrap .u8 (IntKind.wrap .i64 ((192 : Int) + (Int.tmod n11 (8 : Int)))))] : List Int) ++ xs13) (2 : Nat) (0 : Int))) (Int.toNat (IntKind.wrap .i64 (n10 + (3 : Int)))) (List.getD (([(72 : Int), (199 : Int), (IntKind.wrap .u8 (IntKind.wrap .i64 ((192 : Int) + (Int.tmod n11 (8 : Int)))))] : List Int) ++ xs13) (3 : Nat) (0 : Int))) (Int.toNat (IntKind.wrap .i64 (n10 + (4 : Int)))) (List.getD (([(72 : Int), (199 : Int), (IntKind.wrap .u8 (IntKind.wrap .i64 ((192 : Int) + (Int.tmod n11 (8 : Int)))))] : List Int) ++ xs13) (4 : Nat) (0 : Int))) (Int.toNat (IntKind.wrap .i64 (n10 + (5 : Int)))) (List.getD (([(72 : Int), (199 : Int), (IntKind.wrap .u8 (IntKind.wrap .i64 ((192 : Int) + (Int.tmod n11 (8 : Int)))))] : List Int) ++ xs13) (5 : Nat) (0 : Int))) (Int.toNat (IntKind.wrap .i64 (n10 + (6 : Int)))) (List.getD (([(72 : Int), (199 : Int), (IntKind.wrap .u8 (IntKind.wrap .i64 ((192 : Int) + (Int.tmod n11 (8 : Int)))))] : List Int) ++ xs13) (6 : Nat) (0 : Int)))) else False) else False) else False) else False) else False) else False) else False) else False) else False) else False) else False) else False) else False) else False) else False) else False)) else (bif (decide (n11 ≥ (8 : Int))) then (bif ((decide ((((3 : Nat) + ((List.length xs13) - (0 : Nat))) * (1 : Nat)) ≤ (140737488355328 : Nat))) && (decide (((3 : Nat) + ((List.length xs13) - (0 : Nat))) ≤ (140737488355328 : Nat)))) then (bif ((decide ((((0 : Nat) + ((List.length xs) - (0 : Nat))) * (1 : Nat)) ≤ (140737488355328 : Nat))) && (decide (((0 : Nat) + ((List.length xs) - (0 : Nat))) ≤ (140737488355328 : Nat)))) then (bif (decide ((0 : Int) < ((((List.length (([(73 : Int), (199 : Int), (IntKind.wrap .u8 (IntKind.wrap .i64 ((192 : Int) + (Int.tmod n11 (8 : Int)))))] : List Int) ++ xs13)) - (0 : Nat)) : Nat) : Int))) then (bif ((decide ((0 : Int) ≤ (IntKind.wrap .i64 (n10 + (0 : Int))))) && (decide ((IntKind.wrap .i64 (n10 + (0 : Int))) < ((((List.length xs) - (0 : Nat)) : Nat) : Int)))) then (bif (decide ((1 : Int) < ((((List.length (([(73 : Int), (199 : Int), (IntKind.wrap .u8 (IntKind.wrap .i64 ((192 : Int) + (Int.tmod n11 (8 : Int)))))] : List Int) ++ xs13)) - (0 : Nat)) : Nat) : Int))) then (bif ((decide ((0 : Int) ≤ (IntKind.wrap .i64 (n10 + (1 : Int))))) && (decide ((IntKind.wrap .i64 (n10 + (1 : Int))) < ((((List.length (List.set xs (Int.toNat (IntKind.wrap .i64 (n10 + (0 : Int)))) (List.getD (([(73 : Int), (199 : Int), (IntKind.wrap .u8 (IntKind.wrap .i64 ((192 : Int) + (Int.tmod n11 (8 : Int)))))] : List Int) ++ xs13) (0 : Nat) (0 : Int)))) - (0 : Nat)) : Nat) : Int)))) then (bif (decide ((2 : Int) < ((((List.length (([(73 : Int), (199 : Int), (IntKind.wrap .u8 (IntKind.wrap .i64 ((192 : Int) + (Int.tmod n11 (8 : Int)))))] : List Int) ++ xs13)) - (0 : Nat)) : Nat) : Int))) then (bif ((decide ((0 : Int) ≤ (IntKind.wrap .i64 (n10 + (2 : Int))))) && (decide ((IntKind.wrap .i64 (n10 + (2 : Int))) < ((((List.length (List.set (List.set xs (Int.toNat (IntKind.wrap .i64 (n10 + (0 : Int)))) (List.getD (([(73 : Int), (199 : Int), (IntKind.wrap .u8 (IntKind.wrap .i64 ((192 : Int) + (Int.tmod n11 (8 : Int)))))] : List Int) ++ xs13) (0 : Nat) (0 : Int))) (Int.toNat (IntKind.wrap .i64 (n10 + (1 : Int)))) (List.getD (([(73 : Int), (199 : Int), (IntKind.wrap .u8 (IntKind.wrap .i64 ((192 : Int) + (Int.tmod n11 (8 : Int)))))] : List Int) ++ xs13) (1 : Nat) (0 : Int)))) - (0 : Nat)) : Nat) : Int)))) then (bif (decide ((3 : Int) < ((((List.length (([(73 : Int), (199 : Int), (IntKind.wrap .u8 (IntKind.wrap .i64 ((192 : Int) + (Int.tmod n11 (8 : Int)))))] : List Int) ++ xs13)) - (0 : Nat)) : Nat) : Int))) then (bif ((decide ((0 : Int) ≤ (IntKind.wrap .i64 (n10 + (3 : Int))))) && (decide ((IntKind.wrap .i64 (n10 + (3 : Int))) < ((((List.length (List.set (List.set (List.set xs (Int.toNat (IntKind.wrap .i64 (n10 + (0 : Int)))) (List.getD (([(73 : Int), (199 : Int), (IntKind.wrap .u8 (IntKind.wrap .i64 ((192 : Int) + (Int.tmod n11 (8 : Int)))))] : List Int) ++ xs13) (0 : Nat) (0 : Int))) (Int.toNat (IntKind.wrap .i64 (n10 + (1 : Int)))) (List.getD (([(73 : Int), (199 : Int), (IntKind.wrap .u8 (IntKind.wrap .i64 ((192 : Int) + (Int.tmod n11 (8 : Int)))))] : List Int) ++ xs13) (1 : Nat) (0 : Int))) (Int.toNat (IntKind.wrap .i64 (n10 + (2 : Int)))) (List.getD (([(73 : Int), (199 : Int), (IntKind.wrap .u8 (IntKind.wrap .i64 ((192 : Int) + (Int.tmod n11 (8 : Int)))))] : List Int) ++ xs13) (2 : Nat) (0 : Int)))) - (0 : Nat)) : Nat) : Int)))) then (bif (decide ((4 : Int) < ((((List.length (([(73 : Int), (199 : Int), (IntKind.wrap .u8 (IntKind.wrap .i64 ((192 : Int) + (Int.tmod n11 (8 : Int)))))] : List Int) ++ xs13)) - (0 : Nat)) : Nat) : Int))) then (bif ((decide ((0 : Int) ≤ (IntKind.wrap .i64 (n10 + (4 : Int))))) && (decide ((IntKind.wrap .i64 (n10 + (4 : Int))) < ((((List.length (List.set (List.set (List.set (List.set xs (Int.toNat (IntKind.wrap .i64 (n10 + (0 : Int)))) (List.getD (([(73 : Int), (199 : Int), (IntKind.wrap .u8 (IntKind.wrap .i64 ((192 : Int) + (Int.tmod n11 (8 : Int)))))] : List Int) ++ xs13) (0 : Nat) (0 : Int))) (Int.toNat (IntKind.wrap .i64 (n10 + (1 : Int)))) (List.getD (([(73 : Int), (199 : Int), (IntKind.wrap .u8 (IntKind.wrap .i64 ((192 : Int) + (Int.tmod n11 (8 : Int)))))] : List Int) ++ xs13) (1 : Nat) (0 : Int))) (Int.toNat (IntKind.wrap .i64 (n10 + (2 : Int)))) (List.getD (([(73 : Int), (199 : Int), (IntKind.wrap .u8 (IntKind.wrap .i64 ((192 : Int) + (Int.tmod n11 (8 : Int)))))] : List Int) ++ xs13) (2 : Nat) (0 : Int))) (Int.toNat (IntKind.wrap .i64 (n10 + (3 : Int)))) (List.getD (([(73 : Int), (199 : Int), (IntKind.wrap .u8 (IntKind.wrap .i64 ((192 : Int) + (Int.tmod n11 (8 : Int)))))] : List Int) ++ xs13) (3 : Nat) (0 : Int)))) - (0 : Nat)) : Nat) : Int)))) then (bif (decide ((5 : Int) < ((((List.length (([(73 : Int), (199 : Int), (IntKind.wrap .u8 (IntKind.wrap .i64 ((192 : Int) + (Int.tmod n11 (8 : Int)))))] : List Int) ++ xs13)) - (0 : Nat)) : Nat) : Int))) then (bif ((decide ((0 : Int) ≤ (IntKind.wrap .i64 (n10 + (5 : Int))))) && (decide ((IntKind.wrap .i64 (n10 + (5 : Int))) < ((((List.length (List.set (List.set (List.set (List.set (List.set xs (Int.toNat (IntKind.wrap .i64 (n10 + (0 : Int)))) (List.getD (([(73 : Int), (199 : Int), (IntKind.wrap .u8 (IntKind.wrap .i64 ((192 : Int) + (Int.tmod n11 (8 : Int)))))] : List Int) ++ xs13) (0 : Nat) (0 : Int))) (Int.toNat (IntKind.wrap .i64 (n10 + (1 : Int)))) (List.getD (([(73 : Int), (199 : Int), (IntKind.wrap .u8 (IntKind.wrap .i64 ((192 : Int) + (Int.tmod n11 (8 : Int)))))] : List Int) ++ xs13) (1 : Nat) (0 : Int))) (Int.toNat (IntKind.wrap .i64 (n10 + (2 : Int)))) (List.getD (([(73 : Int), (199 : Int), (IntKind.wrap .u8 (IntKind.wrap .i64 ((192 : Int) + (Int.tmod n11 (8 : Int)))))] : List Int) ++ xs13) (2 : Nat) (0 : Int))) (Int.toNat (IntKind.wrap .i64 (n10 + (3 : Int)))) (List.getD (([(73 : Int), (199 : Int), (IntKind.wrap .u8 (IntKind.wrap .i64 ((192 : Int) + (Int.tmod n11 (8 : Int)))))] : List Int) ++ xs13) (3 : Nat) (0 : Int))) (Int.toNat (IntKind.wrap .i64 (n10 + (4 : Int)))) (List.getD (([(73 : Int), (199 : Int), (IntKind.wrap .u8 (IntKind.wrap .i64 ((192 : Int) + (Int.tmod n11 (8 : Int)))))] : List Int) ++ xs13) (4 : Nat) (0 : Int)))) - (0 : Nat)) : Nat) : Int)))) then (bif (decide ((6 : Int) < ((((List.length (([(73 : Int), (199 : Int), (IntKind.wrap .u8 (IntKind.wrap .i64 ((192 : Int) + (Int.tmod n11 (8 : Int)))))] : List Int) ++ xs13)) - (0 : Nat)) : Nat) : Int))) then (bif ((decide ((0 : Int) ≤ (IntKind.wrap .i64 (n10 + (6 : Int))))) && (decide ((IntKind.wrap .i64 (n10 + (6 : Int))) < ((((List.length (List.set (List.set (List.set (List.set (List.set (List.set xs (Int.toNat (IntKind.wrap .i64 (n10 + (0 : Int)))) (List.getD (([(73 : Int), (199 : Int), (IntKind.wrap .u8 (IntKind.wrap .i64 ((192 : Int) + (Int.tmod n11 (8 : Int)))))] : List Int) ++ xs13) (0 : Nat) (0 : Int))) (Int.toNat (IntKind.wrap .i64 (n10 + (1 : Int)))) (List.getD (([(73 : Int), (199 : Int), (IntKind.wrap .u8 (IntKind.wrap .i64 ((192 : Int) + (Int.tmod n11 (8 : Int)))))] : List Int) ++ xs13) (1 : Nat) (0 : Int))) (Int.toNat (IntKind.wrap .i64 (n10 + (2 : Int)))) (List.getD (([(73 : Int), (199 : Int), (IntKind.wrap .u8 (IntKind.wrap .i64 ((192 : Int) + (Int.tmod n11 (8 : Int)))))] : List Int) ++ xs13) (2 : Nat) (0 : Int))) (Int.toNat (IntKind.wrap .i64 (n10 + (3 : Int)))) (List.getD (([(73 : Int), (199 : Int), (IntKind.wrap .u8 (IntKind.wrap .i64 ((192 : Int) + (Int.tmod n11 (8 : Int)))))] : List Int) ++ xs13) (3 : Nat) (0 : Int))) (Int.toNat (IntKind.wrap .i64 (n10 + (4 : Int)))) (List.getD (([(73 : Int), (199 : Int), (IntKind.wrap .u8 (IntKind.wrap .i64 ((192 : Int) + (Int.tmod n11 (8 : Int)))))] : List Int) ++ xs13) (4 : Nat) (0 : Int))) (Int.toNat (IntKind.wrap .i64 (n10 + (5 : Int)))) (List.getD (([(73 : Int), (199 : Int), (IntKind.wrap .u8 (IntKind.wrap .i64 ((192 : Int) + (Int.tmod n11 (8 : Int)))))] : List Int) ++ xs13) (5 : Nat) (0 : Int)))) - (0 : Nat)) : Nat) : Int)))) then (k4 (List.set (List.set (List.set (List.set (List.set (List.set (List.set xs (Int.toNat (IntKind.wrap .i64 (n10 + (0 : Int)))) (List.getD (([(73 : Int), (199 : Int), (IntKind.wrap .u8 (IntKind.wrap .i64 ((192 : Int) + (Int.tmod n11 (8 : Int)))))] : List Int) ++ xs13) (0 : Nat) (0 : Int))) (Int.toNat (IntKind.wrap .i64 (n10 + (1 : Int)))) (List.getD (([(73 : Int), (199 : Int), (IntKind.wrap .u8 (IntKind.wrap .i64 ((192 : Int) + (Int.tmod n11 (8 : Int)))))] : List Int) ++ xs13) (1 : Nat) (0 : Int))) (Int.toNat (IntKind.wrap .i64 (n10 + (2 : Int)))) (List.getD (([(73 : Int), (199 : Int), (IntKind.wrap .u8 (IntKind.wrap .i64 ((192 : Int) + (Int.tmod n11 (8 : Int)))))] : List Int) ++ xs13) (2 : Nat) (0 : Int))) (Int.toNat (IntKind.wrap .i64 (n10 + (3 : Int)))) (List.getD (([(73 : Int), (199 : Int), (IntKind.wrap .u8 (IntKind.wrap .i64 ((192 : Int) + (Int.tmod n11 (8 : Int)))))] : List Int) ++ xs13) (3 : Nat) (0 : Int))) (Int.toNat (IntKind.wrap .i64 (n10 + (4 : Int)))) (List.getD (([(73 : Int), (199 : Int), (IntKind.wrap .u8 (IntKind.wrap .i64 ((192 : Int) + (Int.tmod n11 (8 : Int)))))] : List Int) ++ xs13) (4 : Nat) (0 : Int))) (Int.toNat (IntKind.wrap .i64 (n10 + (5 : Int)))) (List.getD (([(73 : Int), (199 : Int), (IntKind.wrap .u8 (IntKind.wrap .i64 ((192 : Int) + (Int.tmod n11 (8 : Int)))))] : List Int) ++ xs13) (5 : Nat) (0 : Int))) (Int.toNat (IntKind.wrap .i64 (n10 + (6 : Int)))) (List.getD (([(73 : Int), (199 : Int), (IntKind.wrap .u8 (IntKind.wrap .i64 ((192 : Int) + (Int.tmod n11 (8 : Int)))))] : List Int) ++ xs13) (6 : Nat) (0 : Int)))) else False) else False) else False) else False) else False) else False) else False) else False) else False) else False) else False) else False) else False) else False) else False) else False) else (bif ((decide ((((3 : Nat) + ((List.length xs13) - (0 : Nat))) * (1 : Nat)) ≤ (140737488355328 : Nat))) && (decide (((3 : Nat) + ((List.length xs13) - (0 : Nat))) ≤ (140737488355328 : Nat)))) then (bif ((decide ((((0 : Nat) + ((List.length xs) - (0 : Nat))) * (1 : Nat)) ≤ (140737488355328 : Nat))) && (decide (((0 : Nat) + ((List.length xs) - (0 : Nat))) ≤ (140737488355328 : Nat)))) then (bif (decide ((0 : Int) < ((((List.length (([(72 : Int), (199 : Int), (IntKind.wrap .u8 (IntKind.wrap .i64 ((192 : Int) + (Int.tmod n11 (8 : Int)))))] : List Int) ++ xs13)) - (0 : Nat)) : Nat) : Int))) then (bif ((decide ((0 : Int) ≤ (IntKind.wrap .i64 (n10 + (0 : Int))))) && (decide ((IntKind.wrap .i64 (n10 + (0 : Int))) < ((((List.length xs) - (0 : Nat)) : Nat) : Int)))) then (bif (decide ((1 : Int) < ((((List.length (([(72 : Int), (199 : Int), (IntKind.wrap .u8 (IntKind.wrap .i64 ((192 : Int) + (Int.tmod n11 (8 : Int)))))] : List Int) ++ xs13)) - (0 : Nat)) : Nat) : Int))) then (bif ((decide ((0 : Int) ≤ (IntKind.wrap .i64 (n10 + (1 : Int))))) && (decide ((IntKind.wrap .i64 (n10 + (1 : Int))) < ((((List.length (List.set xs (Int.toNat (IntKind.wrap .i64 (n10 + (0 : Int)))) (List.getD (([(72 : Int), (199 : Int), (IntKind.wrap .u8 (IntKind.wrap .i64 ((192 : Int) + (Int.tmod n11 (8 : Int)))))] : List Int) ++ xs13) (0 : Nat) (0 : Int)))) - (0 : Nat)) : Nat) : Int)))) then (bif (decide ((2 : Int) < ((((List.length (([(72 : Int), (199 : Int), (IntKind.wrap .u8 (IntKind.wrap .i64 ((192 : Int) + (Int.tmod n11 (8 : Int)))))] : List Int) ++ xs13)) - (0 : Nat)) : Nat) : Int))) then (bif ((decide ((0 : Int) ≤ (IntKind.wrap .i64 (n10 + (2 : Int))))) && (decide ((IntKind.wrap .i64 (n10 + (2 : Int))) < ((((List.length (List.set (List.set xs (Int.toNat (IntKind.wrap .i64 (n10 + (0 : Int)))) (List.getD (([(72 : Int), (199 : Int), (IntKind.wrap .u8 (IntKind.wrap .i64 ((192 : Int) + (Int.tmod n11 (8 : Int)))))] : List Int) ++ xs13) (0 : Nat) (0 : Int))) (Int.toNat (IntKind.wrap .i64 (n10 + (1 : Int)))) (List.getD (([(72 : Int), (199 : Int), (IntKind.wrap .u8 (IntKind.wrap .i64 ((192 : Int) + (Int.tmod n11 (8 : Int)))))] : List Int) ++ xs13) (1 : Nat) (0 : Int)))) - (0 : Nat)) : Nat) : Int)))) then (bif (decide ((3 : Int) < ((((List.length (([(72 : Int), (199 : Int), (IntKind.wrap .u8 (IntKind.wrap .i64 ((192 : Int) + (Int.tmod n11 (8 : Int)))))] : List Int) ++ xs13)) - (0 : Nat)) : Nat) : Int))) then (bif ((decide ((0 : Int) ≤ (IntKind.wrap .i64 (n10 + (3 : Int))))) && (decide ((IntKind.wrap .i64 (n10 + (3 : Int))) < ((((List.length (List.set (List.set (List.set xs (Int.toNat (IntKind.wrap .i64 (n10 + (0 : Int)))) (List.getD (([(72 : Int), (199 : Int), (IntKind.wrap .u8 (IntKind.wrap .i64 ((192 : Int) + (Int.tmod n11 (8 : Int)))))] : List Int) ++ xs13) (0 : Nat) (0 : Int))) (Int.toNat (IntKind.wrap .i64 (n10 + (1 : Int)))) (List.getD (([(72 : Int), (199 : Int), (IntKind.wrap .u8 (IntKind.wrap .i64 ((192 : Int) + (Int.tmod n11 (8 : Int)))))] : List Int) ++ xs13) (1 : Nat) (0 : Int))) (Int.toNat (IntKind.wrap .i64 (n10 + (2 : Int)))) (List.getD (([(72 : Int), (199 : Int), (IntKind.wrap .u8 (IntKind.wrap .i64 ((192 : Int) + (Int.tmod n11 (8 : Int)))))] : List Int) ++ xs13) (2 : Nat) (0 : Int)))) - (0 : Nat)) : Nat) : Int)))) then (bif (decide ((4 : Int) < ((((List.length (([(72 : Int), (199 : Int), (IntKind.wrap .u8 (IntKind.wrap .i64 ((192 : Int) + (Int.tmod n11 (8 : Int)))))] : List Int) ++ xs13)) - (0 : Nat)) : Nat) : Int))) then (bif ((decide ((0 : Int) ≤ (IntKind.wrap .i64 (n10 + (4 : Int))))) && (decide ((IntKind.wrap .i64 (n10 + (4 : Int))) < ((((List.length (List.set (List.set (List.set (List.set xs (Int.toNat (IntKind.wrap .i64 (n10 + (0 : Int)))) (List.getD (([(72 : Int), (199 : Int), (IntKind.wrap .u8 (IntKind.wrap .i64 ((192 : Int) + (Int.tmod n11 (8 : Int)))))] : List Int) ++ xs13) (0 : Nat) (0 : Int))) (Int.toNat (IntKind.wrap .i64 (n10 + (1 : Int)))) (List.getD (([(72 : Int), (199 : Int), (IntKind.wrap .u8 (IntKind.wrap .i64 ((192 : Int) + (Int.tmod n11 (8 : Int)))))] : List Int) ++ xs13) (1 : Nat) (0 : Int))) (Int.toNat (IntKind.wrap .i64 (n10 + (2 : Int)))) (List.getD (([(72 : Int), (199 : Int), (IntKind.wrap .u8 (IntKind.wrap .i64 ((192 : Int) + (Int.tmod n11 (8 : Int)))))] : List Int) ++ xs13) (2 : Nat) (0 : Int))) (Int.toNat (IntKind.wrap .i64 (n10 + (3 : Int)))) (List.getD (([(72 : Int), (199 : Int), (IntKind.wrap .u8 (IntKind.wrap .i64 ((192 : Int) + (Int.tmod n11 (8 : Int)))))] : List Int) ++ xs13) (3 : Nat) (0 : Int)))) - (0 : Nat)) : Nat) : Int)))) then (bif (decide ((5 : Int) < ((((List.length (([(72 : Int), (199 : Int), (IntKind.wrap .u8 (IntKind.wrap .i64 ((192 : Int) + (Int.tmod n11 (8 : Int)))))] : List Int) ++ xs13)) - (0 : Nat)) : Nat) : Int))) then (bif ((decide ((0 : Int) ≤ (IntKind.wrap .i64 (n10 + (5 : Int))))) && (decide ((IntKind.wrap .i64 (n10 + (5 : Int))) < ((((List.length (List.set (List.set (List.set (List.set (List.set xs (Int.toNat (IntKind.wrap .i64 (n10 + (0 : Int)))) (List.getD (([(72 : Int), (199 : Int), (IntKind.wrap .u8 (IntKind.wrap .i64 ((192 : Int) + (Int.tmod n11 (8 : Int)))))] : List Int) ++ xs13) (0 : Nat) (0 : Int))) (Int.toNat (IntKind.wrap .i64 (n10 + (1 : Int)))) (List.getD (([(72 : Int), (199 : Int), (IntKind.wrap .u8 (IntKind.wrap .i64 ((192 : Int) + (Int.tmod n11 (8 : Int)))))] : List Int) ++ xs13) (1 : Nat) (0 : Int))) (Int.toNat (IntKind.wrap .i64 (n10 + (2 : Int)))) (List.getD (([(72 : Int), (199 : Int), (IntKind.wrap .u8 (IntKind.wrap .i64 ((192 : Int) + (Int.tmod n11 (8 : Int)))))] : List Int) ++ xs13) (2 : Nat) (0 : Int))) (Int.toNat (IntKind.wrap .i64 (n10 + (3 : Int)))) (List.getD (([(72 : Int), (199 : Int), (IntKind.wrap .u8 (IntKind.wrap .i64 ((192 : Int) + (Int.tmod n11 (8 : Int)))))] : List Int) ++ xs13) (3 : Nat) (0 : Int))) (Int.toNat (IntKind.wrap .i64 (n10 + (4 : Int)))) (List.getD (([(72 : Int), (199 : Int), (IntKind.wrap .u8 (IntKind.wrap .i64 ((192 : Int) + (Int.tmod n11 (8 : Int)))))] : List Int) ++ xs13) (4 : Nat) (0 : Int)))) - (0 : Nat)) : Nat) : Int)))) then (bif (decide ((6 : Int) < ((((List.length (([(72 : Int), (199 : Int), (IntKind.wrap .u8 (IntKind.wrap .i64 ((192 : Int) + (Int.tmod n11 (8 : Int)))))] : List Int) ++ xs13)) - (0 : Nat)) : Nat) : Int))) then (bif ((decide ((0 : Int) ≤ (IntKind.wrap .i64 (n10 + (6 : Int))))) && (decide ((IntKind.wrap .i64 (n10 + (6 : Int))) < ((((List.length (List.set (List.set (List.set (List.set (List.set (List.set xs (Int.toNat (IntKind.wrap .i64 (n10 + (0 : Int)))) (List.getD (([(72 : Int), (199 : Int), (IntKind.wrap .u8 (IntKind.wrap .i64 ((192 : Int) + (Int.tmod n11 (8 : Int)))))] : List Int) ++ xs13) (0 : Nat) (0 : Int))) (Int.toNat (IntKind.wrap .i64 (n10 + (1 : Int)))) (List.getD (([(72 : Int), (199 : Int), (IntKind.wrap .u8 (IntKind.wrap .i64 ((192 : Int) + (Int.tmod n11 (8 : Int)))))] : List Int) ++ xs13) (1 : Nat) (0 : Int))) (Int.toNat (IntKind.wrap .i64 (n10 + (2 : Int)))) (List.getD (([(72 : Int), (199 : Int), (IntKind.wrap .u8 (IntKind.wrap .i64 ((192 : Int) + (Int.tmod n11 (8 : Int)))))] : List Int) ++ xs13) (2 : Nat) (0 : Int))) (Int.toNat (IntKind.wrap .i64 (n10 + (3 : Int)))) (List.getD (([(72 : Int), (199 : Int), (IntKind.wrap .u8 (IntKind.wrap .i64 ((192 : Int) + (Int.tmod n11 (8 : Int)))))] : List Int) ++ xs13) (3 : Nat) (0 : Int))) (Int.toNat (IntKind.wrap .i64 (n10 + (4 : Int)))) (List.getD (([(72 : Int), (199 : Int), (IntKind.wrap .u8 (IntKind.wrap .i64 ((192 : Int) + (Int.tmod n11 (8 : Int)))))] : List Int) ++ xs13) (4 : Nat) (0 : Int))) (Int.toNat (IntKind.wrap .i64 (n10 + (5 : Int)))) (List.getD (([(72 : Int), (199 : Int), (IntKind.wrap .u8 (IntKind.wrap .i64 ((192 : Int) + (Int.tmod n11 (8 : Int)))))] : List Int) ++ xs13) (5 : Nat) (0 : Int)))) - (0 : Nat)) : Nat) : Int)))) then (k4 (List.set (List.set (List.set (List.set (List.set (List.set (List.set xs (Int.toNat (IntKind.wrap .i64 (n10 + (0 : Int)))) (List.getD (([(72 : Int), (199 : Int), (IntKind.wrap .u8 (IntKind.wrap .i64 ((192 : Int) + (Int.tmod n11 (8 : Int)))))] : List Int) ++ xs13) (0 : Nat) (0 : Int))) (Int.toNat (IntKind.wrap .i64 (n10 + (1 : Int)))) (List.getD (([(72 : Int), (199 : Int), (IntKind.wrap .u8 (IntKind.wrap .i64 ((192 : Int) + (Int.tmod n11 (8 : Int)))))] : List Int) ++ xs13) (1 : Nat) (0 : Int))) (Int.toNat (IntKind.wrap .i64 (n10 + (2 : Int)))) (List.getD (([(72 : Int), (199 : Int), (IntKind.wrap .u8 (IntKind.wrap .i64 ((192 : Int) + (Int.tmod n11 (8 : Int)))))] : List Int) ++ xs13) (2 : Nat) (0 : Int))) (Int.toNat (IntKind.wrap .i64 (n10 + (3 : Int)))) (List.getD (([(72 : Int), (199 : Int), (IntKind.wrap .u8 (IntKind.wrap .i64 ((192 : Int) + (Int.tmod n11 (8 : Int)))))] : List Int) ++ xs13) (3 : Nat) (0 : Int))) (Int.toNat (IntKind.wrap .i64 (n10 + (4 : Int)))) (List.getD (([(72 : Int), (199 : Int), (IntKind.wrap .u8 (IntKind.wrap .i64 ((192 : Int) + (Int.tmod n11 (8 : Int)))))] : List Int) ++ xs13) (4 : Nat) (0 : Int))) (Int.toNat (IntKind.wrap .i64 (n10 + (5 : Int)))) (List.getD (([(72 : Int), (199 : Int), (IntKind.wrap .u8 (IntKind.wrap .i64 ((192 : Int) + (Int.tmod n11 (8 : Int)))))] : List Int) ++ xs13) (5 : Nat) (0 : Int))) (Int.toNat (IntKind.wrap .i64 (n10 + (6 : Int)))) (List.getD (([(72 : Int), (199 : Int), (IntKind.wrap .u8 (IntKind.wrap .i64 ((192 : Int) + (Int.tmod n11 (8 : Int)))))] : List Int) ++ xs13) (6 : Nat) (0 : Int)))) else False) else False) else False) else False) else False) else False) else False) else False) else False) else False) else False) else False) else False) else False) else False) else False))))))) ((k3)))) (fun (n14 : Int) => (f49 off (fun (b15 : Bool) => (bif (!b15) then (k3) else (f50 off ((bif ((decide ((((0 : Nat) + ((List.length xs) - (0 : Nat))) * (1 : Nat)) ≤ (140737488355328 : Nat))) && (decide (((0 : Nat) + ((List.length xs) - (0 : Nat))) ≤ (140737488355328 : Nat)))) then False else False)) (fun (xs16 : List Int) => (bif ((decide ((((0 : Nat) + ((List.length xs) - (0 : Nat))) * (1 : Nat)) ≤ (140737488355328 : Nat))) && (decide (((0 : Nat) + ((List.length xs) - (0 : Nat))) ≤ (140737488355328 : Nat)))) then (bif (decide ((0 : Int) < ((((List.length xs16) - (0 : Nat)) : Nat) : Int))) then (bif ((decide ((0 : Int) ≤ (IntKind.wrap .i64 (pa + (0 : Int))))) && (decide ((IntKind.wrap .i64 (pa + (0 : Int))) < ((((List.length xs) - (0 : Nat)) : Nat) : Int)))) then (bif (decide ((1 : Int) < ((((List.length xs16) - (0 : Nat)) : Nat) : Int))) then (bif ((decide ((0 : Int) ≤ (IntKind.wrap .i64 (pa + (1 : Int))))) && (decide ((IntKind.wrap .i64 (pa + (1 : Int))) < ((((List.length (List.set xs (Int.toNat (IntKind.wrap .i64 (pa + (0 : Int)))) (List.getD xs16 (0 : Nat) (0 : Int)))) - (0 : Nat)) : Nat) : Int)))) then (bif (decide ((2 : Int) < ((((List.length xs16) - (0 : Nat)) : Nat) : Int))) then (bif ((decide ((0 : Int) ≤ (IntKind.wrap .i64 (pa + (2 : Int))))) && (decide ((IntKind.wrap .i64 (pa + (2 : Int))) < ((((List.length (List.set (List.set xs (Int.toNat (IntKind.wrap .i64 (pa + (0 : Int)))) (List.getD xs16 (0 : Nat) (0 : Int))) (Int.toNat (IntKind.wrap .i64 (pa + (1 : Int)))) (List.getD xs16 (1 : Nat) (0 : Int)))) - (0 : Nat)) : Nat) : Int)))) then (bif (decide ((3 : Int) < ((((List.length xs16) - (0 : Nat)) : Nat) : Int))) then (bif ((decide ((0 : Int) ≤ (IntKind.wrap .i64 (pa + (3 : Int))))) && (decide ((IntKind.wrap .i64 (pa + (3 : Int))) < ((((List.length (List.set (List.set (List.set xs (Int.toNat (IntKind.wrap .i64 (pa + (0 : Int)))) (List.getD xs16 (0 : Nat) (0 : Int))) (Int.toNat (IntKind.wrap .i64 (pa + (1 : Int)))) (List.getD xs16 (1 : Nat) (0 : Int))) (Int.toNat (IntKind.wrap .i64 (pa + (2 : Int)))) (List.getD xs16 (2 : Nat) (0 : Int)))) - (0 : Nat)) : Nat) : Int)))) then (k4 (List.set (List.set (List.set (List.set xs (Int.toNat (IntKind.wrap .i64 (pa + (0 : Int)))) (List.getD xs16 (0 : Nat) (0 : Int))) (Int.toNat (IntKind.wrap .i64 (pa + (1 : Int)))) (List.getD xs16 (1 : Nat) (0 : Int))) (Int.toNat (IntKind.wrap .i64 (pa + (2 : Int)))) (List.getD xs16 (2 : Nat) (0 : Int))) (Int.toNat (IntKind.wrap .i64 (pa + (3 : Int)))) (List.getD xs16 (3 : Nat) (0 : Int)))) else False) else False) else False) else False) else False) else False) else False) else False) else False))))) ((k3))))))
theorem F19_ok (f49 : Y49) (f50 : Y50) (f18 : Y18) (pa : Int) (t : Int) (off : Int) (xs : List Int) (K : V → Mem → Prop) : cbody Try.prog (T49 f49 (T50 f50 (T18 f18 C0))) (fun _ => none) 1000 (fnOf Try.prog 19) [(.sl 0 (0 : Nat) (none : Option Nat) (none : Option Nat)), (.I .i64 pa), (.I .i64 t), (.I .i64 off)] [⟨[.ints .u8 xs], 5, true, false⟩] K =
    F19 f49 f50 f18 pa t off xs (K (.tup [.nils, (.I .i64 (6 : Int))]) [⟨[.ints .u8 xs], 5, true, false⟩]) (K (.tup [.nils, (.I .i64 (210 : Int))]) [⟨[.ints .u8 xs], 5, true, false⟩]) (K (.tup [.nils, (.I .i64 (201 : Int))]) [⟨[.ints .u8 xs], 5, true, false⟩]) (fun (u0 : List Int) => K (.tup [(.sl 1 (0 : Nat) (none : Option Nat) (none : Option Nat)), (.I .i64 (0 : Int))]) [⟨[.ints .u8 xs], 5, true, false⟩, ⟨[.ints .u8 u0], 5, false, true⟩]) := by kernel_rfl
def G19 : Y19 := F19 G49 G50 G18
def VT19 (f : Y19) (F : Prop) (args : List V) (m : Mem) (K : V → Mem → Prop) : Prop :=
  (seeCons args F fun a1 q2 => (seeV (.sl 0 (0 : Nat) (none : Option Nat) (none : Option Nat)) a1 F (seeCons q2 F fun a3 q4 => (seeI .i64 a3 F fun pa => (seeCons q4 F fun a5 q6 => (seeI .i64 a5 F fun t => (seeCons q6 F fun a7 q8 => (seeI .i64 a7 F fun off => (seeNil q8 F (seeCons m F fun a9 q10 => (seeBlk 5 true false a9 F fun cs11 => (seeCons cs11 F fun a12 q13 => (seeInts .u8 a12 F fun xs => (seeNil q13 F (seeNil q10 F (f pa t off xs (K (.tup [.nils, (.I .i64 (6 : Int))]) [⟨[.ints .u8 xs], 5, true, false⟩]) (K (.tup [.nils, (.I .i64 (210 : Int))]) [⟨[.ints .u8 xs], 5, true, false⟩]) (K (.tup [.nils, (.I .i64 (201 : Int))]) [⟨[.ints .u8 xs], 5, true, false⟩]) (fun (u0 : List Int) => K (.tup [(.sl 1 (0 : Nat) (none : Option Nat) (none : Option Nat)), (.I .i64 (0 : Int))]) [⟨[.ints .u8 xs], 5, true, false⟩, ⟨[.ints .u8 u0], 5, false, true⟩])))))))))))))))))
def T19 (f : Y19) (C : CC) : CC := fun g args m K =>
  match Nat.beq g 19 with
  | true => VT19 f (C g args m K) args m K
  | false => C g args m K
set_option maxRecDepth 100000 in
theorem T19_ok {C : CC} (hC : CallsOk Try.prog C) : CallsOk Try.prog (T19 G19 C) := by
  intro g args m K E w cargs hS ha h
  unfold T19 at h
  split at h
  · rename_i hg
    obtain rfl := Nat.eq_of_beq_eq_true hg
    unfold VT19 at h
    replace h := seeCons_use h
    rcases h with h | ⟨a1, q2, rfl, h⟩
    · exact hC _ _ _ _ _ _ _ hS ha h
    replace h := seeV_use h
    rcases h with h | ⟨rfl, h⟩
    · exact hC _ _ _ _ _ _ _ hS ha h
    replace h := seeCons_use h
    rcases h with h | ⟨a3, q4, rfl, h⟩
    · exact hC _ _ _ _ _ _ _ hS ha h
    replace h := seeI_use h
    rcases h with h | ⟨pa, rfl, h⟩
    · exact hC _ _ _ _ _ _ _ hS ha h
    replace h := seeCons_use h
    rcases h with h | ⟨a5, q6, rfl, h⟩
    · exact hC _ _ _ _ _ _ _ hS ha h
    replace h := seeI_use h
    rcases h with h | ⟨t, rfl, h⟩
    · exact hC _ _ _ _ _ _ _ hS ha h
    replace h := seeCons_use h
    rcases h with h | ⟨a7, q8, rfl, h⟩
    · exact hC _ _ _ _ _ _ _ hS ha h
    replace h := seeI_use h
    rcases h with h | ⟨off, rfl, h⟩
    · exact hC _ _ _ _ _ _ _ hS ha h
    replace h := seeNil_use h
    rcases h with h | ⟨rfl, h⟩
    · exact hC _ _ _ _ _ _ _ hS ha h
    replace h := seeCons_use h
    rcases h with h | ⟨a9, q10, rfl, h⟩
    · exact hC _ _ _ _ _ _ _ hS ha h
    replace h := seeBlk_use h
    rcases h with h | ⟨cs11, rfl, h⟩
    · exact hC _ _ _ _ _ _ _ hS ha h
    replace h := seeCons_use h
    rcases h with h | ⟨a12, q13, rfl, h⟩
    · exact hC _ _ _ _ _ _ _ hS ha h
    replace h := seeInts_use h
    rcases h with h | ⟨xs, rfl, h⟩
    · exact hC _ _ _ _ _ _ _ hS ha h
    replace h := seeNil_use h
    rcases h with h | ⟨rfl, h⟩
    · exact hC _ _ _ _ _ _ _ hS ha h
    replace h := seeNil_use h
    rcases h with h | ⟨rfl, h⟩
    · exact hC _ _ _ _ _ _ _ hS ha h
    exact cbody_use named (T49_ok (T50_ok (T18_ok C0_ok))) at19 (l := 1) rfl (LoopsOk.none _ _) (F19_ok G49 G50 G18 pa t off xs K) hS ha h
  · exact hC _ _ _ _ _ _ _ hS ha h
end Go.Proofs.Ytnndiicpiolddaa.tls
