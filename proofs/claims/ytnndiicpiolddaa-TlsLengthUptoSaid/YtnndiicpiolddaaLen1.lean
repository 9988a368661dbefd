import Derived.Test.YtnndiicpiolddaaProg
import Derived.Test.YtnndiicpiolddaaAbSee
set_option linter.unusedVariables false
namespace Go.Proofs.Ytnndiicpiolddaa.tls
open Go Go.Ab
def noPrims : Prims := fun _ => none
theorem named : Named Try.prog := by
  have h : Try.prog.funcs.toList.all (fun fn => !(fn.name == "runtime.NumGoroutine")) = true := by kernel_rfl
  intro g fn hf
  have := List.all_eq_true.1 h fn (by rw [Array.getElem?_eq_some_iff] at hf; obtain ⟨h1, rfl⟩ := hf; simp)
  simpa using this
def C0 : CC := call Try.prog noPrims 1000
theorem C0_ok : CallsOk Try.prog C0 := call_sound named (fun f g h => by cases h) 1000
theorem at82 : Try.prog.funcs[82]? = some (fnOf Try.prog 82) := by kernel_rfl
abbrev Y82 : Type := Int → Int → List Int → Int → List Int → (Prop) → (List Int → Prop) → Prop
set_option maxHeartbeats 4000000 in
set_option maxRecDepth 100000 in
def F82  (pa : Int) (t : Int) (nm : List Int) (ad : Int) (xs : List Int) (k1 : Prop) (k2 : List Int → Prop) : Prop :=
  (bif (decide (pa < (0 : Int))) then (k1) else (bif (decide (pa > ((((List.length xs) - (0 : Nat)) : Nat) : Int))) then (k1) else (bif (decide ((4 : Int) > (IntKind.wrap .i64 (((((List.length xs) - (0 : Nat)) : Nat) : Int) - pa)))) then (k1) else (bif ((decide ((((List.length xs) - (0 : Nat)) * (1 : Nat)) ≤ (140737488355328 : Nat))) && (decide (((List.length xs) - (0 : Nat)) ≤ (140737488355328 : Nat)))) then (bif ((decide ((0 : Int) ≤ pa)) && (decide ((Int.toNat pa) ≤ ((List.length xs) - (0 : Nat))))) then (bif ((((decide ((0 : Int) ≤ pa)) && (decide ((Int.toNat pa) ≤ ((List.length xs) - (0 : Nat))))) && (((Int.toNat pa) == (Int.toNat pa)) && true)) && ((pa == pa) && true)) then (k2 (((List.take (Int.toNat pa) xs) ++ (List.take (min (4 : Nat) ((List.length xs) - (Int.toNat pa))) ([(0 : Int), (0 : Int), (0 : Int), (0 : Int), (0 : Int), (0 : Int), (0 : Int), (0 : Int)] : List Int))) ++ (List.drop ((Int.toNat pa) + (min (4 : Nat) ((List.length xs) - (Int.toNat pa)))) xs))) else False) else False) else False))))
theorem F82_ok  (pa : Int) (t : Int) (nm : List Int) (ad : Int) (xs : List Int) (K : V → Mem → Prop) : cbody Try.prog C0 (fun _ => none) 1000 (fnOf Try.prog 82) [(.sl 0 (0 : Nat) (none : Option Nat) (none : Option Nat)), (.agg [(.I .i64 pa), (.I .i64 (4 : Int)), (.I .i64 t), (.S nm), (.I .i64 ad)]), (.I .i64 (0 : Int))] [⟨[.ints .u8 xs], 5, false, false⟩] K =
    F82  pa t nm ad xs (K (.tup [.nils, (.I .i64 (11 : Int))]) [⟨[.ints .u8 xs], 5, false, false⟩]) (fun (u0 : List Int) => K (.tup [(.sl 1 (0 : Nat) (none : Option Nat) (none : Option Nat)), (.I .i64 (0 : Int))]) [⟨[.ints .u8 xs], 5, false, false⟩, ⟨[.ints .u8 u0], 5, false, true⟩]) := by kernel_rfl
def G82 : Y82 := F82 
def VT82 (f : Y82) (F : Prop) (args : List V) (m : Mem) (K : V → Mem → Prop) : Prop :=
  (seeCons args F fun a1 q2 => (seeV (.sl 0 (0 : Nat) (none : Option Nat) (none : Option Nat)) a1 F (seeCons q2 F fun a3 q4 => (seeAgg a3 F fun vs5 => (seeCons vs5 F fun a6 q7 => (seeI .i64 a6 F fun pa => (seeCons q7 F fun a8 q9 => (seeV (.I .i64 (4 : Int)) a8 F (seeCons q9 F fun a10 q11 => (seeI .i64 a10 F fun t => (seeCons q11 F fun a12 q13 => (seeS a12 F fun nm => (seeCons q13 F fun a14 q15 => (seeI .i64 a14 F fun ad => (seeNil q15 F (seeCons q4 F fun a16 q17 => (seeV (.I .i64 (0 : Int)) a16 F (seeNil q17 F (seeCons m F fun a18 q19 => (seeBlk 5 false false a18 F fun cs20 => (seeCons cs20 F fun a21 q22 => (seeInts .u8 a21 F fun xs => (seeNil q22 F (seeNil q19 F (f pa t nm ad xs (K (.tup [.nils, (.I .i64 (11 : Int))]) [⟨[.ints .u8 xs], 5, false, false⟩]) (fun (u0 : List Int) => K (.tup [(.sl 1 (0 : Nat) (none : Option Nat) (none : Option Nat)), (.I .i64 (0 : Int))]) [⟨[.ints .u8 xs], 5, false, false⟩, ⟨[.ints .u8 u0], 5, false, true⟩]))))))))))))))))))))))))))
def T82 (f : Y82) (C : CC) : CC := fun g args m K =>
  match Nat.beq g 82 with
  | true => VT82 f (C g args m K) args m K
  | false => C g args m K
set_option maxRecDepth 100000 in
theorem T82_ok {C : CC} (hC : CallsOk Try.prog C) : CallsOk Try.prog (T82 G82 C) := by
  intro g args m K E w cargs hS ha h
  unfold T82 at h
  split at h
  · rename_i hg
    obtain rfl := Nat.eq_of_beq_eq_true hg
    unfold VT82 at h
    replace h := seeCons_use h
    rcases h with h | ⟨a1, q2, rfl, h⟩
    · exact hC _ _ _ _ _ _ _ hS ha h
    replace h := seeV_use h
    rcases h with h | ⟨rfl, h⟩
    · exact hC _ _ _ _ _ _ _ hS ha h
    replace h := seeCons_use h
    rcases h with h | ⟨a3, q4, rfl, h⟩
    · exact hC _ _ _ _ _ _ _ hS ha h
    replace h := seeAgg_use h
    rcases h with h | ⟨vs5, rfl, h⟩
    · exact hC _ _ _ _ _ _ _ hS ha h
    replace h := seeCons_use h
    rcases h with h | ⟨a6, q7, rfl, h⟩
    · exact hC _ _ _ _ _ _ _ hS ha h
    replace h := seeI_use h
    rcases h with h | ⟨pa, rfl, h⟩
    · exact hC _ _ _ _ _ _ _ hS ha h
    replace h := seeCons_use h
    rcases h with h | ⟨a8, q9, rfl, h⟩
    · exact hC _ _ _ _ _ _ _ hS ha h
    replace h := seeV_use h
    rcases h with h | ⟨rfl, h⟩
    · exact hC _ _ _ _ _ _ _ hS ha h
    replace h := seeCons_use h
    rcases h with h | ⟨a10, q11, rfl, h⟩
    · exact hC _ _ _ _ _ _ _ hS ha h
    replace h := seeI_use h
    rcases h with h | ⟨t, rfl, h⟩
    · exact hC _ _ _ _ _ _ _ hS ha h
    replace h := seeCons_use h
    rcases h with h | ⟨a12, q13, rfl, h⟩
    · exact hC _ _ _ _ _ _ _ hS ha h
    replace h := seeS_use h
    rcases h with h | ⟨nm, rfl, h⟩
    · exact hC _ _ _ _ _ _ _ hS ha h
    replace h := seeCons_use h
    rcases h with h | ⟨a14, q15, rfl, h⟩
    · exact hC _ _ _ _ _ _ _ hS ha h
    replace h := seeI_use h
    rcases h with h | ⟨ad, rfl, h⟩
    · exact hC _ _ _ _ _ _ _ hS ha h
    replace h := seeNil_use h
    rcases h with h | ⟨rfl, h⟩
    · exact hC _ _ _ _ _ _ _ hS ha h
    replace h := seeCons_use h
    rcases h with h | ⟨a16, q17, rfl, h⟩
    · exact hC _ _ _ _ _ _ _ hS ha h
    replace h := seeV_use h
    rcases h with h | ⟨rfl, h⟩
    · exact hC _ _ _ _ _ _ _ hS ha h
    replace h := seeNil_use h
    rcases h with h | ⟨rfl, h⟩
    · exact hC _ _ _ _ _ _ _ hS ha h
    replace h := seeCons_use h
    rcases h with h | ⟨a18, q19, rfl, h⟩
    · exact hC _ _ _ _ _ _ _ hS ha h
    replace h := seeBlk_use h
    rcases h with h | ⟨cs20, rfl, h⟩
    · exact hC _ _ _ _ _ _ _ hS ha h
    replace h := seeCons_use h
    rcases h with h | ⟨a21, q22, rfl, h⟩
    · exact hC _ _ _ _ _ _ _ hS ha h
    replace h := seeInts_use h
    rcases h with h | ⟨xs, rfl, h⟩
    · exact hC _ _ _ _ _ _ _ hS ha h
    replace h := seeNil_use h
    rcases h with h | ⟨rfl, h⟩
    · exact hC _ _ _ _ _ _ _ hS ha h
    replace h := seeNil_use h
    rcases h with h | ⟨rfl, h⟩
    · exact hC _ _ _ _ _ _ _ hS ha h
    exact cbody_use named C0_ok at82 (l := 1) rfl (LoopsOk.none _ _) (F82_ok  pa t nm ad xs K) hS ha h
  · exact hC _ _ _ _ _ _ _ hS ha h
theorem at46 : Try.prog.funcs[46]? = some (fnOf Try.prog 46) := by kernel_rfl
abbrev Y46 : Type := Int → (Bool → Prop) → (Prop) → Prop
set_option maxHeartbeats 4000000 in
set_option maxRecDepth 100000 in
def F46  (n : Int) (k1 : Bool → Prop) (k2 : Prop) : Prop :=
  (bif (decide (n ≥ (-2147483648 : Int))) then (k1 (decide (n < (2147483648 : Int)))) else (k2))
theorem F46_ok  (n : Int) (K : V → Mem → Prop) : cbody Try.prog C0 (fun _ => none) 1000 (fnOf Try.prog 46) [(.I .i64 n), (.I .i64 (32 : Int)), (.B true)] [] K =
    F46  n (fun (u0 : Bool) => K (.B u0) []) (K (.B false) []) := by kernel_rfl
def G46 : Y46 := F46 
def VT46 (f : Y46) (F : Prop) (args : List V) (m : Mem) (K : V → Mem → Prop) : Prop :=
  (seeCons args F fun a1 q2 => (seeI .i64 a1 F fun n => (seeCons q2 F fun a3 q4 => (seeV (.I .i64 (32 : Int)) a3 F (seeCons q4 F fun a5 q6 => (seeV (.B true) a5 F (seeNil q6 F (seeNil m F (f n (fun (u0 : Bool) => K (.B u0) []) (K (.B false) []))))))))))
def T46 (f : Y46) (C : CC) : CC := fun g args m K =>
  match Nat.beq g 46 with
  | true => VT46 f (C g args m K) args m K
  | false => C g args m K
set_option maxRecDepth 100000 in
theorem T46_ok {C : CC} (hC : CallsOk Try.prog C) : CallsOk Try.prog (T46 G46 C) := by
  intro g args m K E w cargs hS ha h
  unfold T46 at h
  split at h
  · rename_i hg
    obtain rfl := Nat.eq_of_beq_eq_true hg
    unfold VT46 at h
    replace h := seeCons_use h
    rcases h with h | ⟨a1, q2, rfl, h⟩
    · exact hC _ _ _ _ _ _ _ hS ha h
    replace h := seeI_use h
    rcases h with h | ⟨n, rfl, h⟩
    · exact hC _ _ _ _ _ _ _ hS ha h
    replace h := seeCons_use h
    rcases h with h | ⟨a3, q4, rfl, h⟩
    · exact hC _ _ _ _ _ _ _ hS ha h
    replace h := seeV_use h
    rcases h with h | ⟨rfl, h⟩
    · exact hC _ _ _ _ _ _ _ hS ha h
    replace h := seeCons_use h
    rcases h with h | ⟨a5, q6, rfl, h⟩
    · exact hC _ _ _ _ _ _ _ hS ha h
    replace h := seeV_use h
    rcases h with h | ⟨rfl, h⟩
    · exact hC _ _ _ _ _ _ _ hS ha h
    replace h := seeNil_use h
    rcases h with h | ⟨rfl, h⟩
    · exact hC _ _ _ _ _ _ _ hS ha h
    replace h := seeNil_use h
    rcases h with h | ⟨rfl, h⟩
    · exact hC _ _ _ _ _ _ _ hS ha h
    exact cbody_use named C0_ok at46 (l := 0) rfl (LoopsOk.none _ _) (F46_ok  n K) hS ha h
  · exact hC _ _ _ _ _ _ _ hS ha h
theorem at47 : Try.prog.funcs[47]? = some (fnOf Try.prog 47) := by kernel_rfl
abbrev Y47 : Type := Int → (Prop) → (List Int → Prop) → Prop
set_option maxHeartbeats 4000000 in
set_option maxRecDepth 100000 in
def F47  (n : Int) (k1 : Prop) (k2 : List Int → Prop) : Prop :=
  (bif (decide (n < (-2147483648 : Int))) then (k1) else (bif (decide (n ≥ (4294967296 : Int))) then (k1) else (k2 ([(IntKind.wrap .u8 (Int.fdiv (IntKind.wrap .u64 n) (2 ^ 0))), (IntKind.wrap .u8 (Int.fdiv (IntKind.wrap .u64 n) (2 ^ 8))), (IntKind.wrap .u8 (Int.fdiv (IntKind.wrap .u64 n) (2 ^ 16))), (IntKind.wrap .u8 (Int.fdiv (IntKind.wrap .u64 n) (2 ^ 24)))] : List Int))))
theorem F47_ok  (n : Int) (K : V → Mem → Prop) : cbody Try.prog C0 (fun _ => none) 1000 (fnOf Try.prog 47) [(.I .i64 n)] [] K =
    F47  n (K .nils []) (fun (u0 : List Int) => K (.sl 0 (0 : Nat) (none : Option Nat) (none : Option Nat)) [⟨[.ints .u8 u0], 5, false, true⟩]) := by kernel_rfl
def G47 : Y47 := F47 
def VT47 (f : Y47) (F : Prop) (args : List V) (m : Mem) (K : V → Mem → Prop) : Prop :=
  (seeCons args F fun a1 q2 => (seeI .i64 a1 F fun n => (seeNil q2 F (seeNil m F (f n (K .nils []) (fun (u0 : List Int) => K (.sl 0 (0 : Nat) (none : Option Nat) (none : Option Nat)) [⟨[.ints .u8 u0], 5, false, true⟩]))))))
def T47 (f : Y47) (C : CC) : CC := fun g args m K =>
  match Nat.beq g 47 with
  | true => VT47 f (C g args m K) args m K
  | false => C g args m K
set_option maxRecDepth 100000 in
theorem T47_ok {C : CC} (hC : CallsOk Try.prog C) : CallsOk Try.prog (T47 G47 C) := by
  intro g args m K E w cargs hS ha h
  unfold T47 at h
  split at h
  · rename_i hg
    obtain rfl := Nat.eq_of_beq_eq_true hg
    unfold VT47 at h
    replace h := seeCons_use h
    rcases h with h | ⟨a1, q2, rfl, h⟩
    · exact hC _ _ _ _ _ _ _ hS ha h
    replace h := seeI_use h
    rcases h with h | ⟨n, rfl, h⟩
    · exact hC _ _ _ _ _ _ _ hS ha h
    replace h := seeNil_use h
    rcases h with h | ⟨rfl, h⟩
    · exact hC _ _ _ _ _ _ _ hS ha h
    replace h := seeNil_use h
    rcases h with h | ⟨rfl, h⟩
    · exact hC _ _ _ _ _ _ _ hS ha h
    exact cbody_use named C0_ok at47 (l := 0) rfl (LoopsOk.none _ _) (F47_ok  n K) hS ha h
  · exact hC _ _ _ _ _ _ _ hS ha h
theorem at70 : Try.prog.funcs[70]? = some (fnOf Try.prog 70) := by kernel_rfl
abbrev Y70_1 : Type := Nat → Nat → List Int → Int → Int → List Int → Int → (List Int → Prop) → Prop
set_option maxHeartbeats 4000000 in
set_option maxRecDepth 100000 in
def F70_1 (f82 : Y82) (r : Nat) (n : Nat) (xs : List Int) (a0 : Int) (t0 : Int) (s0 : List Int) (d0 : Int) (k1 : List Int → Prop) : Prop :=
  (bif ((decide ((n * (1 : Nat)) ≤ (140737488355328 : Nat))) && (decide (n ≤ (140737488355328 : Nat)))) then (f82 a0 t0 s0 d0 (List.take n (List.drop r xs)) ((k1 (List.take n (List.drop r xs)))) (fun (xs1 : List Int) => (k1 xs1))) else False)
theorem F70_1_ok (f82 : Y82) (r : Nat) (n : Nat) (xs : List Int) (a0 : Int) (t0 : Int) (s0 : List Int) (d0 : Int) (K : V → Mem → Prop) : cbody Try.prog (T82 f82 C0) (fun _ => none) 1000 (fnOf Try.prog 70) [(.sl 0 r (some n) (none : Option Nat)), (.sl 1 (0 : Nat) (none : Option Nat) (none : Option Nat))] [⟨[.ints .u8 xs], 5, false, false⟩, ⟨[.ints .i64 ([a0] : List Int), .ints .i64 ([(4 : Int)] : List Int), .ints .i64 ([t0] : List Int), .strs ([s0] : List (List Int)), .ints .i64 ([d0] : List Int)], 32, false, false⟩] K =
    F70_1 f82 r n xs a0 t0 s0 d0 (fun (u0 : List Int) => K (.S u0) [⟨[.ints .u8 xs], 5, false, false⟩, ⟨[.ints .i64 ([a0] : List Int), .ints .i64 ([(4 : Int)] : List Int), .ints .i64 ([t0] : List Int), .strs ([s0] : List (List Int)), .ints .i64 ([d0] : List Int)], 32, false, false⟩]) := by kernel_rfl
def G70_1 : Y70_1 := F70_1 G82
def VT70_1 (f : Y70_1) (F : Prop) (args : List V) (m : Mem) (K : V → Mem → Prop) : Prop :=
  (seeCons args F fun a1 q2 => (seeSl 0 a1 F fun r l3 c4 => (seeO l3 F fun n => (seeNo c4 F (seeCons q2 F fun a5 q6 => (seeV (.sl 1 (0 : Nat) (none : Option Nat) (none : Option Nat)) a5 F (seeNil q6 F (seeCons m F fun a7 q8 => (seeBlk 5 false false a7 F fun cs9 => (seeCons cs9 F fun a10 q11 => (seeInts .u8 a10 F fun xs => (seeNil q11 F (seeCons q8 F fun a12 q13 => (seeBlk 32 false false a12 F fun cs14 => (seeCons cs14 F fun a15 q16 => (seeInts .i64 a15 F fun xs17 => (seeCons xs17 F fun a18 q19 => (seeId a18 fun a0 => (seeNil q19 F (seeCons q16 F fun a20 q21 => (seeInts .i64 a20 F fun xs22 => (seeX ([(4 : Int)] : List Int) xs22 F (seeCons q21 F fun a23 q24 => (seeInts .i64 a23 F fun xs25 => (seeCons xs25 F fun a26 q27 => (seeId a26 fun t0 => (seeNil q27 F (seeCons q24 F fun a28 q29 => (seeStrs a28 F fun xs30 => (seeCons xs30 F fun a31 q32 => (seeId a31 fun s0 => (seeNil q32 F (seeCons q29 F fun a33 q34 => (seeInts .i64 a33 F fun xs35 => (seeCons xs35 F fun a36 q37 => (seeId a36 fun d0 => (seeNil q37 F (seeNil q34 F (seeNil q13 F (f r n xs a0 t0 s0 d0 (fun (u0 : List Int) => K (.S u0) [⟨[.ints .u8 xs], 5, false, false⟩, ⟨[.ints .i64 ([a0] : List Int), .ints .i64 ([(4 : Int)] : List Int), .ints .i64 ([t0] : List Int), .strs ([s0] : List (List Int)), .ints .i64 ([d0] : List Int)], 32, false, false⟩])))))))))))))))))))))))))))))))))))))))))
def T70_1 (f : Y70_1) (C : CC) : CC := fun g args m K =>
  match Nat.beq g 70 with
  | true => VT70_1 f (C g args m K) args m K
  | false => C g args m K
set_option maxRecDepth 100000 in
theorem T70_1_ok {C : CC} (hC : CallsOk Try.prog C) : CallsOk Try.prog (T70_1 G70_1 C) := by
  intro g args m K E w cargs hS ha h
  unfold T70_1 at h
  split at h
  · rename_i hg
    obtain rfl := Nat.eq_of_beq_eq_true hg
    unfold VT70_1 at h
    replace h := seeCons_use h
    rcases h with h | ⟨a1, q2, rfl, h⟩
    · exact hC _ _ _ _ _ _ _ hS ha h
    replace h := seeSl_use h
    rcases h with h | ⟨r, l3, c4, rfl, h⟩
    · exact hC _ _ _ _ _ _ _ hS ha h
    replace h := seeO_use h
    rcases h with h | ⟨n, rfl, h⟩
    · exact hC _ _ _ _ _ _ _ hS ha h
    replace h := seeNo_use h
    rcases h with h | ⟨rfl, h⟩
    · exact hC _ _ _ _ _ _ _ hS ha h
    replace h := seeCons_use h
    rcases h with h | ⟨a5, q6, rfl, h⟩
    · exact hC _ _ _ _ _ _ _ hS ha h
    replace h := seeV_use h
    rcases h with h | ⟨rfl, h⟩
    · exact hC _ _ _ _ _ _ _ hS ha h
    replace h := seeNil_use h
    rcases h with h | ⟨rfl, h⟩
    · exact hC _ _ _ _ _ _ _ hS ha h
    replace h := seeCons_use h
    rcases h with h | ⟨a7, q8, rfl, h⟩
    · exact hC _ _ _ _ _ _ _ hS ha h
    replace h := seeBlk_use h
    rcases h with h | ⟨cs9, rfl, h⟩
    · exact hC _ _ _ _ _ _ _ hS ha h
    replace h := seeCons_use h
    rcases h with h | ⟨a10, q11, rfl, h⟩
    · exact hC _ _ _ _ _ _ _ hS ha h
    replace h := seeInts_use h
    rcases h with h | ⟨xs, rfl, h⟩
    · exact hC _ _ _ _ _ _ _ hS ha h
    replace h := seeNil_use h
    rcases h with h | ⟨rfl, h⟩
    · exact hC _ _ _ _ _ _ _ hS ha h
    replace h := seeCons_use h
    rcases h with h | ⟨a12, q13, rfl, h⟩
    · exact hC _ _ _ _ _ _ _ hS ha h
    replace h := seeBlk_use h
    rcases h with h | ⟨cs14, rfl, h⟩
    · exact hC _ _ _ _ _ _ _ hS ha h
    replace h := seeCons_use h
    rcases h with h | ⟨a15, q16, rfl, h⟩
    · exact hC _ _ _ _ _ _ _ hS ha h
    replace h := seeInts_use h
    rcases h with h | ⟨xs17, rfl, h⟩
    · exact hC _ _ _ _ _ _ _ hS ha h
    replace h := seeCons_use h
    rcases h with h | ⟨a18, q19, rfl, h⟩
    · exact hC _ _ _ _ _ _ _ hS ha h
    replace h := seeId_use h
    obtain ⟨a0, rfl, h⟩ := h
    replace h := seeNil_use h
    rcases h with h | ⟨rfl, h⟩
    · exact hC _ _ _ _ _ _ _ hS ha h
    replace h := seeCons_use h
    rcases h with h | ⟨a20, q21, rfl, h⟩
    · exact hC _ _ _ _ _ _ _ hS ha h
    replace h := seeInts_use h
    rcases h with h | ⟨xs22, rfl, h⟩
    · exact hC _ _ _ _ _ _ _ hS ha h
    replace h := seeX_use h
    rcases h with h | ⟨rfl, h⟩
    · exact hC _ _ _ _ _ _ _ hS ha h
    replace h := seeCons_use h
    rcases h with h | ⟨a23, q24, rfl, h⟩
    · exact hC _ _ _ _ _ _ _ hS ha h
    replace h := seeInts_use h
    rcases h with h | ⟨xs25, rfl, h⟩
    · exact hC _ _ _ _ _ _ _ hS ha h
    replace h := seeCons_use h
    rcases h with h | ⟨a26, q27, rfl, h⟩
    · exact hC _ _ _ _ _ _ _ hS ha h
    replace h := seeId_use h
    obtain ⟨t0, rfl, h⟩ := h
    replace h := seeNil_use h
    rcases h with h | ⟨rfl, h⟩
    · exact hC _ _ _ _ _ _ _ hS ha h
    replace h := seeCons_use h
    rcases h with h | ⟨a28, q29, rfl, h⟩
    · exact hC _ _ _ _ _ _ _ hS ha h
    replace h := seeStrs_use h
    rcases h with h | ⟨xs30, rfl, h⟩
    · exact hC _ _ _ _ _ _ _ hS ha h
    replace h := seeCons_use h
    rcases h with h | ⟨a31, q32, rfl, h⟩
    · exact hC _ _ _ _ _ _ _ hS ha h
    replace h := seeId_use h
    obtain ⟨s0, rfl, h⟩ := h
    replace h := seeNil_use h
    rcases h with h | ⟨rfl, h⟩
    · exact hC _ _ _ _ _ _ _ hS ha h
    replace h := seeCons_use h
    rcases h with h | ⟨a33, q34, rfl, h⟩
    · exact hC _ _ _ _ _ _ _ hS ha h
    replace h := seeInts_use h
    rcases h with h | ⟨xs35, rfl, h⟩
    · exact hC _ _ _ _ _ _ _ hS ha h
    replace h := seeCons_use h
    rcases h with h | ⟨a36, q37, rfl, h⟩
    · exact hC _ _ _ _ _ _ _ hS ha h
    replace h := seeId_use h
    obtain ⟨d0, rfl, h⟩ := h
    replace h := seeNil_use h
    rcases h with h | ⟨rfl, h⟩
    · exact hC _ _ _ _ _ _ _ hS ha h
    replace h := seeNil_use h
    rcases h with h | ⟨rfl, h⟩
    · exact hC _ _ _ _ _ _ _ hS ha h
    replace h := seeNil_use h
    rcases h with h | ⟨rfl, h⟩
    · exact hC _ _ _ _ _ _ _ hS ha h
    exact cbody_use named (T82_ok C0_ok) at70 (l := 2) rfl (LoopsOk.none _ _) (F70_1_ok G82 r n xs a0 t0 s0 d0 K) hS ha h
  · exact hC _ _ _ _ _ _ _ hS ha h
abbrev Y70_2 : Type := Nat → Nat → List Int → Int → Int → Int → Int → List Int → List Int → Int → Int → (List Int → Prop) → Prop
set_option maxHeartbeats 4000000 in
set_option maxRecDepth 100000 in
def F70_2 (f82 : Y82) (r : Nat) (n : Nat) (xs : List Int) (a0 : Int) (a1 : Int) (t0 : Int) (t1 : Int) (s0 : List Int) (s1 : List Int) (d0 : Int) (d1 : Int) (k1 : List Int → Prop) : Prop :=
  (bif ((decide ((n * (1 : Nat)) ≤ (140737488355328 : Nat))) && (decide (n ≤ (140737488355328 : Nat)))) then (f82 a0 t0 s0 d0 (List.take n (List.drop r xs)) ((f82 a1 t1 s1 d1 (List.take n (List.drop r xs)) ((k1 (List.take n (List.drop r xs)))) (fun (xs1 : List Int) => (k1 xs1)))) (fun (xs2 : List Int) => (f82 a1 t1 s1 d1 xs2 ((k1 xs2)) (fun (xs3 : List Int) => (k1 xs3))))) else False)
theorem F70_2_ok (f82 : Y82) (r : Nat) (n : Nat) (xs : List Int) (a0 : Int) (a1 : Int) (t0 : Int) (t1 : Int) (s0 : List Int) (s1 : List Int) (d0 : Int) (d1 : Int) (K : V → Mem → Prop) : cbody Try.prog (T82 f82 C0) (fun _ => none) 1000 (fnOf Try.prog 70) [(.sl 0 r (some n) (none : Option Nat)), (.sl 1 (0 : Nat) (none : Option Nat) (none : Option Nat))] [⟨[.ints .u8 xs], 5, false, false⟩, ⟨[.ints .i64 ([a0, a1] : List Int), .ints .i64 ([(4 : Int), (4 : Int)] : List Int), .ints .i64 ([t0, t1] : List Int), .strs ([s0, s1] : List (List Int)), .ints .i64 ([d0, d1] : List Int)], 32, false, false⟩] K =
    F70_2 f82 r n xs a0 a1 t0 t1 s0 s1 d0 d1 (fun (u0 : List Int) => K (.S u0) [⟨[.ints .u8 xs], 5, false, false⟩, ⟨[.ints .i64 ([a0, a1] : List Int), .ints .i64 ([(4 : Int), (4 : Int)] : List Int), .ints .i64 ([t0, t1] : List Int), .strs ([s0, s1] : List (List Int)), .ints .i64 ([d0, d1] : List Int)], 32, false, false⟩]) := by kernel_rfl
def G70_2 : Y70_2 := F70_2 G82
def VT70_2 (f : Y70_2) (F : Prop) (args : List V) (m : Mem) (K : V → Mem → Prop) : Prop :=
  (seeCons args F fun a1 q2 => (seeSl 0 a1 F fun r l3 c4 => (seeO l3 F fun n => (seeNo c4 F (seeCons q2 F fun a5 q6 => (seeV (.sl 1 (0 : Nat) (none : Option Nat) (none : Option Nat)) a5 F (seeNil q6 F (seeCons m F fun a7 q8 => (seeBlk 5 false false a7 F fun cs9 => (seeCons cs9 F fun a10 q11 => (seeInts .u8 a10 F fun xs => (seeNil q11 F (seeCons q8 F fun a12 q13 => (seeBlk 32 false false a12 F fun cs14 => (seeCons cs14 F fun a15 q16 => (seeInts .i64 a15 F fun xs17 => (seeCons xs17 F fun a18 q19 => (seeId a18 fun a0 => (seeCons q19 F fun a20 q21 => (seeId a20 fun a1 => (seeNil q21 F (seeCons q16 F fun a22 q23 => (seeInts .i64 a22 F fun xs24 => (seeX ([(4 : Int), (4 : Int)] : List Int) xs24 F (seeCons q23 F fun a25 q26 => (seeInts .i64 a25 F fun xs27 => (seeCons xs27 F fun a28 q29 => (seeId a28 fun t0 => (seeCons q29 F fun a30 q31 => (seeId a30 fun t1 => (seeNil q31 F (seeCons q26 F fun a32 q33 => (seeStrs a32 F fun xs34 => (seeCons xs34 F fun a35 q36 => (seeId a35 fun s0 => (seeCons q36 F fun a37 q38 => (seeId a37 fun s1 => (seeNil q38 F (seeCons q33 F fun a39 q40 => (seeInts .i64 a39 F fun xs41 => (seeCons xs41 F fun a42 q43 => (seeId a42 fun d0 => (seeCons q43 F fun a44 q45 => (seeId a44 fun d1 => (seeNil q45 F (seeNil q40 F (seeNil q13 F (f r n xs a0 a1 t0 t1 s0 s1 d0 d1 (fun (u0 : List Int) => K (.S u0) [⟨[.ints .u8 xs], 5, false, false⟩, ⟨[.ints .i64 ([a0, a1] : List Int), .ints .i64 ([(4 : Int), (4 : Int)] : List Int), .ints .i64 ([t0, t1] : List Int), .strs ([s0, s1] : List (List Int)), .ints .i64 ([d0, d1] : List Int)], 32, false, false⟩])))))))))))))))))))))))))))))))))))))))))))))))))
def T70_2 (f : Y70_2) (C : CC) : CC := fun g args m K =>
  match Nat.beq g 70 with
  | true => VT70_2 f (C g args m K) args m K
  | false => C g args m K
set_option maxRecDepth 100000 in
theorem T70_2_ok {C : CC} (hC : CallsOk Try.prog C) : CallsOk Try.prog (T70_2 G70_2 C) := by
  intro g args m K E w cargs hS ha h
  unfold T70_2 at h
  split at h
  · rename_i hg
    obtain rfl := Nat.eq_of_beq_eq_true hg
    unfold VT70_2 at h
    replace h := seeCons_use h
    rcases h with h | ⟨a1, q2, rfl, h⟩
    · exact hC _ _ _ _ _ _ _ hS ha h
    replace h := seeSl_use h
    rcases h with h | ⟨r, l3, c4, rfl, h⟩
    · exact hC _ _ _ _ _ _ _ hS ha h
    replace h := seeO_use h
    rcases h with h | ⟨n, rfl, h⟩
    · exact hC _ _ _ _ _ _ _ hS ha h
    replace h := seeNo_use h
    rcases h with h | ⟨rfl, h⟩
    · exact hC _ _ _ _ _ _ _ hS ha h
    replace h := seeCons_use h
    rcases h with h | ⟨a5, q6, rfl, h⟩
    · exact hC _ _ _ _ _ _ _ hS ha h
    replace h := seeV_use h
    rcases h with h | ⟨rfl, h⟩
    · exact hC _ _ _ _ _ _ _ hS ha h
    replace h := seeNil_use h
    rcases h with h | ⟨rfl, h⟩
    · exact hC _ _ _ _ _ _ _ hS ha h
    replace h := seeCons_use h
    rcases h with h | ⟨a7, q8, rfl, h⟩
    · exact hC _ _ _ _ _ _ _ hS ha h
    replace h := seeBlk_use h
    rcases h with h | ⟨cs9, rfl, h⟩
    · exact hC _ _ _ _ _ _ _ hS ha h
    replace h := seeCons_use h
    rcases h with h | ⟨a10, q11, rfl, h⟩
    · exact hC _ _ _ _ _ _ _ hS ha h
    replace h := seeInts_use h
    rcases h with h | ⟨xs, rfl, h⟩
    · exact hC _ _ _ _ _ _ _ hS ha h
    replace h := seeNil_use h
    rcases h with h | ⟨rfl, h⟩
    · exact hC _ _ _ _ _ _ _ hS ha h
    replace h := seeCons_use h
    rcases h with h | ⟨a12, q13, rfl, h⟩
    · exact hC _ _ _ _ _ _ _ hS ha h
    replace h := seeBlk_use h
    rcases h with h | ⟨cs14, rfl, h⟩
    · exact hC _ _ _ _ _ _ _ hS ha h
    replace h := seeCons_use h
    rcases h with h | ⟨a15, q16, rfl, h⟩
    · exact hC _ _ _ _ _ _ _ hS ha h
    replace h := seeInts_use h
    rcases h with h | ⟨xs17, rfl, h⟩
    · exact hC _ _ _ _ _ _ _ hS ha h
    replace h := seeCons_use h
    rcases h with h | ⟨a18, q19, rfl, h⟩
    · exact hC _ _ _ _ _ _ _ hS ha h
    replace h := seeId_use h
    obtain ⟨a0, rfl, h⟩ := h
    replace h := seeCons_use h
    rcases h with h | ⟨a20, q21, rfl, h⟩
    · exact hC _ _ _ _ _ _ _ hS ha h
    replace h := seeId_use h
    obtain ⟨a1, rfl, h⟩ := h
    replace h := seeNil_use h
    rcases h with h | ⟨rfl, h⟩
    · exact hC _ _ _ _ _ _ _ hS ha h
    replace h := seeCons_use h
    rcases h with h | ⟨a22, q23, rfl, h⟩
    · exact hC _ _ _ _ _ _ _ hS ha h
    replace h := seeInts_use h
    rcases h with h | ⟨xs24, rfl, h⟩
    · exact hC _ _ _ _ _ _ _ hS ha h
    replace h := seeX_use h
    rcases h with h | ⟨rfl, h⟩
    · exact hC _ _ _ _ _ _ _ hS ha h
    replace h := seeCons_use h
    rcases h with h | ⟨a25, q26, rfl, h⟩
    · exact hC _ _ _ _ _ _ _ hS ha h
    replace h := seeInts_use h
    rcases h with h | ⟨xs27, rfl, h⟩
    · exact hC _ _ _ _ _ _ _ hS ha h
    replace h := seeCons_use h
    rcases h with h | ⟨a28, q29, rfl, h⟩
    · exact hC _ _ _ _ _ _ _ hS ha h
    replace h := seeId_use h
    obtain ⟨t0, rfl, h⟩ := h
    replace h := seeCons_use h
    rcases h with h | ⟨a30, q31, rfl, h⟩
    · exact hC _ _ _ _ _ _ _ hS ha h
    replace h := seeId_use h
    obtain ⟨t1, rfl, h⟩ := h
    replace h := seeNil_use h
    rcases h with h | ⟨rfl, h⟩
    · exact hC _ _ _ _ _ _ _ hS ha h
    replace h := seeCons_use h
    rcases h with h | ⟨a32, q33, rfl, h⟩
    · exact hC _ _ _ _ _ _ _ hS ha h
    replace h := seeStrs_use h
    rcases h with h | ⟨xs34, rfl, h⟩
    · exact hC _ _ _ _ _ _ _ hS ha h
    replace h := seeCons_use h
    rcases h with h | ⟨a35, q36, rfl, h⟩
    · exact hC _ _ _ _ _ _ _ hS ha h
    replace h := seeId_use h
    obtain ⟨s0, rfl, h⟩ := h
    replace h := seeCons_use h
    rcases h with h | ⟨a37, q38, rfl, h⟩
    · exact hC _ _ _ _ _ _ _ hS ha h
    replace h := seeId_use h
    obtain ⟨s1, rfl, h⟩ := h
    replace h := seeNil_use h
    rcases h with h | ⟨rfl, h⟩
    · exact hC _ _ _ _ _ _ _ hS ha h
    replace h := seeCons_use h
    rcases h with h | ⟨a39, q40, rfl, h⟩
    · exact hC _ _ _ _ _ _ _ hS ha h
    replace h := seeInts_use h
    rcases h with h | ⟨xs41, rfl, h⟩
    · exact hC _ _ _ _ _ _ _ hS ha h
    replace h := seeCons_use h
    rcases h with h | ⟨a42, q43, rfl, h⟩
    · exact hC _ _ _ _ _ _ _ hS ha h
    replace h := seeId_use h
    obtain ⟨d0, rfl, h⟩ := h
    replace h := seeCons_use h
    rcases h with h | ⟨a44, q45, rfl, h⟩
    · exact hC _ _ _ _ _ _ _ hS ha h
    replace h := seeId_use h
    obtain ⟨d1, rfl, h⟩ := h
    replace h := seeNil_use h
    rcases h with h | ⟨rfl, h⟩
    · exact hC _ _ _ _ _ _ _ hS ha h
    replace h := seeNil_use h
    rcases h with h | ⟨rfl, h⟩
    · exact hC _ _ _ _ _ _ _ hS ha h
    replace h := seeNil_use h
    rcases h with h | ⟨rfl, h⟩
    · exact hC _ _ _ _ _ _ _ hS ha h
    exact cbody_use named (T82_ok C0_ok) at70 (l := 2) rfl (LoopsOk.none _ _) (F70_2_ok G82 r n xs a0 a1 t0 t1 s0 s1 d0 d1 K) hS ha h
  · exact hC _ _ _ _ _ _ _ hS ha h
theorem at14 : Try.prog.funcs[14]? = some (fnOf Try.prog 14) := by kernel_rfl
abbrev Y14 : Type := (Prop) → Prop
set_option maxHeartbeats 4000000 in
set_option maxRecDepth 100000 in
def F14   (k1 : Prop) : Prop :=
  (k1)
theorem F14_ok   (K : V → Mem → Prop) : cbody Try.prog C0 (fun _ => none) 1000 (fnOf Try.prog 14) [] [] K =
    F14   (K (.B true) []) := by kernel_rfl
def G14 : Y14 := F14 
def VT14 (f : Y14) (F : Prop) (args : List V) (m : Mem) (K : V → Mem → Prop) : Prop :=
  (seeNil args F (seeNil m F (f  (K (.B true) []))))
def T14 (f : Y14) (C : CC) : CC := fun g args m K =>
  match Nat.beq g 14 with
  | true => VT14 f (C g args m K) args m K
  | false => C g args m K
set_option maxRecDepth 100000 in
theorem T14_ok {C : CC} (hC : CallsOk Try.prog C) : CallsOk Try.prog (T14 G14 C) := by
  intro g args m K E w cargs hS ha h
  unfold T14 at h
  split at h
  · rename_i hg
    obtain rfl := Nat.eq_of_beq_eq_true hg
    unfold VT14 at h
    replace h := seeNil_use h
    rcases h with h | ⟨rfl, h⟩
    · exact hC _ _ _ _ _ _ _ hS ha h
    replace h := seeNil_use h
    rcases h with h | ⟨rfl, h⟩
    · exact hC _ _ _ _ _ _ _ hS ha h
    exact cbody_use named C0_ok at14 (l := 0) rfl (LoopsOk.none _ _) (F14_ok   K) hS ha h
  · exact hC _ _ _ _ _ _ _ hS ha h
theorem at13 : Try.prog.funcs[13]? = some (fnOf Try.prog 13) := by kernel_rfl
abbrev Y13 : Type := Int → (Prop) → Prop
set_option maxHeartbeats 4000000 in
set_option maxRecDepth 100000 in
def F13  (a : Int) (k1 : Prop) : Prop :=
  (k1)
theorem F13_ok  (a : Int) (K : V → Mem → Prop) : cbody Try.prog C0 (fun _ => none) 1000 (fnOf Try.prog 13) [(.I .i64 a)] [] K =
    F13  a (K (.I .i64 a) []) := by kernel_rfl
def G13 : Y13 := F13 
def VT13 (f : Y13) (F : Prop) (args : List V) (m : Mem) (K : V → Mem → Prop) : Prop :=
  (seeCons args F fun a1 q2 => (seeI .i64 a1 F fun a => (seeNil q2 F (seeNil m F (f a (K (.I .i64 a) []))))))
def T13 (f : Y13) (C : CC) : CC := fun g args m K =>
  match Nat.beq g 13 with
  | true => VT13 f (C g args m K) args m K
  | false => C g args m K
set_option maxRecDepth 100000 in
theorem T13_ok {C : CC} (hC : CallsOk Try.prog C) : CallsOk Try.prog (T13 G13 C) := by
  intro g args m K E w cargs hS ha h
  unfold T13 at h
  split at h
  · rename_i hg
    obtain rfl := Nat.eq_of_beq_eq_true hg
    unfold VT13 at h
    replace h := seeCons_use h
    rcases h with h | ⟨a1, q2, rfl, h⟩
    · exact hC _ _ _ _ _ _ _ hS ha h
    replace h := seeI_use h
    rcases h with h | ⟨a, rfl, h⟩
    · exact hC _ _ _ _ _ _ _ hS ha h
    replace h := seeNil_use h
    rcases h with h | ⟨rfl, h⟩
    · exact hC _ _ _ _ _ _ _ hS ha h
    replace h := seeNil_use h
    rcases h with h | ⟨rfl, h⟩
    · exact hC _ _ _ _ _ _ _ hS ha h
    exact cbody_use named C0_ok at13 (l := 0) rfl (LoopsOk.none _ _) (F13_ok  a K) hS ha h
  · exact hC _ _ _ _ _ _ _ hS ha h
end Go.Proofs.Ytnndiicpiolddaa.tls
