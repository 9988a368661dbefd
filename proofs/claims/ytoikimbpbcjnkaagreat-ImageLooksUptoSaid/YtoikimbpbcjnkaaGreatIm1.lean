import Derived.Test.YtoikimbpbcjnkaaGreatProg
import Derived.Test.YtoikimbpbcjnkaaGreatAbExt
import Derived.Test.YtoikimbpbcjnkaaGreatAbLaw
import Derived.Test.YtoikimbpbcjnkaaGreatAbFil
import Derived.Test.YtoikimbpbcjnkaaGreatAbSee
set_option linter.unusedVariables false
set_option linter.unusedSimpArgs false
set_option maxHeartbeats 4000000
set_option maxRecDepth 100000
namespace Go.Proofs.YtoikimbpbcjnkaaGreat.img
open Go Go.Ab
theorem named : Named Tryz.prog := by
  have h : Tryz.prog.funcs.toList.all (fun fn => !(fn.name == "runtime.NumGoroutine")) = true := by kernel_rfl
  intro g fn hf
  have := List.all_eq_true.1 h fn (by rw [Array.getElem?_eq_some_iff] at hf; obtain ⟨h1, rfl⟩ := hf; simp)
  simpa using this
def prims0 : Prims := fun f =>
  match Nat.beq f 277 with
  | true => some pIdx
  | false => none
theorem stands {f : FuncId} {e : Array Value → Sem Value} (hf : Tryz.prog.funcs[f]? = some (fnOf Tryz.prog f)) (h1 : ((fnOf Tryz.prog f).name == "runtime.NumGoroutine") = false) (h2 : (fnOf Tryz.prog f).body.isNone = true)
    (h3 : Extern.findNext (fnOf Tryz.prog f) = none) (h4 : Extern.find (fnOf Tryz.prog f) = some e) : Stands Tryz.prog f e := ⟨_, hf, h1, h2, h3, h4⟩
theorem prims0_ok : PrimsOk Tryz.prog prims0 := by
  intro f g hg
  unfold prims0 at hg
  split at hg
  · rename_i hf
    obtain rfl := Nat.eq_of_beq_eq_true hf
    cases hg
    exact pIdx_ok (stands (by kernel_rfl) (by kernel_rfl) (by kernel_rfl) (by kernel_rfl) (by kernel_rfl))
  · cases hg
def C0 : CC := call Tryz.prog prims0 1000
theorem C0_ok : CallsOk Tryz.prog C0 := call_sound named prims0_ok 1000
theorem at87 : Tryz.prog.funcs[87]? = some (fnOf Tryz.prog 87) := by kernel_rfl
abbrev Y87_2 : Type := Int → (Prop) → (List Int → Prop) → Prop
set_option maxHeartbeats 4000000 in
set_option maxRecDepth 100000 in
def F87_2  (n : Int) (k1 : Prop) (k2 : List Int → Prop) : Prop :=
  (bif (decide (n < (-32768 : Int))) then (k1) else (bif (decide (n ≥ (65536 : Int))) then (k1) else (k2 ([(IntKind.wrap .u8 (Int.fdiv (IntKind.wrap .u64 n) (2 ^ 0))), (IntKind.wrap .u8 (Int.fdiv (IntKind.wrap .u64 n) (2 ^ 8)))] : List Int))))
theorem F87_2_ok  (n : Int) (K : V → Mem → Prop) : cbody Tryz.prog C0 (fun _ => none) 1000 (fnOf Tryz.prog 87) [(.I .i64 n), (.I .i64 (2 : Int))] [] K =
    F87_2  n (K (.tup [.nils, (.I .i64 (11 : Int))]) []) (fun (u0 : List Int) => K (.tup [(.sl 0 (0 : Nat) (none : Option Nat) (none : Option Nat)), (.I .i64 (0 : Int))]) [⟨[.ints .u8 u0], 5, false, true⟩]) := by kernel_rfl
def G87_2 : Y87_2 := F87_2 
def VT87_2 (f : Y87_2) (F : Prop) (args : List V) (m : Mem) (K : V → Mem → Prop) : Prop :=
  (seeCons args F fun a1 q2 => (seeI .i64 a1 F fun n => (seeCons q2 F fun a3 q4 => (seeV (.I .i64 (2 : Int)) a3 F (seeNil q4 F (seeNil m F (f n (K (.tup [.nils, (.I .i64 (11 : Int))]) []) (fun (u0 : List Int) => K (.tup [(.sl 0 (0 : Nat) (none : Option Nat) (none : Option Nat)), (.I .i64 (0 : Int))]) [⟨[.ints .u8 u0], 5, false, true⟩]))))))))
def T87_2 (f : Y87_2) (C : CC) : CC := fun g args m K =>
  match Nat.beq g 87 with
  | true => VT87_2 f (C g args m K) args m K
  | false => C g args m K
set_option maxRecDepth 100000 in
theorem T87_2_ok {C : CC} (hC : CallsOk Tryz.prog C) : CallsOk Tryz.prog (T87_2 G87_2 C) := by
  intro g args m K E w cargs hS ha h
  unfold T87_2 at h
  split at h
  · rename_i hg
    obtain rfl := Nat.eq_of_beq_eq_true hg
    unfold VT87_2 at h
    replace h := seeCons_use h
    rcases h with h | ⟨a1, q2, rfl, h⟩
    · exact hC _ _ _ _ _ _ _ hS ha h
    replace h := seeI_use h
    rcases h with h | ⟨n, rfl, h⟩
    · exact hC _ _ _ _ _ _ _ hS ha h
    replace h := seeCons_use h
    rcases h with h | ⟨a3, q4, rfl, h⟩
    · exact hC _ _ _ _ _ _ _ hS ha h
    replace h := seeV_use h
    rcases h with h | ⟨rfl, h⟩
    · exact hC _ _ _ _ _ _ _ hS ha h
    replace h := seeNil_use h
    rcases h with h | ⟨rfl, h⟩
    · exact hC _ _ _ _ _ _ _ hS ha h
    replace h := seeNil_use h
    rcases h with h | ⟨rfl, h⟩
    · exact hC _ _ _ _ _ _ _ hS ha h
    exact cbody_use named C0_ok at87 (l := 0) rfl (LoopsOk.none _ _) (F87_2_ok  n K) hS ha h
  · exact hC _ _ _ _ _ _ _ hS ha h
abbrev Y87_4 : Type := Int → (Prop) → (List Int → Prop) → Prop
set_option maxHeartbeats 4000000 in
set_option maxRecDepth 100000 in
def F87_4  (n : Int) (k1 : Prop) (k2 : List Int → Prop) : Prop :=
  (bif (decide (n < (-2147483648 : Int))) then (k1) else (bif (decide (n ≥ (4294967296 : Int))) then (k1) else (k2 ([(IntKind.wrap .u8 (Int.fdiv (IntKind.wrap .u64 n) (2 ^ 0))), (IntKind.wrap .u8 (Int.fdiv (IntKind.wrap .u64 n) (2 ^ 8))), (IntKind.wrap .u8 (Int.fdiv (IntKind.wrap .u64 n) (2 ^ 16))), (IntKind.wrap .u8 (Int.fdiv (IntKind.wrap .u64 n) (2 ^ 24)))] : List Int))))
theorem F87_4_ok  (n : Int) (K : V → Mem → Prop) : cbody Tryz.prog C0 (fun _ => none) 1000 (fnOf Tryz.prog 87) [(.I .i64 n), (.I .i64 (4 : Int))] [] K =
    F87_4  n (K (.tup [.nils, (.I .i64 (11 : Int))]) []) (fun (u0 : List Int) => K (.tup [(.sl 0 (0 : Nat) (none : Option Nat) (none : Option Nat)), (.I .i64 (0 : Int))]) [⟨[.ints .u8 u0], 5, false, true⟩]) := by kernel_rfl
def G87_4 : Y87_4 := F87_4 
def VT87_4 (f : Y87_4) (F : Prop) (args : List V) (m : Mem) (K : V → Mem → Prop) : Prop :=
  (seeCons args F fun a1 q2 => (seeI .i64 a1 F fun n => (seeCons q2 F fun a3 q4 => (seeV (.I .i64 (4 : Int)) a3 F (seeNil q4 F (seeNil m F (f n (K (.tup [.nils, (.I .i64 (11 : Int))]) []) (fun (u0 : List Int) => K (.tup [(.sl 0 (0 : Nat) (none : Option Nat) (none : Option Nat)), (.I .i64 (0 : Int))]) [⟨[.ints .u8 u0], 5, false, true⟩]))))))))
def T87_4 (f : Y87_4) (C : CC) : CC := fun g args m K =>
  match Nat.beq g 87 with
  | true => VT87_4 f (C g args m K) args m K
  | false => C g args m K
set_option maxRecDepth 100000 in
theorem T87_4_ok {C : CC} (hC : CallsOk Tryz.prog C) : CallsOk Tryz.prog (T87_4 G87_4 C) := by
  intro g args m K E w cargs hS ha h
  unfold T87_4 at h
  split at h
  · rename_i hg
    obtain rfl := Nat.eq_of_beq_eq_true hg
    unfold VT87_4 at h
    replace h := seeCons_use h
    rcases h with h | ⟨a1, q2, rfl, h⟩
    · exact hC _ _ _ _ _ _ _ hS ha h
    replace h := seeI_use h
    rcases h with h | ⟨n, rfl, h⟩
    · exact hC _ _ _ _ _ _ _ hS ha h
    replace h := seeCons_use h
    rcases h with h | ⟨a3, q4, rfl, h⟩
    · exact hC _ _ _ _ _ _ _ hS ha h
    replace h := seeV_use h
    rcases h with h | ⟨rfl, h⟩
    · exact hC _ _ _ _ _ _ _ hS ha h
    replace h := seeNil_use h
    rcases h with h | ⟨rfl, h⟩
    · exact hC _ _ _ _ _ _ _ hS ha h
    replace h := seeNil_use h
    rcases h with h | ⟨rfl, h⟩
    · exact hC _ _ _ _ _ _ _ hS ha h
    exact cbody_use named C0_ok at87 (l := 0) rfl (LoopsOk.none _ _) (F87_4_ok  n K) hS ha h
  · exact hC _ _ _ _ _ _ _ hS ha h
abbrev Y87_8 : Type := Int → (List Int → Prop) → Prop
set_option maxHeartbeats 4000000 in
set_option maxRecDepth 100000 in
def F87_8  (n : Int) (k1 : List Int → Prop) : Prop :=
  (k1 ([(IntKind.wrap .u8 (Int.fdiv (IntKind.wrap .u64 n) (2 ^ 0))), (IntKind.wrap .u8 (Int.fdiv (IntKind.wrap .u64 n) (2 ^ 8))), (IntKind.wrap .u8 (Int.fdiv (IntKind.wrap .u64 n) (2 ^ 16))), (IntKind.wrap .u8 (Int.fdiv (IntKind.wrap .u64 n) (2 ^ 24))), (IntKind.wrap .u8 (Int.fdiv (IntKind.wrap .u64 n) (2 ^ 32))), (IntKind.wrap .u8 (Int.fdiv (IntKind.wrap .u64 n) (2 ^ 40))), (IntKind.wrap .u8 (Int.fdiv (IntKind.wrap .u64 n) (2 ^ 48))), (IntKind.wrap .u8 (Int.fdiv (IntKind.wrap .u64 n) (2 ^ 56)))] : List Int))
theorem F87_8_ok  (n : Int) (K : V → Mem → Prop) : cbody Tryz.prog C0 (fun _ => none) 1000 (fnOf Tryz.prog 87) [(.I .i64 n), (.I .i64 (8 : Int))] [] K =
    F87_8  n (fun (u0 : List Int) => K (.tup [(.sl 0 (0 : Nat) (none : Option Nat) (none : Option Nat)), (.I .i64 (0 : Int))]) [⟨[.ints .u8 u0], 5, false, true⟩]) := by kernel_rfl
def G87_8 : Y87_8 := F87_8 
def VT87_8 (f : Y87_8) (F : Prop) (args : List V) (m : Mem) (K : V → Mem → Prop) : Prop :=
  (seeCons args F fun a1 q2 => (seeI .i64 a1 F fun n => (seeCons q2 F fun a3 q4 => (seeV (.I .i64 (8 : Int)) a3 F (seeNil q4 F (seeNil m F (f n (fun (u0 : List Int) => K (.tup [(.sl 0 (0 : Nat) (none : Option Nat) (none : Option Nat)), (.I .i64 (0 : Int))]) [⟨[.ints .u8 u0], 5, false, true⟩]))))))))
def T87_8 (f : Y87_8) (C : CC) : CC := fun g args m K =>
  match Nat.beq g 87 with
  | true => VT87_8 f (C g args m K) args m K
  | false => C g args m K
set_option maxRecDepth 100000 in
theorem T87_8_ok {C : CC} (hC : CallsOk Tryz.prog C) : CallsOk Tryz.prog (T87_8 G87_8 C) := by
  intro g args m K E w cargs hS ha h
  unfold T87_8 at h
  split at h
  · rename_i hg
    obtain rfl := Nat.eq_of_beq_eq_true hg
    unfold VT87_8 at h
    replace h := seeCons_use h
    rcases h with h | ⟨a1, q2, rfl, h⟩
    · exact hC _ _ _ _ _ _ _ hS ha h
    replace h := seeI_use h
    rcases h with h | ⟨n, rfl, h⟩
    · exact hC _ _ _ _ _ _ _ hS ha h
    replace h := seeCons_use h
    rcases h with h | ⟨a3, q4, rfl, h⟩
    · exact hC _ _ _ _ _ _ _ hS ha h
    replace h := seeV_use h
    rcases h with h | ⟨rfl, h⟩
    · exact hC _ _ _ _ _ _ _ hS ha h
    replace h := seeNil_use h
    rcases h with h | ⟨rfl, h⟩
    · exact hC _ _ _ _ _ _ _ hS ha h
    replace h := seeNil_use h
    rcases h with h | ⟨rfl, h⟩
    · exact hC _ _ _ _ _ _ _ hS ha h
    exact cbody_use named C0_ok at87 (l := 0) rfl (LoopsOk.none _ _) (F87_8_ok  n K) hS ha h
  · exact hC _ _ _ _ _ _ _ hS ha h
def prims1 : Prims := fun f =>
  match Nat.beq f 87 with
  | true => some fun args m K => (T87_2 G87_2 (T87_4 G87_4 (T87_8 G87_8 C0))) 87 args m K
  | false => prims0 f
theorem prims1_ok : PrimsOk Tryz.prog prims1 := by
  intro f g hg
  unfold prims1 at hg
  split at hg
  · rename_i hf
    obtain rfl := Nat.eq_of_beq_eq_true hf
    cases hg
    intro args m K E w cargs hS ha h
    exact T87_2_ok (T87_4_ok (T87_8_ok C0_ok)) _ _ _ _ _ _ _ hS ha h
  · exact prims0_ok f g hg
def C1 : CC := call Tryz.prog prims1 1000
theorem C1_ok : CallsOk Tryz.prog C1 := call_sound named prims1_ok 1000

end Go.Proofs.YtoikimbpbcjnkaaGreat.img
