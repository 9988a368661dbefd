import Derived.Test.YtgdmellcbgalaaaGreatDoorTb0
import Derived.Test.YtgdmellcbgalaaaGreatDoorTbS
set_option linter.unusedVariables false
set_option linter.unusedSimpArgs false
set_option maxHeartbeats 4000000
set_option maxRecDepth 100000
namespace Go.Proofs.YtgdmellcbgalaaaGreatDoor.tlb
open Go Go.Ab
theorem at132_132_10 : Tryz.prog.funcs[132]? = some (fnOf Tryz.prog 132) := by kernel_rfl
abbrev Y132_10 : Type := Int → Int → Int → Int → (Int → Prop) → Prop
set_option maxHeartbeats 4000000 in
set_option maxRecDepth 100000 in
def F132_10  (p0 : Int) (p1 : Int) (p2 : Int) (p3 : Int) (k1 : Int → Prop) : Prop :=
  (k1 (Int.fdiv (IntKind.wrap .i64 (IntKind.wrap .u64 ((ibits .or .u64 (ibits .or .u64 (ibits .or .u64 (ibits .or .u64 (0 : Int) (IntKind.wrap .u64 ((IntKind.wrap .u64 (IntKind.wrap .i64 p0)) * 2 ^ 0))) (IntKind.wrap .u64 ((IntKind.wrap .u64 (IntKind.wrap .i64 p1)) * 2 ^ 8))) (IntKind.wrap .u64 ((IntKind.wrap .u64 (IntKind.wrap .i64 p2)) * 2 ^ 16))) (IntKind.wrap .u64 ((IntKind.wrap .u64 (IntKind.wrap .i64 p3)) * 2 ^ 24))) * 2 ^ 32))) (2 ^ 32)))
theorem F132_10_ok  (p0 : Int) (p1 : Int) (p2 : Int) (p3 : Int) (K : V → Mem → Prop) : cbody Tryz.prog C0 (fun _ => none) 1000 (fnOf Tryz.prog 132) [(.ptr 0 (0 : Nat) 0), (.I .i64 (4 : Int))] [⟨[.vals [(.sl 1 (0 : Nat) (none : Option Nat) (none : Option Nat))], .ints .i64 ([(3 : Int)] : List Int), .bools ([false] : List Bool), .ints .i64 ([(73 : Int)] : List Int), .ints .i64 ([(1 : Int)] : List Int)], 94, false, false⟩, ⟨[.ints .u8 ([(73 : Int), (199 : Int), (192 : Int), p0, p1, p2, p3] : List Int)], 5, false, false⟩] K =
    F132_10  p0 p1 p2 p3 (fun (u0 : Int) => K (.I .i64 u0) [⟨[.vals [(.sl 1 (0 : Nat) (none : Option Nat) (none : Option Nat))], .ints .i64 ([(7 : Int)] : List Int), .bools ([false] : List Bool), .ints .i64 ([(73 : Int)] : List Int), .ints .i64 ([(3 : Int)] : List Int)], 94, false, false⟩, ⟨[.ints .u8 ([(73 : Int), (199 : Int), (192 : Int), p0, p1, p2, p3] : List Int)], 5, false, false⟩]) := by kernel_rfl
def G132_10 : Y132_10 := F132_10 
def VT132_10 (f : Y132_10) (F : Prop) (args : List V) (m : Mem) (K : V → Mem → Prop) : Prop :=
  (seeCons args F fun a1 q2 => (seeV (.ptr 0 (0 : Nat) 0) a1 F (seeCons q2 F fun a3 q4 => (seeV (.I .i64 (4 : Int)) a3 F (seeNil q4 F (seeCons m F fun a5 q6 => (seeBlk 94 false false a5 F fun cs7 => (seeCons cs7 F fun a8 q9 => (seeVals a8 F fun xs10 => (seeCons xs10 F fun a11 q12 => (seeV (.sl 1 (0 : Nat) (none : Option Nat) (none : Option Nat)) a11 F (seeNil q12 F (seeCons q9 F fun a13 q14 => (seeInts .i64 a13 F fun xs15 => (seeX ([(3 : Int)] : List Int) xs15 F (seeCons q14 F fun a16 q17 => (seeBools a16 F fun xs18 => (seeCons xs18 F fun a19 q20 => (seeT false a19 F (seeNil q20 F (seeCons q17 F fun a21 q22 => (seeInts .i64 a21 F fun xs23 => (seeX ([(73 : Int)] : List Int) xs23 F (seeCons q22 F fun a24 q25 => (seeInts .i64 a24 F fun xs26 => (seeX ([(1 : Int)] : List Int) xs26 F (seeNil q25 F (seeCons q6 F fun a27 q28 => (seeBlk 5 false false a27 F fun cs29 => (seeCons cs29 F fun a30 q31 => (seeInts .u8 a30 F fun xs32 => (seeCons xs32 F fun a33 q34 => (seeZ (73 : Int) a33 F (seeCons q34 F fun a35 q36 => (seeZ (199 : Int) a35 F (seeCons q36 F fun a37 q38 => (seeZ (192 : Int) a37 F (seeCons q38 F fun a39 q40 => (seeId a39 fun p0 => (seeCons q40 F fun a41 q42 => (seeId a41 fun p1 => (seeCons q42 F fun a43 q44 => (seeId a43 fun p2 => (seeCons q44 F fun a45 q46 => (seeId a45 fun p3 => (seeNil q46 F (seeNil q31 F (seeNil q28 F (f p0 p1 p2 p3 (fun (u0 : Int) => K (.I .i64 u0) [⟨[.vals [(.sl 1 (0 : Nat) (none : Option Nat) (none : Option Nat))], .ints .i64 ([(7 : Int)] : List Int), .bools ([false] : List Bool), .ints .i64 ([(73 : Int)] : List Int), .ints .i64 ([(3 : Int)] : List Int)], 94, false, false⟩, ⟨[.ints .u8 ([(73 : Int), (199 : Int), (192 : Int), p0, p1, p2, p3] : List Int)], 5, false, false⟩]))))))))))))))))))))))))))))))))))))))))))))))))))
def T132_10 (f : Y132_10) (C : CC) : CC := fun g args m K =>
  match Nat.beq g 132 with
  | true => VT132_10 f (C g args m K) args m K
  | false => C g args m K
set_option maxRecDepth 100000 in
theorem T132_10_ok {C : CC} (hC : CallsOk Tryz.prog C) : CallsOk Tryz.prog (T132_10 G132_10 C) := by
  intro g args m K E w cargs hS ha h
  unfold T132_10 at h
  split at h
  · rename_i hg
    obtain rfl := Nat.eq_of_beq_eq_true hg
    unfold VT132_10 at h
    replace h := seeCons_use h
    rcases h with h | ⟨a1, q2, rfl, h⟩
    · exact hC _ _ _ _ _ _ _ hS ha h
    replace h := seeV_use h
    rcases h with h | ⟨rfl, h⟩
    · exact hC _ _ _ _ _ _ _ hS ha h
    replace h := seeCons_use h
    rcases h with h | ⟨a3, q4, rfl, h⟩
    · exact hC _ _ _ _ _ _ _ hS ha h
    replace h := seeV_use h
    rcases h with h | ⟨rfl, h⟩
    · exact hC _ _ _ _ _ _ _ hS ha h
    replace h := seeNil_use h
    rcases h with h | ⟨rfl, h⟩
    · exact hC _ _ _ _ _ _ _ hS ha h
    replace h := seeCons_use h
    rcases h with h | ⟨a5, q6, rfl, h⟩
    · exact hC _ _ _ _ _ _ _ hS ha h
    replace h := seeBlk_use h
    rcases h with h | ⟨cs7, rfl, h⟩
    · exact hC _ _ _ _ _ _ _ hS ha h
    replace h := seeCons_use h
    rcases h with h | ⟨a8, q9, rfl, h⟩
    · exact hC _ _ _ _ _ _ _ hS ha h
    replace h := seeVals_use h
    rcases h with h | ⟨xs10, rfl, h⟩
    · exact hC _ _ _ _ _ _ _ hS ha h
    replace h := seeCons_use h
    rcases h with h | ⟨a11, q12, rfl, h⟩
    · exact hC _ _ _ _ _ _ _ hS ha h
    replace h := seeV_use h
    rcases h with h | ⟨rfl, h⟩
    · exact hC _ _ _ _ _ _ _ hS ha h
    replace h := seeNil_use h
    rcases h with h | ⟨rfl, h⟩
    · exact hC _ _ _ _ _ _ _ hS ha h
    replace h := seeCons_use h
    rcases h with h | ⟨a13, q14, rfl, h⟩
    · exact hC _ _ _ _ _ _ _ hS ha h
    replace h := seeInts_use h
    rcases h with h | ⟨xs15, rfl, h⟩
    · exact hC _ _ _ _ _ _ _ hS ha h
    replace h := seeX_use h
    rcases h with h | ⟨rfl, h⟩
    · exact hC _ _ _ _ _ _ _ hS ha h
    replace h := seeCons_use h
    rcases h with h | ⟨a16, q17, rfl, h⟩
    · exact hC _ _ _ _ _ _ _ hS ha h
    replace h := seeBools_use h
    rcases h with h | ⟨xs18, rfl, h⟩
    · exact hC _ _ _ _ _ _ _ hS ha h
    replace h := seeCons_use h
    rcases h with h | ⟨a19, q20, rfl, h⟩
    · exact hC _ _ _ _ _ _ _ hS ha h
    replace h := seeT_use h
    rcases h with h | ⟨rfl, h⟩
    · exact hC _ _ _ _ _ _ _ hS ha h
    replace h := seeNil_use h
    rcases h with h | ⟨rfl, h⟩
    · exact hC _ _ _ _ _ _ _ hS ha h
    replace h := seeCons_use h
    rcases h with h | ⟨a21, q22, rfl, h⟩
    · exact hC _ _ _ _ _ _ _ hS ha h
    replace h := seeInts_use h
    rcases h with h | ⟨xs23, rfl, h⟩
    · exact hC _ _ _ _ _ _ _ hS ha h
    replace h := seeX_use h
    rcases h with h | ⟨rfl, h⟩
    · exact hC _ _ _ _ _ _ _ hS ha h
    replace h := seeCons_use h
    rcases h with h | ⟨a24, q25, rfl, h⟩
    · exact hC _ _ _ _ _ _ _ hS ha h
    replace h := seeInts_use h
    rcases h with h | ⟨xs26, rfl, h⟩
    · exact hC _ _ _ _ _ _ _ hS ha h
    replace h := seeX_use h
    rcases h with h | ⟨rfl, h⟩
    · exact hC _ _ _ _ _ _ _ hS ha h
    replace h := seeNil_use h
    rcases h with h | ⟨rfl, h⟩
    · exact hC _ _ _ _ _ _ _ hS ha h
    replace h := seeCons_use h
    rcases h with h | ⟨a27, q28, rfl, h⟩
    · exact hC _ _ _ _ _ _ _ hS ha h
    replace h := seeBlk_use h
    rcases h with h | ⟨cs29, rfl, h⟩
    · exact hC _ _ _ _ _ _ _ hS ha h
    replace h := seeCons_use h
    rcases h with h | ⟨a30, q31, rfl, h⟩
    · exact hC _ _ _ _ _ _ _ hS ha h
    replace h := seeInts_use h
    rcases h with h | ⟨xs32, rfl, h⟩
    · exact hC _ _ _ _ _ _ _ hS ha h
    replace h := seeCons_use h
    rcases h with h | ⟨a33, q34, rfl, h⟩
    · exact hC _ _ _ _ _ _ _ hS ha h
    replace h := seeZ_use h
    rcases h with h | ⟨rfl, h⟩
    · exact hC _ _ _ _ _ _ _ hS ha h
    replace h := seeCons_use h
    rcases h with h | ⟨a35, q36, rfl, h⟩
    · exact hC _ _ _ _ _ _ _ hS ha h
    replace h := seeZ_use h
    rcases h with h | ⟨rfl, h⟩
    · exact hC _ _ _ _ _ _ _ hS ha h
    replace h := seeCons_use h
    rcases h with h | ⟨a37, q38, rfl, h⟩
    · exact hC _ _ _ _ _ _ _ hS ha h
    replace h := seeZ_use h
    rcases h with h | ⟨rfl, h⟩
    · exact hC _ _ _ _ _ _ _ hS ha h
    replace h := seeCons_use h
    rcases h with h | ⟨a39, q40, rfl, h⟩
    · exact hC _ _ _ _ _ _ _ hS ha h
    replace h := seeId_use h
    obtain ⟨p0, rfl, h⟩ := h
    replace h := seeCons_use h
    rcases h with h | ⟨a41, q42, rfl, h⟩
    · exact hC _ _ _ _ _ _ _ hS ha h
    replace h := seeId_use h
    obtain ⟨p1, rfl, h⟩ := h
    replace h := seeCons_use h
    rcases h with h | ⟨a43, q44, rfl, h⟩
    · exact hC _ _ _ _ _ _ _ hS ha h
    replace h := seeId_use h
    obtain ⟨p2, rfl, h⟩ := h
    replace h := seeCons_use h
    rcases h with h | ⟨a45, q46, rfl, h⟩
    · exact hC _ _ _ _ _ _ _ hS ha h
    replace h := seeId_use h
    obtain ⟨p3, rfl, h⟩ := h
    replace h := seeNil_use h
    rcases h with h | ⟨rfl, h⟩
    · exact hC _ _ _ _ _ _ _ hS ha h
    replace h := seeNil_use h
    rcases h with h | ⟨rfl, h⟩
    · exact hC _ _ _ _ _ _ _ hS ha h
    replace h := seeNil_use h
    rcases h with h | ⟨rfl, h⟩
    · exact hC _ _ _ _ _ _ _ hS ha h
    exact cbody_use named C0_ok at132_132_10 (l := 2) rfl (LoopsOk.none _ _) (F132_10_ok  p0 p1 p2 p3 K) hS ha h
  · exact hC _ _ _ _ _ _ _ hS ha h
def primsK33_10 (f132_10 : Y132_10) : Prims := fun f =>
  match Nat.beq f 132 with
  | true => some fun args m K => (T132_10 f132_10 C0) 132 args m K
  | false => prims0 f
theorem primsK33_10_ok : PrimsOk Tryz.prog (primsK33_10 G132_10) := by
  intro f g hg
  unfold primsK33_10 at hg
  split at hg
  · rename_i hf
    obtain rfl := Nat.eq_of_beq_eq_true hf
    cases hg
    intro args m K E w cargs hS ha h
    exact (T132_10_ok C0_ok) _ _ _ _ _ _ _ hS ha h
  · exact prims0_ok f g hg
def K33_10 (f132_10 : Y132_10) : CC := callD Tryz.prog (primsK33_10 f132_10) 1000
theorem K33_10_ok : CallsOk Tryz.prog (K33_10 G132_10) := callD_sound named primsK33_10_ok 1000
theorem at33_33_10 : Tryz.prog.funcs[33]? = some (fnOf Tryz.prog 33) := by kernel_rfl
abbrev Y33_10 : Type := Int → Int → Int → Int → (Int → Prop) → Prop
set_option maxHeartbeats 4000000 in
set_option maxRecDepth 100000 in
def F33_10 (f132_10 : Y132_10)  (p0 : Int) (p1 : Int) (p2 : Int) (p3 : Int) (k1 : Int → Prop) : Prop :=
  (f132_10 p0 p1 p2 p3 (fun (n1 : Int) => (k1 n1)))
theorem F33_10_ok (f132_10 : Y132_10)  (p0 : Int) (p1 : Int) (p2 : Int) (p3 : Int) (K : V → Mem → Prop) : cbodyD Tryz.prog (K33_10 f132_10) (fun _ => none) 1000 (fnOf Tryz.prog 33) [(.sl 0 (0 : Nat) (none : Option Nat) (none : Option Nat))] [⟨[.ints .u8 ([(73 : Int), (199 : Int), (192 : Int), p0, p1, p2, p3] : List Int)], 5, false, false⟩] K =
    F33_10 f132_10  p0 p1 p2 p3 (fun (u0 : Int) => K (.tup [(.agg [(.I .i64 (1 : Int)), (.I .i64 (8 : Int)), (.I .i64 (0 : Int)), (.I .i64 (1 : Int)), (.I .i64 (8 : Int)), (.I .i64 (0 : Int)), (.I .i64 (0 : Int)), (.I .i64 (0 : Int)), (.B false), (.B false), (.I .i64 (0 : Int)), (.S ([] : List Int)), (.I .i64 (0 : Int)), (.I .i64 (2 : Int)), (.I .i64 (0 : Int)), (.I .i64 (0 : Int)), (.I .i64 (0 : Int)), (.I .i64 (0 : Int)), (.B false), (.B false), (.I .i64 u0), (.S ([] : List Int)), (.I .i64 (0 : Int)), (.B false)]), (.I .i64 (7 : Int)), (.I .i64 (0 : Int))]) [⟨[.ints .u8 ([(73 : Int), (199 : Int), (192 : Int), p0, p1, p2, p3] : List Int)], 5, false, false⟩]) := by kernel_rfl
def G33_10 : Y33_10 := F33_10 G132_10 
def VT33_10 (f : Y33_10) (F : Prop) (args : List V) (m : Mem) (K : V → Mem → Prop) : Prop :=
  (seeCons args F fun a1 q2 => (seeV (.sl 0 (0 : Nat) (none : Option Nat) (none : Option Nat)) a1 F (seeNil q2 F (seeCons m F fun a3 q4 => (seeBlk 5 false false a3 F fun cs5 => (seeCons cs5 F fun a6 q7 => (seeInts .u8 a6 F fun xs8 => (seeCons xs8 F fun a9 q10 => (seeZ (73 : Int) a9 F (seeCons q10 F fun a11 q12 => (seeZ (199 : Int) a11 F (seeCons q12 F fun a13 q14 => (seeZ (192 : Int) a13 F (seeCons q14 F fun a15 q16 => (seeId a15 fun p0 => (seeCons q16 F fun a17 q18 => (seeId a17 fun p1 => (seeCons q18 F fun a19 q20 => (seeId a19 fun p2 => (seeCons q20 F fun a21 q22 => (seeId a21 fun p3 => (seeNil q22 F (seeNil q7 F (seeNil q4 F (f p0 p1 p2 p3 (fun (u0 : Int) => K (.tup [(.agg [(.I .i64 (1 : Int)), (.I .i64 (8 : Int)), (.I .i64 (0 : Int)), (.I .i64 (1 : Int)), (.I .i64 (8 : Int)), (.I .i64 (0 : Int)), (.I .i64 (0 : Int)), (.I .i64 (0 : Int)), (.B false), (.B false), (.I .i64 (0 : Int)), (.S ([] : List Int)), (.I .i64 (0 : Int)), (.I .i64 (2 : Int)), (.I .i64 (0 : Int)), (.I .i64 (0 : Int)), (.I .i64 (0 : Int)), (.I .i64 (0 : Int)), (.B false), (.B false), (.I .i64 u0), (.S ([] : List Int)), (.I .i64 (0 : Int)), (.B false)]), (.I .i64 (7 : Int)), (.I .i64 (0 : Int))]) [⟨[.ints .u8 ([(73 : Int), (199 : Int), (192 : Int), p0, p1, p2, p3] : List Int)], 5, false, false⟩]))))))))))))))))))))))))))
def T33_10 (f : Y33_10) (C : CC) : CC := fun g args m K =>
  match Nat.beq g 33 with
  | true => VT33_10 f (C g args m K) args m K
  | false => C g args m K
set_option maxRecDepth 100000 in
theorem T33_10_ok {C : CC} (hC : CallsOk Tryz.prog C) : CallsOk Tryz.prog (T33_10 G33_10 C) := by
  intro g args m K E w cargs hS ha h
  unfold T33_10 at h
  split at h
  · rename_i hg
    obtain rfl := Nat.eq_of_beq_eq_true hg
    unfold VT33_10 at h
    replace h := seeCons_use h
    rcases h with h | ⟨a1, q2, rfl, h⟩
    · exact hC _ _ _ _ _ _ _ hS ha h
    replace h := seeV_use h
    rcases h with h | ⟨rfl, h⟩
    · exact hC _ _ _ _ _ _ _ hS ha h
    replace h := seeNil_use h
    rcases h with h | ⟨rfl, h⟩
    · exact hC _ _ _ _ _ _ _ hS ha h
    replace h := seeCons_use h
    rcases h with h | ⟨a3, q4, rfl, h⟩
    · exact hC _ _ _ _ _ _ _ hS ha h
    replace h := seeBlk_use h
    rcases h with h | ⟨cs5, rfl, h⟩
    · exact hC _ _ _ _ _ _ _ hS ha h
    replace h := seeCons_use h
    rcases h with h | ⟨a6, q7, rfl, h⟩
    · exact hC _ _ _ _ _ _ _ hS ha h
    replace h := seeInts_use h
    rcases h with h | ⟨xs8, rfl, h⟩
    · exact hC _ _ _ _ _ _ _ hS ha h
    replace h := seeCons_use h
    rcases h with h | ⟨a9, q10, rfl, h⟩
    · exact hC _ _ _ _ _ _ _ hS ha h
    replace h := seeZ_use h
    rcases h with h | ⟨rfl, h⟩
    · exact hC _ _ _ _ _ _ _ hS ha h
    replace h := seeCons_use h
    rcases h with h | ⟨a11, q12, rfl, h⟩
    · exact hC _ _ _ _ _ _ _ hS ha h
    replace h := seeZ_use h
    rcases h with h | ⟨rfl, h⟩
    · exact hC _ _ _ _ _ _ _ hS ha h
    replace h := seeCons_use h
    rcases h with h | ⟨a13, q14, rfl, h⟩
    · exact hC _ _ _ _ _ _ _ hS ha h
    replace h := seeZ_use h
    rcases h with h | ⟨rfl, h⟩
    · exact hC _ _ _ _ _ _ _ hS ha h
    replace h := seeCons_use h
    rcases h with h | ⟨a15, q16, rfl, h⟩
    · exact hC _ _ _ _ _ _ _ hS ha h
    replace h := seeId_use h
    obtain ⟨p0, rfl, h⟩ := h
    replace h := seeCons_use h
    rcases h with h | ⟨a17, q18, rfl, h⟩
    · exact hC _ _ _ _ _ _ _ hS ha h
    replace h := seeId_use h
    obtain ⟨p1, rfl, h⟩ := h
    replace h := seeCons_use h
    rcases h with h | ⟨a19, q20, rfl, h⟩
    · exact hC _ _ _ _ _ _ _ hS ha h
    replace h := seeId_use h
    obtain ⟨p2, rfl, h⟩ := h
    replace h := seeCons_use h
    rcases h with h | ⟨a21, q22, rfl, h⟩
    · exact hC _ _ _ _ _ _ _ hS ha h
    replace h := seeId_use h
    obtain ⟨p3, rfl, h⟩ := h
    replace h := seeNil_use h
    rcases h with h | ⟨rfl, h⟩
    · exact hC _ _ _ _ _ _ _ hS ha h
    replace h := seeNil_use h
    rcases h with h | ⟨rfl, h⟩
    · exact hC _ _ _ _ _ _ _ hS ha h
    replace h := seeNil_use h
    rcases h with h | ⟨rfl, h⟩
    · exact hC _ _ _ _ _ _ _ hS ha h
    exact cbodyD_use named K33_10_ok at33_33_10 (l := 1) rfl (LoopsOk.none _ _) (F33_10_ok G132_10  p0 p1 p2 p3 K) hS ha h
  · exact hC _ _ _ _ _ _ _ hS ha h
theorem at35_35_10 : Tryz.prog.funcs[35]? = some (fnOf Tryz.prog 35) := by kernel_rfl
abbrev Y35_10 : Type := Int → Int → Int → Int → Int → (Prop) → (Prop) → Prop
set_option maxHeartbeats 4000000 in
set_option maxRecDepth 100000 in
def F35_10  (p0 : Int) (p1 : Int) (p2 : Int) (p3 : Int) (p4 : Int) (k1 : Prop) (k2 : Prop) : Prop :=
  (bif ((p0 == p0) && true) then (bif (decide (p0 ≥ (-2147483648 : Int))) then (bif (decide (p0 < (2147483648 : Int))) then (bif ((p0 == p0) && (((p0 == p0) && true) && true)) then (bif ((p0 == p0) && true) then (bif (decide (p0 ≥ (-2147483648 : Int))) then (bif (!(decide (p0 < (2147483648 : Int)))) then (bif (([(73 : Int), (184 : Int), (b8 p0 0), (b8 p0 8), (b8 p0 16), (b8 p0 24), (b8 p0 32), (b8 p0 40), (b8 p0 48), (b8 p0 56)] : List Int) == ([(73 : Int), (199 : Int), (192 : Int), p1, p2, p3, p4] : List Int)) then (k1) else (k2)) else (bif (([(73 : Int), (199 : Int), (192 : Int), (b8 p0 0), (b8 p0 8), (b8 p0 16), (b8 p0 24)] : List Int) == ([(73 : Int), (199 : Int), (192 : Int), p1, p2, p3, p4] : List Int)) then (k1) else (k2))) else (bif (([(73 : Int), (184 : Int), (b8 p0 0), (b8 p0 8), (b8 p0 16), (b8 p0 24), (b8 p0 32), (b8 p0 40), (b8 p0 48), (b8 p0 56)] : List Int) == ([(73 : Int), (199 : Int), (192 : Int), p1, p2, p3, p4] : List Int)) then (k1) else (k2))) else False) else False) else (bif (!((p0 == p0) && true)) then (k2) else (bif ((p0 == p0) && (((p0 == p0) && true) && true)) then (bif ((p0 == p0) && true) then (bif (decide (p0 ≥ (-2147483648 : Int))) then (bif (!(decide (p0 < (2147483648 : Int)))) then (bif (([(73 : Int), (184 : Int), (b8 p0 0), (b8 p0 8), (b8 p0 16), (b8 p0 24), (b8 p0 32), (b8 p0 40), (b8 p0 48), (b8 p0 56)] : List Int) == ([(73 : Int), (199 : Int), (192 : Int), p1, p2, p3, p4] : List Int)) then (k1) else (k2)) else (bif (([(73 : Int), (199 : Int), (192 : Int), (b8 p0 0), (b8 p0 8), (b8 p0 16), (b8 p0 24)] : List Int) == ([(73 : Int), (199 : Int), (192 : Int), p1, p2, p3, p4] : List Int)) then (k1) else (k2))) else (bif (([(73 : Int), (184 : Int), (b8 p0 0), (b8 p0 8), (b8 p0 16), (b8 p0 24), (b8 p0 32), (b8 p0 40), (b8 p0 48), (b8 p0 56)] : List Int) == ([(73 : Int), (199 : Int), (192 : Int), p1, p2, p3, p4] : List Int)) then (k1) else (k2))) else False) else False))) else (bif (!((p0 == p0) && true)) then (k2) else (bif ((p0 == p0) && (((p0 == p0) && true) && true)) then (bif ((p0 == p0) && true) then (bif (decide (p0 ≥ (-2147483648 : Int))) then (bif (!(decide (p0 < (2147483648 : Int)))) then (bif (([(73 : Int), (184 : Int), (b8 p0 0), (b8 p0 8), (b8 p0 16), (b8 p0 24), (b8 p0 32), (b8 p0 40), (b8 p0 48), (b8 p0 56)] : List Int) == ([(73 : Int), (199 : Int), (192 : Int), p1, p2, p3, p4] : List Int)) then (k1) else (k2)) else (bif (([(73 : Int), (199 : Int), (192 : Int), (b8 p0 0), (b8 p0 8), (b8 p0 16), (b8 p0 24)] : List Int) == ([(73 : Int), (199 : Int), (192 : Int), p1, p2, p3, p4] : List Int)) then (k1) else (k2))) else (bif (([(73 : Int), (184 : Int), (b8 p0 0), (b8 p0 8), (b8 p0 16), (b8 p0 24), (b8 p0 32), (b8 p0 40), (b8 p0 48), (b8 p0 56)] : List Int) == ([(73 : Int), (199 : Int), (192 : Int), p1, p2, p3, p4] : List Int)) then (k1) else (k2))) else False) else False))) else (bif (!((p0 == p0) && true)) then (k2) else (bif ((p0 == p0) && (((p0 == p0) && true) && true)) then (bif ((p0 == p0) && true) then (bif (decide (p0 ≥ (-2147483648 : Int))) then (bif (!(decide (p0 < (2147483648 : Int)))) then (bif (([(73 : Int), (184 : Int), (b8 p0 0), (b8 p0 8), (b8 p0 16), (b8 p0 24), (b8 p0 32), (b8 p0 40), (b8 p0 48), (b8 p0 56)] : List Int) == ([(73 : Int), (199 : Int), (192 : Int), p1, p2, p3, p4] : List Int)) then (k1) else (k2)) else (bif (([(73 : Int), (199 : Int), (192 : Int), (b8 p0 0), (b8 p0 8), (b8 p0 16), (b8 p0 24)] : List Int) == ([(73 : Int), (199 : Int), (192 : Int), p1, p2, p3, p4] : List Int)) then (k1) else (k2))) else (bif (([(73 : Int), (184 : Int), (b8 p0 0), (b8 p0 8), (b8 p0 16), (b8 p0 24), (b8 p0 32), (b8 p0 40), (b8 p0 48), (b8 p0 56)] : List Int) == ([(73 : Int), (199 : Int), (192 : Int), p1, p2, p3, p4] : List Int)) then (k1) else (k2))) else False) else False)))
theorem F35_10_ok  (p0 : Int) (p1 : Int) (p2 : Int) (p3 : Int) (p4 : Int) (K : V → Mem → Prop) : cbody Tryz.prog C0 (fun _ => none) 1000 (fnOf Tryz.prog 35) [(.agg [(.I .i64 (1 : Int)), (.I .i64 (8 : Int)), (.I .i64 (0 : Int)), (.I .i64 (1 : Int)), (.I .i64 (8 : Int)), (.I .i64 (0 : Int)), (.I .i64 (0 : Int)), (.I .i64 (0 : Int)), (.B false), (.B false), (.I .i64 (0 : Int)), (.S ([] : List Int)), (.I .i64 (0 : Int)), (.I .i64 (2 : Int)), (.I .i64 (0 : Int)), (.I .i64 (0 : Int)), (.I .i64 (0 : Int)), (.I .i64 (0 : Int)), (.B false), (.B false), (.I .i64 p0), (.S ([] : List Int)), (.I .i64 (0 : Int)), (.B false)]), (.sl 0 (0 : Nat) (some (7 : Nat)) (none : Option Nat))] [⟨[.ints .u8 ([(73 : Int), (199 : Int), (192 : Int), p1, p2, p3, p4] : List Int)], 5, false, false⟩] K =
    F35_10  p0 p1 p2 p3 p4 (K (.B true) [⟨[.ints .u8 ([(73 : Int), (199 : Int), (192 : Int), p1, p2, p3, p4] : List Int)], 5, false, false⟩]) (K (.B false) [⟨[.ints .u8 ([(73 : Int), (199 : Int), (192 : Int), p1, p2, p3, p4] : List Int)], 5, false, false⟩]) := by kernel_rfl
def G35_10 : Y35_10 := F35_10 
def VT35_10 (f : Y35_10) (F : Prop) (args : List V) (m : Mem) (K : V → Mem → Prop) : Prop :=
  (seeCons args F fun a1 q2 => (seeAgg a1 F fun vs3 => (seeCons vs3 F fun a4 q5 => (seeV (.I .i64 (1 : Int)) a4 F (seeCons q5 F fun a6 q7 => (seeV (.I .i64 (8 : Int)) a6 F (seeCons q7 F fun a8 q9 => (seeV (.I .i64 (0 : Int)) a8 F (seeCons q9 F fun a10 q11 => (seeV (.I .i64 (1 : Int)) a10 F (seeCons q11 F fun a12 q13 => (seeV (.I .i64 (8 : Int)) a12 F (seeCons q13 F fun a14 q15 => (seeV (.I .i64 (0 : Int)) a14 F (seeCons q15 F fun a16 q17 => (seeV (.I .i64 (0 : Int)) a16 F (seeCons q17 F fun a18 q19 => (seeV (.I .i64 (0 : Int)) a18 F (seeCons q19 F fun a20 q21 => (seeV (.B false) a20 F (seeCons q21 F fun a22 q23 => (seeV (.B false) a22 F (seeCons q23 F fun a24 q25 => (seeV (.I .i64 (0 : Int)) a24 F (seeCons q25 F fun a26 q27 => (seeV (.S ([] : List Int)) a26 F (seeCons q27 F fun a28 q29 => (seeV (.I .i64 (0 : Int)) a28 F (seeCons q29 F fun a30 q31 => (seeV (.I .i64 (2 : Int)) a30 F (seeCons q31 F fun a32 q33 => (seeV (.I .i64 (0 : Int)) a32 F (seeCons q33 F fun a34 q35 => (seeV (.I .i64 (0 : Int)) a34 F (seeCons q35 F fun a36 q37 => (seeV (.I .i64 (0 : Int)) a36 F (seeCons q37 F fun a38 q39 => (seeV (.I .i64 (0 : Int)) a38 F (seeCons q39 F fun a40 q41 => (seeV (.B false) a40 F (seeCons q41 F fun a42 q43 => (seeV (.B false) a42 F (seeCons q43 F fun a44 q45 => (seeI .i64 a44 F fun p0 => (seeCons q45 F fun a46 q47 => (seeV (.S ([] : List Int)) a46 F (seeCons q47 F fun a48 q49 => (seeV (.I .i64 (0 : Int)) a48 F (seeCons q49 F fun a50 q51 => (seeV (.B false) a50 F (seeNil q51 F (seeCons q2 F fun a52 q53 => (seeV (.sl 0 (0 : Nat) (some (7 : Nat)) (none : Option Nat)) a52 F (seeNil q53 F (seeCons m F fun a54 q55 => (seeBlk 5 false false a54 F fun cs56 => (seeCons cs56 F fun a57 q58 => (seeInts .u8 a57 F fun xs59 => (seeCons xs59 F fun a60 q61 => (seeZ (73 : Int) a60 F (seeCons q61 F fun a62 q63 => (seeZ (199 : Int) a62 F (seeCons q63 F fun a64 q65 => (seeZ (192 : Int) a64 F (seeCons q65 F fun a66 q67 => (seeId a66 fun p1 => (seeCons q67 F fun a68 q69 => (seeId a68 fun p2 => (seeCons q69 F fun a70 q71 => (seeId a70 fun p3 => (seeCons q71 F fun a72 q73 => (seeId a72 fun p4 => (seeNil q73 F (seeNil q58 F (seeNil q55 F (f p0 p1 p2 p3 p4 (K (.B true) [⟨[.ints .u8 ([(73 : Int), (199 : Int), (192 : Int), p1, p2, p3, p4] : List Int)], 5, false, false⟩]) (K (.B false) [⟨[.ints .u8 ([(73 : Int), (199 : Int), (192 : Int), p1, p2, p3, p4] : List Int)], 5, false, false⟩])))))))))))))))))))))))))))))))))))))))))))))))))))))))))))))))))))))))))))))
def T35_10 (f : Y35_10) (C : CC) : CC := fun g args m K =>
  match Nat.beq g 35 with
  | true => VT35_10 f (C g args m K) args m K
  | false => C g args m K
set_option maxRecDepth 100000 in
theorem T35_10_ok {C : CC} (hC : CallsOk Tryz.prog C) : CallsOk Tryz.prog (T35_10 G35_10 C) := by
  intro g args m K E w cargs hS ha h
  unfold T35_10 at h
  split at h
  · rename_i hg
    obtain rfl := Nat.eq_of_beq_eq_true hg
    unfold VT35_10 at h
    replace h := seeCons_use h
    rcases h with h | ⟨a1, q2, rfl, h⟩
    · exact hC _ _ _ _ _ _ _ hS ha h
    replace h := seeAgg_use h
    rcases h with h | ⟨vs3, rfl, h⟩
    · exact hC _ _ _ _ _ _ _ hS ha h
    replace h := seeCons_use h
    rcases h with h | ⟨a4, q5, rfl, h⟩
    · exact hC _ _ _ _ _ _ _ hS ha h
    replace h := seeV_use h
    rcases h with h | ⟨rfl, h⟩
    · exact hC _ _ _ _ _ _ _ hS ha h
    replace h := seeCons_use h
    rcases h with h | ⟨a6, q7, rfl, h⟩
    · exact hC _ _ _ _ _ _ _ hS ha h
    replace h := seeV_use h
    rcases h with h | ⟨rfl, h⟩
    · exact hC _ _ _ _ _ _ _ hS ha h
    replace h := seeCons_use h
    rcases h with h | ⟨a8, q9, rfl, h⟩
    · exact hC _ _ _ _ _ _ _ hS ha h
    replace h := seeV_use h
    rcases h with h | ⟨rfl, h⟩
    · exact hC _ _ _ _ _ _ _ hS ha h
    replace h := seeCons_use h
    rcases h with h | ⟨a10, q11, rfl, h⟩
    · exact hC _ _ _ _ _ _ _ hS ha h
    replace h := seeV_use h
    rcases h with h | ⟨rfl, h⟩
    · exact hC _ _ _ _ _ _ _ hS ha h
    replace h := seeCons_use h
    rcases h with h | ⟨a12, q13, rfl, h⟩
    · exact hC _ _ _ _ _ _ _ hS ha h
    replace h := seeV_use h
    rcases h with h | ⟨rfl, h⟩
    · exact hC _ _ _ _ _ _ _ hS ha h
    replace h := seeCons_use h
    rcases h with h | ⟨a14, q15, rfl, h⟩
    · exact hC _ _ _ _ _ _ _ hS ha h
    replace h := seeV_use h
    rcases h with h | ⟨rfl, h⟩
    · exact hC _ _ _ _ _ _ _ hS ha h
    replace h := seeCons_use h
    rcases h with h | ⟨a16, q17, rfl, h⟩
    · exact hC _ _ _ _ _ _ _ hS ha h
    replace h := seeV_use h
    rcases h with h | ⟨rfl, h⟩
    · exact hC _ _ _ _ _ _ _ hS ha h
    replace h := seeCons_use h
    rcases h with h | ⟨a18, q19, rfl, h⟩
    · exact hC _ _ _ _ _ _ _ hS ha h
    replace h := seeV_use h
    rcases h with h | ⟨rfl, h⟩
    · exact hC _ _ _ _ _ _ _ hS ha h
    replace h := seeCons_use h
    rcases h with h | ⟨a20, q21, rfl, h⟩
    · exact hC _ _ _ _ _ _ _ hS ha h
    replace h := seeV_use h
    rcases h with h | ⟨rfl, h⟩
    · exact hC _ _ _ _ _ _ _ hS ha h
    replace h := seeCons_use h
    rcases h with h | ⟨a22, q23, rfl, h⟩
    · exact hC _ _ _ _ _ _ _ hS ha h
    replace h := seeV_use h
    rcases h with h | ⟨rfl, h⟩
    · exact hC _ _ _ _ _ _ _ hS ha h
    replace h := seeCons_use h
    rcases h with h | ⟨a24, q25, rfl, h⟩
    · exact hC _ _ _ _ _ _ _ hS ha h
    replace h := seeV_use h
    rcases h with h | ⟨rfl, h⟩
    · exact hC _ _ _ _ _ _ _ hS ha h
    replace h := seeCons_use h
    rcases h with h | ⟨a26, q27, rfl, h⟩
    · exact hC _ _ _ _ _ _ _ hS ha h
    replace h := seeV_use h
    rcases h with h | ⟨rfl, h⟩
    · exact hC _ _ _ _ _ _ _ hS ha h
    replace h := seeCons_use h
    rcases h with h | ⟨a28, q29, rfl, h⟩
    · exact hC _ _ _ _ _ _ _ hS ha h
    replace h := seeV_use h
    rcases h with h | ⟨rfl, h⟩
    · exact hC _ _ _ _ _ _ _ hS ha h
    replace h := seeCons_use h
    rcases h with h | ⟨a30, q31, rfl, h⟩
    · exact hC _ _ _ _ _ _ _ hS ha h
    replace h := seeV_use h
    rcases h with h | ⟨rfl, h⟩
    · exact hC _ _ _ _ _ _ _ hS ha h
    replace h := seeCons_use h
    rcases h with h | ⟨a32, q33, rfl, h⟩
    · exact hC _ _ _ _ _ _ _ hS ha h
    replace h := seeV_use h
    rcases h with h | ⟨rfl, h⟩
    · exact hC _ _ _ _ _ _ _ hS ha h
    replace h := seeCons_use h
    rcases h with h | ⟨a34, q35, rfl, h⟩
    · exact hC _ _ _ _ _ _ _ hS ha h
    replace h := seeV_use h
    rcases h with h | ⟨rfl, h⟩
    · exact hC _ _ _ _ _ _ _ hS ha h
    replace h := seeCons_use h
    rcases h with h | ⟨a36, q37, rfl, h⟩
    · exact hC _ _ _ _ _ _ _ hS ha h
    replace h := seeV_use h
    rcases h with h | ⟨rfl, h⟩
    · exact hC _ _ _ _ _ _ _ hS ha h
    replace h := seeCons_use h
    rcases h with h | ⟨a38, q39, rfl, h⟩
    · exact hC _ _ _ _ _ _ _ hS ha h
    replace h := seeV_use h
    rcases h with h | ⟨rfl, h⟩
    · exact hC _ _ _ _ _ _ _ hS ha h
    replace h := seeCons_use h
    rcases h with h | ⟨a40, q41, rfl, h⟩
    · exact hC _ _ _ _ _ _ _ hS ha h
    replace h := seeV_use h
    rcases h with h | ⟨rfl, h⟩
    · exact hC _ _ _ _ _ _ _ hS ha h
    replace h := seeCons_use h
    rcases h with h | ⟨a42, q43, rfl, h⟩
    · exact hC _ _ _ _ _ _ _ hS ha h
    replace h := seeV_use h
    rcases h with h | ⟨rfl, h⟩
    · exact hC _ _ _ _ _ _ _ hS ha h
    replace h := seeCons_use h
    rcases h with h | ⟨a44, q45, rfl, h⟩
    · exact hC _ _ _ _ _ _ _ hS ha h
    replace h := seeI_use h
    rcases h with h | ⟨p0, rfl, h⟩
    · exact hC _ _ _ _ _ _ _ hS ha h
    replace h := seeCons_use h
    rcases h with h | ⟨a46, q47, rfl, h⟩
    · exact hC _ _ _ _ _ _ _ hS ha h
    replace h := seeV_use h
    rcases h with h | ⟨rfl, h⟩
    · exact hC _ _ _ _ _ _ _ hS ha h
    replace h := seeCons_use h
    rcases h with h | ⟨a48, q49, rfl, h⟩
    · exact hC _ _ _ _ _ _ _ hS ha h
    replace h := seeV_use h
    rcases h with h | ⟨rfl, h⟩
    · exact hC _ _ _ _ _ _ _ hS ha h
    replace h := seeCons_use h
    rcases h with h | ⟨a50, q51, rfl, h⟩
    · exact hC _ _ _ _ _ _ _ hS ha h
    replace h := seeV_use h
    rcases h with h | ⟨rfl, h⟩
    · exact hC _ _ _ _ _ _ _ hS ha h
    replace h := seeNil_use h
    rcases h with h | ⟨rfl, h⟩
    · exact hC _ _ _ _ _ _ _ hS ha h
    replace h := seeCons_use h
    rcases h with h | ⟨a52, q53, rfl, h⟩
    · exact hC _ _ _ _ _ _ _ hS ha h
    replace h := seeV_use h
    rcases h with h | ⟨rfl, h⟩
    · exact hC _ _ _ _ _ _ _ hS ha h
    replace h := seeNil_use h
    rcases h with h | ⟨rfl, h⟩
    · exact hC _ _ _ _ _ _ _ hS ha h
    replace h := seeCons_use h
    rcases h with h | ⟨a54, q55, rfl, h⟩
    · exact hC _ _ _ _ _ _ _ hS ha h
    replace h := seeBlk_use h
    rcases h with h | ⟨cs56, rfl, h⟩
    · exact hC _ _ _ _ _ _ _ hS ha h
    replace h := seeCons_use h
    rcases h with h | ⟨a57, q58, rfl, h⟩
    · exact hC _ _ _ _ _ _ _ hS ha h
    replace h := seeInts_use h
    rcases h with h | ⟨xs59, rfl, h⟩
    · exact hC _ _ _ _ _ _ _ hS ha h
    replace h := seeCons_use h
    rcases h with h | ⟨a60, q61, rfl, h⟩
    · exact hC _ _ _ _ _ _ _ hS ha h
    replace h := seeZ_use h
    rcases h with h | ⟨rfl, h⟩
    · exact hC _ _ _ _ _ _ _ hS ha h
    replace h := seeCons_use h
    rcases h with h | ⟨a62, q63, rfl, h⟩
    · exact hC _ _ _ _ _ _ _ hS ha h
    replace h := seeZ_use h
    rcases h with h | ⟨rfl, h⟩
    · exact hC _ _ _ _ _ _ _ hS ha h
    replace h := seeCons_use h
    rcases h with h | ⟨a64, q65, rfl, h⟩
    · exact hC _ _ _ _ _ _ _ hS ha h
    replace h := seeZ_use h
    rcases h with h | ⟨rfl, h⟩
    · exact hC _ _ _ _ _ _ _ hS ha h
    replace h := seeCons_use h
    rcases h with h | ⟨a66, q67, rfl, h⟩
    · exact hC _ _ _ _ _ _ _ hS ha h
    replace h := seeId_use h
    obtain ⟨p1, rfl, h⟩ := h
    replace h := seeCons_use h
    rcases h with h | ⟨a68, q69, rfl, h⟩
    · exact hC _ _ _ _ _ _ _ hS ha h
    replace h := seeId_use h
    obtain ⟨p2, rfl, h⟩ := h
    replace h := seeCons_use h
    rcases h with h | ⟨a70, q71, rfl, h⟩
    · exact hC _ _ _ _ _ _ _ hS ha h
    replace h := seeId_use h
    obtain ⟨p3, rfl, h⟩ := h
    replace h := seeCons_use h
    rcases h with h | ⟨a72, q73, rfl, h⟩
    · exact hC _ _ _ _ _ _ _ hS ha h
    replace h := seeId_use h
    obtain ⟨p4, rfl, h⟩ := h
    replace h := seeNil_use h
    rcases h with h | ⟨rfl, h⟩
    · exact hC _ _ _ _ _ _ _ hS ha h
    replace h := seeNil_use h
    rcases h with h | ⟨rfl, h⟩
    · exact hC _ _ _ _ _ _ _ hS ha h
    replace h := seeNil_use h
    rcases h with h | ⟨rfl, h⟩
    · exact hC _ _ _ _ _ _ _ hS ha h
    exact cbody_use named C0_ok at35_35_10 (l := 1) rfl (LoopsOk.none _ _) (F35_10_ok  p0 p1 p2 p3 p4 K) hS ha h
  · exact hC _ _ _ _ _ _ _ hS ha h
def prims_11 (f33_10 : Y33_10) (f35_10 : Y35_10) : Prims := fun f =>
  match Nat.beq f 33 with
  | true => some fun args m K => (T33_10 f33_10 C0) 33 args m K
  | false =>
  match Nat.beq f 35 with
  | true => some fun args m K => (T35_10 f35_10 C0) 35 args m K
  | false => prims1 f
theorem prims_11_ok : PrimsOk Tryz.prog (prims_11 G33_10 G35_10) := by
  intro f g hg
  unfold prims_11 at hg
  split at hg
  · rename_i hf
    obtain rfl := Nat.eq_of_beq_eq_true hf
    cases hg
    intro args m K E w cargs hS ha h
    exact (T33_10_ok C0_ok) _ _ _ _ _ _ _ hS ha h
  · skip
    split at hg
    · rename_i hf
      obtain rfl := Nat.eq_of_beq_eq_true hf
      cases hg
      intro args m K E w cargs hS ha h
      exact (T35_10_ok C0_ok) _ _ _ _ _ _ _ hS ha h
    · skip
      exact prims1_ok f g hg
def C_11 (f33_10 : Y33_10) (f35_10 : Y35_10) : CC := callD Tryz.prog (prims_11 f33_10 f35_10) 1000
theorem C_11_ok : CallsOk Tryz.prog (C_11 G33_10 G35_10) := callD_sound named prims_11_ok 1000
def F_11 (f33_10 : Y33_10) (f35_10 : Y35_10) (o : Int) (K : V → Mem → Prop) : Prop :=
  (bif (decide (o ≥ (-2147483648 : Int))) then (bif (!(decide (o < (2147483648 : Int)))) then (K (.B false) []) else (bif (decide (o < (-2147483648 : Int))) then False else (bif (decide (o ≥ (4294967296 : Int))) then False else (f33_10 (b8 o 0) (b8 o 8) (b8 o 16) (b8 o 24) (fun (n1 : Int) => (f35_10 n1 (b8 o 0) (b8 o 8) (b8 o 16) (b8 o 24) ((K (.B (n1 == o)) [])) ((K (.B false) [])))))))) else (K (.B false) []))
theorem run_11 (f33_10 : Y33_10) (f35_10 : Y35_10) (o : Int) (j17 j18 j19 j20 j21 j22 j23 j24 j25 j26 j27 j28 j29 : V) (K : V → Mem → Prop) : cexec Tryz.prog (C_11 f33_10 f35_10) (fun _ => none) 0 1000 LawX (setsE [(0, (.I .i64 (3 : Int))), (1, (.I .i64 (8 : Int))), (2, (.I .i64 o)), (6, (.B false)), (17, j17), (18, j18), (19, j19), (20, j20), (21, j21), (22, j22), (23, j23), (24, j24), (25, j25), (26, j26), (27, j27), (28, j28), (29, j29)] (Tr.full (.tup []) 193 193)) [] (kbody Tryz.prog 0 (fnOf Tryz.prog 3) K) = F_11 f33_10 f35_10 o K := by kernel_rfl
theorem g33_10 (p0 p1 p2 p3 : Int) (k : Int → Prop) : G33_10 p0 p1 p2 p3 k = k (rd p0 p1 p2 p3) := by kernel_rfl
theorem w35_10 {d : Int} {k1 k2 : Prop} (h1 : -2147483648 ≤ d) (h2 : d < 2147483648) (h : k1) : G35_10 d (b8 d 0) (b8 d 8) (b8 d 16) (b8 d 24) k1 k2 := by
  have e1 : decide (d ≥ -2147483648) = true := decide_eq_true h1
  have e2 : decide (d < 2147483648) = true := decide_eq_true h2
  unfold G35_10 F35_10
  simp only [e1, e2, beq_self_eq_true, Bool.and_true, Bool.and_self, Bool.not_true, cond_true, cond_false]
  exact h
theorem a11 {o : Int} (K : V → Mem → Prop) (h1 : -2147483648 ≤ o) (h2 : o < 2147483648) (f33 : Y33_10) (f35 : Y35_10)
  (h : f33 (b8 o 0) (b8 o 8) (b8 o 16) (b8 o 24) (fun n1 => f35 n1 (b8 o 0) (b8 o 8) (b8 o 16) (b8 o 24) (K (.B (n1 == o)) []) (K (.B false) []))) : F_11 f33 f35 o K := by
  have e1 : decide (o ≥ -2147483648) = true := decide_eq_true h1
  have e2 : decide (o < 2147483648) = true := decide_eq_true h2
  have e3 : decide (o < -2147483648) = false := decide_eq_false (by omega)
  have e4 : decide (o ≥ 4294967296) = false := decide_eq_false (by omega)
  unfold F_11
  simp only [e1, e2, e3, e4, Bool.not_true, cond_true, cond_false]
  exact h
theorem b11 {o : Int} {K : V → Mem → Prop} (h1 : -2147483648 ≤ o) (h2 : o < 2147483648) (h : K (.B true) []) : G33_10 (b8 o 0) (b8 o 8) (b8 o 16) (b8 o 24) (fun n1 => G35_10 n1 (b8 o 0) (b8 o 8) (b8 o 16) (b8 o 24) (K (.B (n1 == o)) []) (K (.B false) [])) := by
  refine Eq.mpr (g33_10 _ _ _ _ _) ?_
  refine Eq.mpr (congrArg (fun n1 => G35_10 n1 (b8 o 0) (b8 o 8) (b8 o 16) (b8 o 24) (K (.B (n1 == o)) []) (K (.B false) [])) (rd_ok h1 h2)) ?_
  exact w35_10 h1 h2 (Eq.mpr (congrArg (fun b => K (.B b) []) (beq_self_eq_true o)) h)
theorem t11 {o : Int} {K : V → Mem → Prop} (h1 : -2147483648 ≤ o) (h2 : o < 2147483648) (h : K (.B true) []) : F_11 G33_10 G35_10 o K :=
  a11 K h1 h2 _ _ (b11 h1 h2 h)
end Go.Proofs.YtgdmellcbgalaaaGreatDoor.tlb
