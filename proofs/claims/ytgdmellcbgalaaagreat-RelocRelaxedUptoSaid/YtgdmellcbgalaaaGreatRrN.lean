import Derived.Test.YtgdmellcbgalaaaGreatRr0
set_option linter.unusedVariables false
set_option linter.unusedSimpArgs false
set_option maxHeartbeats 4000000
set_option maxRecDepth 100000
namespace Go.Proofs.YtgdmellcbgalaaaGreat.rrx
open Go Go.Ab
theorem at104 : Tryz.prog.funcs[104]? = some (fnOf Tryz.prog 104) := by kernel_rfl
abbrev Y104 : Type := Int → List Int → (Int → Prop) → Prop
set_option maxHeartbeats 4000000 in
set_option maxRecDepth 100000 in
def F104  (rex : Int) (xs : List Int) (k1 : Int → Prop) : Prop :=
  (bif (decide ((3 : Int) ≥ ((((List.length xs) - (0 : Nat)) : Nat) : Int))) then False else (bif (decide ((3 : Int) < ((((List.length xs) - (0 : Nat)) : Nat) : Int))) then (bif (decide ((4 : Int) ≥ ((((List.length xs) - (0 : Nat)) : Nat) : Int))) then False else (bif (decide ((4 : Int) < ((((List.length xs) - (0 : Nat)) : Nat) : Int))) then (bif (decide ((5 : Int) ≥ ((((List.length xs) - (0 : Nat)) : Nat) : Int))) then False else (bif (decide ((5 : Int) < ((((List.length xs) - (0 : Nat)) : Nat) : Int))) then (bif (decide ((6 : Int) ≥ ((((List.length xs) - (0 : Nat)) : Nat) : Int))) then False else (bif (decide ((6 : Int) < ((((List.length xs) - (0 : Nat)) : Nat) : Int))) then (k1 (Int.fdiv (IntKind.wrap .i64 (IntKind.wrap .u64 ((ibits .or .u64 (ibits .or .u64 (ibits .or .u64 (ibits .or .u64 (0 : Int) (IntKind.wrap .u64 ((IntKind.wrap .u64 (IntKind.wrap .i64 (List.getD xs (3 : Nat) (0 : Int)))) * 2 ^ 0))) (IntKind.wrap .u64 ((IntKind.wrap .u64 (IntKind.wrap .i64 (List.getD xs (4 : Nat) (0 : Int)))) * 2 ^ 8))) (IntKind.wrap .u64 ((IntKind.wrap .u64 (IntKind.wrap .i64 (List.getD xs (5 : Nat) (0 : Int)))) * 2 ^ 16))) (IntKind.wrap .u64 ((IntKind.wrap .u64 (IntKind.wrap .i64 (List.getD xs (6 : Nat) (0 : Int)))) * 2 ^ 24))) * 2 ^ 32))) (2 ^ 32))) else False)) else False)) else False)) else False))
theorem F104_ok  (rex : Int) (xs : List Int) (K : V → Mem → Prop) : cbody Tryz.prog C0 (fun _ => none) 1000 (fnOf Tryz.prog 104) [(.ptr 0 (0 : Nat) 0), (.I .i64 (4 : Int))] [⟨[.vals [(.sl 1 (0 : Nat) (none : Option Nat) (none : Option Nat))], .ints .i64 ([(3 : Int)] : List Int), .bools ([false] : List Bool), .ints .i64 ([rex] : List Int), .ints .i64 ([(1 : Int)] : List Int)], 61, false, false⟩, ⟨[.ints .u8 xs], 5, true, false⟩] K =
    F104  rex xs (fun (u0 : Int) => K (.I .i64 u0) [⟨[.vals [(.sl 1 (0 : Nat) (none : Option Nat) (none : Option Nat))], .ints .i64 ([(7 : Int)] : List Int), .bools ([false] : List Bool), .ints .i64 ([rex] : List Int), .ints .i64 ([(3 : Int)] : List Int)], 61, false, false⟩, ⟨[.ints .u8 xs], 5, true, false⟩]) := by kernel_rfl
def G104 : Y104 := F104 
def VT104 (f : Y104) (F : Prop) (args : List V) (m : Mem) (K : V → Mem → Prop) : Prop :=
  (seeCons args F fun a1 q2 => (seeV (.ptr 0 (0 : Nat) 0) a1 F (seeCons q2 F fun a3 q4 => (seeV (.I .i64 (4 : Int)) a3 F (seeNil q4 F (seeCons m F fun a5 q6 => (seeBlk 61 false false a5 F fun cs7 => (seeCons cs7 F fun a8 q9 => (seeVals a8 F fun xs10 => (seeCons xs10 F fun a11 q12 => (seeV (.sl 1 (0 : Nat) (none : Option Nat) (none : Option Nat)) a11 F (seeNil q12 F (seeCons q9 F fun a13 q14 => (seeInts .i64 a13 F fun xs15 => (seeX ([(3 : Int)] : List Int) xs15 F (seeCons q14 F fun a16 q17 => (seeBools a16 F fun xs18 => (seeCons xs18 F fun a19 q20 => (seeT false a19 F (seeNil q20 F (seeCons q17 F fun a21 q22 => (seeInts .i64 a21 F fun xs23 => (seeCons xs23 F fun a24 q25 => (seeId a24 fun rex => (seeNil q25 F (seeCons q22 F fun a26 q27 => (seeInts .i64 a26 F fun xs28 => (seeX ([(1 : Int)] : List Int) xs28 F (seeNil q27 F (seeCons q6 F fun a29 q30 => (seeBlk 5 true false a29 F fun cs31 => (seeCons cs31 F fun a32 q33 => (seeInts .u8 a32 F fun xs => (seeNil q33 F (seeNil q30 F (f rex xs (fun (u0 : Int) => K (.I .i64 u0) [⟨[.vals [(.sl 1 (0 : Nat) (none : Option Nat) (none : Option Nat))], .ints .i64 ([(7 : Int)] : List Int), .bools ([false] : List Bool), .ints .i64 ([rex] : List Int), .ints .i64 ([(3 : Int)] : List Int)], 61, false, false⟩, ⟨[.ints .u8 xs], 5, true, false⟩])))))))))))))))))))))))))))))))))))))
def T104 (f : Y104) (C : CC) : CC := fun g args m K =>
  match Nat.beq g 104 with
  | true => VT104 f (C g args m K) args m K
  | false => C g args m K
set_option maxRecDepth 100000 in
theorem T104_ok {C : CC} (hC : CallsOk Tryz.prog C) : CallsOk Tryz.prog (T104 G104 C) := by
  intro g args m K E w cargs hS ha h
  unfold T104 at h
  split at h
  · rename_i hg
    obtain rfl := Nat.eq_of_beq_eq_true hg
    unfold VT104 at h
    replace h := seeCons_use h
    rcases h with h | ⟨a1, q2, rfl, h⟩
    · exact hC _ _ _ _ _ _ _ hS ha h
    replace h := seeV_use h
    rcases h with h | ⟨rfl, h⟩
    · exact hC _ _ _ _ _ _ _ hS ha h
    replace h := seeCons_use h
    rcases h with h | ⟨a3, q4, rfl, h⟩
    · exact hC _ _ _ _ _ _ _ hS ha h
    replace h := seeV_use h
    rcases h with h | ⟨rfl, h⟩
    · exact hC _ _ _ _ _ _ _ hS ha h
    replace h := seeNil_use h
    rcases h with h | ⟨rfl, h⟩
    · exact hC _ _ _ _ _ _ _ hS ha h
    replace h := seeCons_use h
    rcases h with h | ⟨a5, q6, rfl, h⟩
    · exact hC _ _ _ _ _ _ _ hS ha h
    replace h := seeBlk_use h
    rcases h with h | ⟨cs7, rfl, h⟩
    · exact hC _ _ _ _ _ _ _ hS ha h
    replace h := seeCons_use h
    rcases h with h | ⟨a8, q9, rfl, h⟩
    · exact hC _ _ _ _ _ _ _ hS ha h
    replace h := seeVals_use h
    rcases h with h | ⟨xs10, rfl, h⟩
    · exact hC _ _ _ _ _ _ _ hS ha h
    replace h := seeCons_use h
    rcases h with h | ⟨a11, q12, rfl, h⟩
    · exact hC _ _ _ _ _ _ _ hS ha h
    replace h := seeV_use h
    rcases h with h | ⟨rfl, h⟩
    · exact hC _ _ _ _ _ _ _ hS ha h
    replace h := seeNil_use h
    rcases h with h | ⟨rfl, h⟩
    · exact hC _ _ _ _ _ _ _ hS ha h
    replace h := seeCons_use h
    rcases h with h | ⟨a13, q14, rfl, h⟩
    · exact hC _ _ _ _ _ _ _ hS ha h
    replace h := seeInts_use h
    rcases h with h | ⟨xs15, rfl, h⟩
    · exact hC _ _ _ _ _ _ _ hS ha h
    replace h := seeX_use h
    rcases h with h | ⟨rfl, h⟩
    · exact hC _ _ _ _ _ _ _ hS ha h
    replace h := seeCons_use h
    rcases h with h | ⟨a16, q17, rfl, h⟩
    · exact hC _ _ _ _ _ _ _ hS ha h
    replace h := seeBools_use h
    rcases h with h | ⟨xs18, rfl, h⟩
    · exact hC _ _ _ _ _ _ _ hS ha h
    replace h := seeCons_use h
    rcases h with h | ⟨a19, q20, rfl, h⟩
    · exact hC _ _ _ _ _ _ _ hS ha h
    replace h := seeT_use h
    rcases h with h | ⟨rfl, h⟩
    · exact hC _ _ _ _ _ _ _ hS ha h
    replace h := seeNil_use h
    rcases h with h | ⟨rfl, h⟩
    · exact hC _ _ _ _ _ _ _ hS ha h
    replace h := seeCons_use h
    rcases h with h | ⟨a21, q22, rfl, h⟩
    · exact hC _ _ _ _ _ _ _ hS ha h
    replace h := seeInts_use h
    rcases h with h | ⟨xs23, rfl, h⟩
    · exact hC _ _ _ _ _ _ _ hS ha h
    replace h := seeCons_use h
    rcases h with h | ⟨a24, q25, rfl, h⟩
    · exact hC _ _ _ _ _ _ _ hS ha h
    replace h := seeId_use h
    obtain ⟨rex, rfl, h⟩ := h
    replace h := seeNil_use h
    rcases h with h | ⟨rfl, h⟩
    · exact hC _ _ _ _ _ _ _ hS ha h
    replace h := seeCons_use h
    rcases h with h | ⟨a26, q27, rfl, h⟩
    · exact hC _ _ _ _ _ _ _ hS ha h
    replace h := seeInts_use h
    rcases h with h | ⟨xs28, rfl, h⟩
    · exact hC _ _ _ _ _ _ _ hS ha h
    replace h := seeX_use h
    rcases h with h | ⟨rfl, h⟩
    · exact hC _ _ _ _ _ _ _ hS ha h
    replace h := seeNil_use h
    rcases h with h | ⟨rfl, h⟩
    · exact hC _ _ _ _ _ _ _ hS ha h
    replace h := seeCons_use h
    rcases h with h | ⟨a29, q30, rfl, h⟩
    · exact hC _ _ _ _ _ _ _ hS ha h
    replace h := seeBlk_use h
    rcases h with h | ⟨cs31, rfl, h⟩
    · exact hC _ _ _ _ _ _ _ hS ha h
    replace h := seeCons_use h
    rcases h with h | ⟨a32, q33, rfl, h⟩
    · exact hC _ _ _ _ _ _ _ hS ha h
    replace h := seeInts_use h
    rcases h with h | ⟨xs, rfl, h⟩
    · exact hC _ _ _ _ _ _ _ hS ha h
    replace h := seeNil_use h
    rcases h with h | ⟨rfl, h⟩
    · exact hC _ _ _ _ _ _ _ hS ha h
    replace h := seeNil_use h
    rcases h with h | ⟨rfl, h⟩
    · exact hC _ _ _ _ _ _ _ hS ha h
    exact cbody_use named C0_ok at104 (l := 2) rfl (LoopsOk.none _ _) (F104_ok  rex xs K) hS ha h
  · exact hC _ _ _ _ _ _ _ hS ha h
def primsN (f104 : Y104) : Prims := fun f =>
  match Nat.beq f 104 with
  | true => some fun args m K => (T104 f104 C0) 104 args m K
  | false => prims0 f
theorem primsN_ok : PrimsOk Tryz.prog (primsN G104) := by
  intro f g hg
  unfold primsN at hg
  split at hg
  · rename_i hf
    obtain rfl := Nat.eq_of_beq_eq_true hf
    cases hg
    intro args m K E w cargs hS ha h
    exact (T104_ok C0_ok) _ _ _ _ _ _ _ hS ha h
  · exact prims0_ok f g hg
def CN (f104 : Y104) : CC := callD Tryz.prog (primsN f104) 1000
theorem CN_ok : CallsOk Tryz.prog (CN G104) := callD_sound named primsN_ok 1000
end Go.Proofs.YtgdmellcbgalaaaGreat.rrx
