import Derived.Test.YtjciabbnncidjaaGreatLn1
set_option linter.unusedVariables false
set_option linter.unusedSimpArgs false
set_option maxHeartbeats 4000000
set_option maxRecDepth 100000
namespace Go.Proofs.YtjciabbnncidjaaGreat.ln
open Go Go.Ab
theorem at16 : Tryz.prog.funcs[16]? = some (fnOf Tryz.prog 16) := by kernel_rfl
def A16_0 : List V := [(.sl 0 (0 : Nat) (none : Option Nat) (none : Option Nat))]
def M16_0 : Mem := [⟨[.ints .u8 (([(127 : Int), (69 : Int), (76 : Int), (70 : Int), (2 : Int), (1 : Int), (1 : Int), (0 : Int), (0 : Int), (0 : Int), (0 : Int), (0 : Int), (0 : Int), (0 : Int), (0 : Int), (0 : Int), (3 : Int), (0 : Int), (62 : Int), (0 : Int), (1 : Int), (0 : Int), (0 : Int), (0 : Int), (0 : Int), (16 : Int), (0 : Int), (0 : Int), (0 : Int), (0 : Int), (0 : Int), (0 : Int), (64 : Int), (0 : Int), (0 : Int), (0 : Int), (0 : Int), (0 : Int), (0 : Int), (0 : Int), (0 : Int), (0 : Int), (0 : Int), (0 : Int), (0 : Int), (0 : Int), (0 : Int), (0 : Int), (0 : Int), (0 : Int), (0 : Int), (0 : Int), (64 : Int), (0 : Int), (56 : Int), (0 : Int), (1 : Int), (0 : Int), (64 : Int), (0 : Int), (0 : Int), (0 : Int), (0 : Int), (0 : Int), (1 : Int), (0 : Int), (0 : Int), (0 : Int), (5 : Int), (0 : Int), (0 : Int), (0 : Int), (0 : Int), (16 : Int), (0 : Int), (0 : Int), (0 : Int), (0 : Int), (0 : Int), (0 : Int), (0 : Int), (16 : Int), (0 : Int), (0 : Int), (0 : Int), (0 : Int), (0 : Int), (0 : Int), (0 : Int), (16 : Int), (0 : Int), (0 : Int), (0 : Int), (0 : Int), (0 : Int), (0 : Int), (12 : Int), (0 : Int), (0 : Int), (0 : Int), (0 : Int), (0 : Int), (0 : Int), (0 : Int), (12 : Int), (0 : Int), (0 : Int), (0 : Int), (0 : Int), (0 : Int), (0 : Int), (0 : Int), (0 : Int), (16 : Int)] : List Int) ++ List.replicate 3982 (0 : Int) ++ ([(191 : Int), (7 : Int), (0 : Int), (0 : Int), (0 : Int), (184 : Int), (60 : Int), (0 : Int), (0 : Int), (0 : Int), (15 : Int), (5 : Int)] : List Int))], 5, false, false⟩]
def R16_0 : V := (.tup [(.agg [(.I .i64 (4096 : Int)), (.sl 1 (0 : Nat) (none : Option Nat) (none : Option Nat)), (.sl 2 (0 : Nat) (none : Option Nat) (none : Option Nat))]), (.I .i64 (0 : Int))])
def N16_0 : Mem := [⟨[.ints .u8 (([(127 : Int), (69 : Int), (76 : Int), (70 : Int), (2 : Int), (1 : Int), (1 : Int), (0 : Int), (0 : Int), (0 : Int), (0 : Int), (0 : Int), (0 : Int), (0 : Int), (0 : Int), (0 : Int), (3 : Int), (0 : Int), (62 : Int), (0 : Int), (1 : Int), (0 : Int), (0 : Int), (0 : Int), (0 : Int), (16 : Int), (0 : Int), (0 : Int), (0 : Int), (0 : Int), (0 : Int), (0 : Int), (64 : Int), (0 : Int), (0 : Int), (0 : Int), (0 : Int), (0 : Int), (0 : Int), (0 : Int), (0 : Int), (0 : Int), (0 : Int), (0 : Int), (0 : Int), (0 : Int), (0 : Int), (0 : Int), (0 : Int), (0 : Int), (0 : Int), (0 : Int), (64 : Int), (0 : Int), (56 : Int), (0 : Int), (1 : Int), (0 : Int), (64 : Int), (0 : Int), (0 : Int), (0 : Int), (0 : Int), (0 : Int), (1 : Int), (0 : Int), (0 : Int), (0 : Int), (5 : Int), (0 : Int), (0 : Int), (0 : Int), (0 : Int), (16 : Int), (0 : Int), (0 : Int), (0 : Int), (0 : Int), (0 : Int), (0 : Int), (0 : Int), (16 : Int), (0 : Int), (0 : Int), (0 : Int), (0 : Int), (0 : Int), (0 : Int), (0 : Int), (16 : Int), (0 : Int), (0 : Int), (0 : Int), (0 : Int), (0 : Int), (0 : Int), (12 : Int), (0 : Int), (0 : Int), (0 : Int), (0 : Int), (0 : Int), (0 : Int), (0 : Int), (12 : Int), (0 : Int), (0 : Int), (0 : Int), (0 : Int), (0 : Int), (0 : Int), (0 : Int), (0 : Int), (16 : Int)] : List Int) ++ List.replicate 3982 (0 : Int) ++ ([(191 : Int), (7 : Int), (0 : Int), (0 : Int), (0 : Int), (184 : Int), (60 : Int), (0 : Int), (0 : Int), (0 : Int), (15 : Int), (5 : Int)] : List Int))], 5, false, false⟩, ⟨[.ints .i64 ([(1 : Int)] : List Int), .ints .i64 ([(5 : Int)] : List Int), .ints .i64 ([(4096 : Int)] : List Int), .ints .i64 ([(4096 : Int)] : List Int), .ints .i64 ([(12 : Int)] : List Int), .ints .i64 ([(12 : Int)] : List Int), .ints .i64 ([(4096 : Int)] : List Int)], 71, false, true⟩, ⟨[.vals [(.sl 3 (0 : Nat) (none : Option Nat) (none : Option Nat))]], 44, false, true⟩, ⟨[.ints .u8 ([(191 : Int), (7 : Int), (0 : Int), (0 : Int), (0 : Int), (184 : Int), (60 : Int), (0 : Int), (0 : Int), (0 : Int), (15 : Int), (5 : Int)] : List Int)], 5, false, true⟩]
theorem run16_0 (K : V → Mem → Prop) : cbodyD Tryz.prog C1 (fun _ => none) 1000 (fnOf Tryz.prog 16) A16_0 M16_0 K = K R16_0 N16_0 := by kernel_rfl
def P16 : Prim := fun args m K =>
  match V.sameL args A16_0 && sameM m M16_0 with
  | true => K R16_0 N16_0
  | false => False
theorem P16_ok : PrimOk Tryz.prog 16 P16 := by
  intro args m K E w cargs hS ha h
  unfold P16 at h
  split at h
  · rename_i hh
    rw [Bool.and_eq_true] at hh
    obtain rfl := V.sameL_eq hh.1
    obtain rfl := sameM_eq hh.2
    exact cbodyD_use named C1_ok at16 (l := 1) rfl (LoopsOk.none _ _) (run16_0 K) hS ha h
  · skip
    exact h.elim
def prims2 : Prims := fun f => 
  match Nat.beq f 16 with
  | true => some P16
  | false => prims1 f
theorem prims2_ok : PrimsOk Tryz.prog prims2 := by
  intro f g hg
  unfold prims2 at hg
  split at hg
  · rename_i hf
    obtain rfl := Nat.eq_of_beq_eq_true hf
    cases hg
    exact P16_ok
  · skip
    exact prims1_ok f g hg
def C2 : CC := callZ Tryz.prog prims2 rangesF loopsM chansF 1000
theorem C2_ok : CallsOk Tryz.prog C2 := callZ_sound named prims2_ok 1000
end Go.Proofs.YtjciabbnncidjaaGreat.ln
