import Derived.Test.YtjciabbnncidjaaGreatLn2
set_option linter.unusedVariables false
set_option linter.unusedSimpArgs false
set_option maxHeartbeats 4000000
set_option maxRecDepth 100000
namespace Go.Proofs.YtjciabbnncidjaaGreat.ln
open Go Go.Ab
theorem at12 : Tryz.prog.funcs[12]? = some (fnOf Tryz.prog 12) := by kernel_rfl
def A12_0 : List V := [(.sl 0 (0 : Nat) (none : Option Nat) (none : Option Nat)), (.I .u64 (1048576 : Int)), (.I .i64 (100 : Int))]
def M12_0 : Mem := [⟨[.ints .u8 (([(127 : Int), (69 : Int), (76 : Int), (70 : Int), (2 : Int), (1 : Int), (1 : Int), (0 : Int), (0 : Int), (0 : Int), (0 : Int), (0 : Int), (0 : Int), (0 : Int), (0 : Int), (0 : Int), (3 : Int), (0 : Int), (62 : Int), (0 : Int), (1 : Int), (0 : Int), (0 : Int), (0 : Int), (0 : Int), (16 : Int), (0 : Int), (0 : Int), (0 : Int), (0 : Int), (0 : Int), (0 : Int), (64 : Int), (0 : Int), (0 : Int), (0 : Int), (0 : Int), (0 : Int), (0 : Int), (0 : Int), (0 : Int), (0 : Int), (0 : Int), (0 : Int), (0 : Int), (0 : Int), (0 : Int), (0 : Int), (0 : Int), (0 : Int), (0 : Int), (0 : Int), (64 : Int), (0 : Int), (56 : Int), (0 : Int), (1 : Int), (0 : Int), (64 : Int), (0 : Int), (0 : Int), (0 : Int), (0 : Int), (0 : Int), (1 : Int), (0 : Int), (0 : Int), (0 : Int), (5 : Int), (0 : Int), (0 : Int), (0 : Int), (0 : Int), (16 : Int), (0 : Int), (0 : Int), (0 : Int), (0 : Int), (0 : Int), (0 : Int), (0 : Int), (16 : Int), (0 : Int), (0 : Int), (0 : Int), (0 : Int), (0 : Int), (0 : Int), (0 : Int), (16 : Int), (0 : Int), (0 : Int), (0 : Int), (0 : Int), (0 : Int), (0 : Int), (12 : Int), (0 : Int), (0 : Int), (0 : Int), (0 : Int), (0 : Int), (0 : Int), (0 : Int), (12 : Int), (0 : Int), (0 : Int), (0 : Int), (0 : Int), (0 : Int), (0 : Int), (0 : Int), (0 : Int), (16 : Int)] : List Int) ++ List.replicate 3982 (0 : Int) ++ ([(191 : Int), (7 : Int), (0 : Int), (0 : Int), (0 : Int), (184 : Int), (60 : Int), (0 : Int), (0 : Int), (0 : Int), (15 : Int), (5 : Int)] : List Int))], 5, false, false⟩]
def R12_0 : V := (.tup [(.ptr 1 (0 : Nat) 0), (.I .i64 (0 : Int))])
def N12_0 : Mem := [⟨[.ints .u8 (([(127 : Int), (69 : Int), (76 : Int), (70 : Int), (2 : Int), (1 : Int), (1 : Int), (0 : Int), (0 : Int), (0 : Int), (0 : Int), (0 : Int), (0 : Int), (0 : Int), (0 : Int), (0 : Int), (3 : Int), (0 : Int), (62 : Int), (0 : Int), (1 : Int), (0 : Int), (0 : Int), (0 : Int), (0 : Int), (16 : Int), (0 : Int), (0 : Int), (0 : Int), (0 : Int), (0 : Int), (0 : Int), (64 : Int), (0 : Int), (0 : Int), (0 : Int), (0 : Int), (0 : Int), (0 : Int), (0 : Int), (0 : Int), (0 : Int), (0 : Int), (0 : Int), (0 : Int), (0 : Int), (0 : Int), (0 : Int), (0 : Int), (0 : Int), (0 : Int), (0 : Int), (64 : Int), (0 : Int), (56 : Int), (0 : Int), (1 : Int), (0 : Int), (64 : Int), (0 : Int), (0 : Int), (0 : Int), (0 : Int), (0 : Int), (1 : Int), (0 : Int), (0 : Int), (0 : Int), (5 : Int), (0 : Int), (0 : Int), (0 : Int), (0 : Int), (16 : Int), (0 : Int), (0 : Int), (0 : Int), (0 : Int), (0 : Int), (0 : Int), (0 : Int), (16 : Int), (0 : Int), (0 : Int), (0 : Int), (0 : Int), (0 : Int), (0 : Int), (0 : Int), (16 : Int), (0 : Int), (0 : Int), (0 : Int), (0 : Int), (0 : Int), (0 : Int), (12 : Int), (0 : Int), (0 : Int), (0 : Int), (0 : Int), (0 : Int), (0 : Int), (0 : Int), (12 : Int), (0 : Int), (0 : Int), (0 : Int), (0 : Int), (0 : Int), (0 : Int), (0 : Int), (0 : Int), (16 : Int)] : List Int) ++ List.replicate 3982 (0 : Int) ++ ([(191 : Int), (7 : Int), (0 : Int), (0 : Int), (0 : Int), (184 : Int), (60 : Int), (0 : Int), (0 : Int), (0 : Int), (15 : Int), (5 : Int)] : List Int))], 5, false, false⟩, ⟨[.vals [(.ptr 2 (0 : Nat) 0)], .ints .u64 ([(1048576 : Int)] : List Int), .ints .u64 ([(1060864 : Int)] : List Int), .ints .u64 ([(1134592 : Int)] : List Int), .ints .u64 ([(1138688 : Int)] : List Int), .ints .u64 ([(1052672 : Int)] : List Int), .vals [.nils], .ints .i64 ([(0 : Int)] : List Int)], 33, false, true⟩, ⟨[.ints .u64 ([(0 : Int)] : List Int), .ints .u64 ([(0 : Int)] : List Int), .ints .u64 ([(0 : Int)] : List Int), .ints .u64 ([(0 : Int)] : List Int), .ints .u64 ([(1134584 : Int)] : List Int), .ints .u64 ([(0 : Int)] : List Int), .ints .u64 ([(0 : Int)] : List Int), .ints .u64 ([(0 : Int)] : List Int), .ints .u64 ([(0 : Int)] : List Int), .ints .u64 ([(0 : Int)] : List Int), .ints .u64 ([(0 : Int)] : List Int), .ints .u64 ([(0 : Int)] : List Int), .ints .u64 ([(0 : Int)] : List Int), .ints .u64 ([(0 : Int)] : List Int), .ints .u64 ([(0 : Int)] : List Int), .ints .u64 ([(0 : Int)] : List Int), .ints .u64 ([(1052672 : Int)] : List Int), .ints .u64 ([(1060864 : Int)] : List Int), .bools ([false] : List Bool), .bools ([false] : List Bool), .bools ([false] : List Bool), .bools ([false] : List Bool), .bools ([false] : List Bool), .vals [(.ptr 3 (0 : Nat) 0)], .vals [.nils], .ints .i64 ([(0 : Int)] : List Int), .bools ([false] : List Bool)], 51, false, true⟩, ⟨[.vals [(.mapp 4)]], 91, false, true⟩, ⟨[.map [((.I .u64 (257 : Int)), (.ptr 5 (0 : Nat) 0)), ((.I .u64 (259 : Int)), (.ptr 6 (0 : Nat) 0)), ((.I .u64 (261 : Int)), (.ptr 7 (0 : Nat) 0)), ((.I .u64 (262 : Int)), (.ptr 8 (0 : Nat) 0)), ((.I .u64 (263 : Int)), (.ptr 9 (0 : Nat) 0)), ((.I .u64 (264 : Int)), (.ptr 10 (0 : Nat) 0)), ((.I .u64 (265 : Int)), (.ptr 11 (0 : Nat) 0)), ((.I .u64 (266 : Int)), (.ptr 12 (0 : Nat) 0)), ((.I .u64 (267 : Int)), (.ptr 13 (0 : Nat) 0)), ((.I .u64 (268 : Int)), (.ptr 14 (0 : Nat) 0)), ((.I .u64 (269 : Int)), (.ptr 15 (0 : Nat) 0)), ((.I .u64 (270 : Int)), (.ptr 16 (0 : Nat) 0)), ((.I .u64 (271 : Int)), (.ptr 17 (0 : Nat) 0)), ((.I .u64 (272 : Int)), (.ptr 18 (0 : Nat) 0)), ((.I .u64 (273 : Int)), (.ptr 19 (0 : Nat) 0)), ((.I .u64 (274 : Int)), (.ptr 20 (0 : Nat) 0)), ((.I .u64 (275 : Int)), (.ptr 21 (0 : Nat) 0)), ((.I .u64 (276 : Int)), (.ptr 22 (0 : Nat) 0)), ((.I .u64 (278 : Int)), (.ptr 23 (0 : Nat) 0))]], 89, false, true⟩, ⟨[.mix .u8 4096 ([(191 : Int), (7 : Int), (0 : Int), (0 : Int), (0 : Int), (184 : Int), (60 : Int), (0 : Int), (0 : Int), (0 : Int), (15 : Int), (5 : Int)] : List Int) [(.I .i64 (5 : Int))]], 136, false, true⟩, ⟨[.mix .u8 4096 ([(0 : Int), (48 : Int), (16 : Int), (0 : Int), (0 : Int), (0 : Int), (0 : Int), (0 : Int)] : List Int) [(.I .i64 (6 : Int))]], 136, false, true⟩, ⟨[.mix .u8 4096 ([] : List Int) [(.I .i64 (6 : Int))]], 136, false, true⟩, ⟨[.mix .u8 4096 ([] : List Int) [(.I .i64 (6 : Int))]], 136, false, true⟩, ⟨[.mix .u8 4096 ([] : List Int) [(.I .i64 (6 : Int))]], 136, false, true⟩, ⟨[.mix .u8 4096 ([] : List Int) [(.I .i64 (6 : Int))]], 136, false, true⟩, ⟨[.mix .u8 4096 ([] : List Int) [(.I .i64 (6 : Int))]], 136, false, true⟩, ⟨[.mix .u8 4096 ([] : List Int) [(.I .i64 (6 : Int))]], 136, false, true⟩, ⟨[.mix .u8 4096 ([] : List Int) [(.I .i64 (6 : Int))]], 136, false, true⟩, ⟨[.mix .u8 4096 ([] : List Int) [(.I .i64 (6 : Int))]], 136, false, true⟩, ⟨[.mix .u8 4096 ([] : List Int) [(.I .i64 (6 : Int))]], 136, false, true⟩, ⟨[.mix .u8 4096 ([] : List Int) [(.I .i64 (6 : Int))]], 136, false, true⟩, ⟨[.mix .u8 4096 ([] : List Int) [(.I .i64 (6 : Int))]], 136, false, true⟩, ⟨[.mix .u8 4096 ([] : List Int) [(.I .i64 (6 : Int))]], 136, false, true⟩, ⟨[.mix .u8 4096 ([] : List Int) [(.I .i64 (6 : Int))]], 136, false, true⟩, ⟨[.mix .u8 4096 ([] : List Int) [(.I .i64 (6 : Int))]], 136, false, true⟩, ⟨[.mix .u8 4096 ([] : List Int) [(.I .i64 (6 : Int))]], 136, false, true⟩, ⟨[.mix .u8 4096 (List.replicate 4089 (0 : Int) ++ ([(96 : Int), (17 : Int), (0 : Int), (0 : Int), (0 : Int), (0 : Int), (0 : Int)] : List Int)) [(.I .i64 (6 : Int))]], 136, false, true⟩, ⟨[.mix .u8 4096 ([] : List Int) [(.I .i64 (1 : Int))]], 136, false, true⟩]
theorem run12_0 (K : V → Mem → Prop) : cbody Tryz.prog C2 (fun _ => none) 1000 (fnOf Tryz.prog 12) A12_0 M12_0 K = K R12_0 N12_0 := by kernel_rfl
def P12 : Prim := fun args m K =>
  match V.sameL args A12_0 && sameM m M12_0 with
  | true => K R12_0 N12_0
  | false => False
theorem P12_ok : PrimOk Tryz.prog 12 P12 := by
  intro args m K E w cargs hS ha h
  unfold P12 at h
  split at h
  · rename_i hh
    rw [Bool.and_eq_true] at hh
    obtain rfl := V.sameL_eq hh.1
    obtain rfl := sameM_eq hh.2
    exact cbody_use named C2_ok at12 (l := 1) rfl (LoopsOk.none _ _) (run12_0 K) hS ha h
  · skip
    exact h.elim
def prims3 : Prims := fun f => 
  match Nat.beq f 12 with
  | true => some P12
  | false => prims2 f
theorem prims3_ok : PrimsOk Tryz.prog prims3 := by
  intro f g hg
  unfold prims3 at hg
  split at hg
  · rename_i hf
    obtain rfl := Nat.eq_of_beq_eq_true hf
    cases hg
    exact P12_ok
  · skip
    exact prims2_ok f g hg
def C3 : CC := callZ Tryz.prog prims3 rangesF loopsM chansF 1000
theorem C3_ok : CallsOk Tryz.prog C3 := callZ_sound named prims3_ok 1000
end Go.Proofs.YtjciabbnncidjaaGreat.ln
