import Derived.Test.YtoikimbpbcjnkaaGreatIm1
set_option linter.unusedVariables false
set_option linter.unusedSimpArgs false
set_option maxHeartbeats 4000000
set_option maxRecDepth 100000
namespace Go.Proofs.YtoikimbpbcjnkaaGreat.img
open Go Go.Ab
def sameM : Mem → Mem → Bool
  | [], [] => true
  | b :: m, c :: n => Blk.same b c && sameM m n
  | _, _ => false
theorem sameM_eq : ∀ {m n : Mem}, sameM m n = true → m = n
  | [], [], _ => rfl
  | [], _ :: _, h => by simp [sameM] at h
  | _ :: _, [], h => by simp [sameM] at h
  | b :: m, c :: n, h => by
    simp only [sameM, Bool.and_eq_true] at h
    rw [Blk.same_eq h.1, sameM_eq h.2]
def A53 : List V := [(.agg [(.I .i64 (4096 : Int)), (.sl 0 (0 : Nat) (none : Option Nat) (none : Option Nat)), (.sl 1 (0 : Nat) (none : Option Nat) (none : Option Nat))])]
def M53 : Mem := [⟨[.ints .i64 ([(1 : Int), (1 : Int), (2 : Int)] : List Int), .ints .i64 ([(5 : Int), (6 : Int), (6 : Int)] : List Int), .ints .i64 ([(4096 : Int), (8192 : Int), (8192 : Int)] : List Int), .ints .i64 ([(4096 : Int), (8192 : Int), (8192 : Int)] : List Int), .ints .i64 ([(1 : Int), (16 : Int), (16 : Int)] : List Int), .ints .i64 ([(1 : Int), (16 : Int), (16 : Int)] : List Int), .ints .i64 ([(4096 : Int), (4096 : Int), (8 : Int)] : List Int)], 147, false, false⟩, ⟨[.vals [(.sl 2 (0 : Nat) (none : Option Nat) (none : Option Nat)), (.sl 3 (0 : Nat) (none : Option Nat) (none : Option Nat))]], 23, false, false⟩, ⟨[.ints .u8 ([(195 : Int)] : List Int)], 5, false, false⟩, ⟨[.ints .u8 ([(0 : Int), (0 : Int), (0 : Int), (0 : Int), (0 : Int), (0 : Int), (0 : Int), (0 : Int), (0 : Int), (0 : Int), (0 : Int), (0 : Int), (0 : Int), (0 : Int), (0 : Int), (0 : Int)] : List Int)], 5, false, false⟩]
def R53 : V := (.tup [(.sl 4 (0 : Nat) (none : Option Nat) (none : Option Nat)), (.I .i64 (0 : Int))])
def N53 : Mem := [⟨[.ints .i64 ([(1 : Int), (1 : Int), (2 : Int)] : List Int), .ints .i64 ([(5 : Int), (6 : Int), (6 : Int)] : List Int), .ints .i64 ([(4096 : Int), (8192 : Int), (8192 : Int)] : List Int), .ints .i64 ([(4096 : Int), (8192 : Int), (8192 : Int)] : List Int), .ints .i64 ([(1 : Int), (16 : Int), (16 : Int)] : List Int), .ints .i64 ([(1 : Int), (16 : Int), (16 : Int)] : List Int), .ints .i64 ([(4096 : Int), (4096 : Int), (8 : Int)] : List Int)], 147, false, false⟩, ⟨[.vals [(.sl 2 (0 : Nat) (none : Option Nat) (none : Option Nat)), (.sl 3 (0 : Nat) (none : Option Nat) (none : Option Nat))]], 23, false, false⟩, ⟨[.ints .u8 ([(195 : Int)] : List Int)], 5, false, false⟩, ⟨[.ints .u8 ([(0 : Int), (0 : Int), (0 : Int), (0 : Int), (0 : Int), (0 : Int), (0 : Int), (0 : Int), (0 : Int), (0 : Int), (0 : Int), (0 : Int), (0 : Int), (0 : Int), (0 : Int), (0 : Int)] : List Int)], 5, false, false⟩, ⟨[.ints .u8 (([(127 : Int), (69 : Int), (76 : Int), (70 : Int), (2 : Int), (1 : Int), (1 : Int), (0 : Int), (0 : Int), (0 : Int), (0 : Int), (0 : Int), (0 : Int), (0 : Int), (0 : Int), (0 : Int), (3 : Int), (0 : Int), (62 : Int), (0 : Int), (1 : Int), (0 : Int), (0 : Int), (0 : Int), (0 : Int), (16 : Int), (0 : Int), (0 : Int), (0 : Int), (0 : Int), (0 : Int), (0 : Int), (64 : Int), (0 : Int), (0 : Int), (0 : Int), (0 : Int), (0 : Int), (0 : Int), (0 : Int), (0 : Int), (0 : Int), (0 : Int), (0 : Int), (0 : Int), (0 : Int), (0 : Int), (0 : Int), (0 : Int), (0 : Int), (0 : Int), (0 : Int), (64 : Int), (0 : Int), (56 : Int), (0 : Int), (3 : Int), (0 : Int), (64 : Int), (0 : Int), (0 : Int), (0 : Int), (0 : Int), (0 : Int), (1 : Int), (0 : Int), (0 : Int), (0 : Int), (5 : Int), (0 : Int), (0 : Int), (0 : Int), (0 : Int), (16 : Int), (0 : Int), (0 : Int), (0 : Int), (0 : Int), (0 : Int), (0 : Int), (0 : Int), (16 : Int), (0 : Int), (0 : Int), (0 : Int), (0 : Int), (0 : Int), (0 : Int), (0 : Int), (16 : Int), (0 : Int), (0 : Int), (0 : Int), (0 : Int), (0 : Int), (0 : Int), (1 : Int), (0 : Int), (0 : Int), (0 : Int), (0 : Int), (0 : Int), (0 : Int), (0 : Int), (1 : Int), (0 : Int), (0 : Int), (0 : Int), (0 : Int), (0 : Int), (0 : Int), (0 : Int), (0 : Int), (16 : Int), (0 : Int), (0 : Int), (0 : Int), (0 : Int), (0 : Int), (0 : Int), (1 : Int), (0 : Int), (0 : Int), (0 : Int), (6 : Int), (0 : Int), (0 : Int), (0 : Int), (0 : Int), (32 : Int), (0 : Int), (0 : Int), (0 : Int), (0 : Int), (0 : Int), (0 : Int), (0 : Int), (32 : Int), (0 : Int), (0 : Int), (0 : Int), (0 : Int), (0 : Int), (0 : Int), (0 : Int), (32 : Int), (0 : Int), (0 : Int), (0 : Int), (0 : Int), (0 : Int), (0 : Int), (16 : Int), (0 : Int), (0 : Int), (0 : Int), (0 : Int), (0 : Int), (0 : Int), (0 : Int), (16 : Int), (0 : Int), (0 : Int), (0 : Int), (0 : Int), (0 : Int), (0 : Int), (0 : Int), (0 : Int), (16 : Int), (0 : Int), (0 : Int), (0 : Int), (0 : Int), (0 : Int), (0 : Int), (2 : Int), (0 : Int), (0 : Int), (0 : Int), (6 : Int), (0 : Int), (0 : Int), (0 : Int), (0 : Int), (32 : Int), (0 : Int), (0 : Int), (0 : Int), (0 : Int), (0 : Int), (0 : Int), (0 : Int), (32 : Int), (0 : Int), (0 : Int), (0 : Int), (0 : Int), (0 : Int), (0 : Int), (0 : Int), (32 : Int), (0 : Int), (0 : Int), (0 : Int), (0 : Int), (0 : Int), (0 : Int), (16 : Int), (0 : Int), (0 : Int), (0 : Int), (0 : Int), (0 : Int), (0 : Int), (0 : Int), (16 : Int), (0 : Int), (0 : Int), (0 : Int), (0 : Int), (0 : Int), (0 : Int), (0 : Int), (8 : Int)] : List Int) ++ List.replicate 3871 (0 : Int) ++ ([(195 : Int)] : List Int) ++ List.replicate 4111 (0 : Int))], 5, false, true⟩]
theorem at53 : Tryz.prog.funcs[53]? = some (fnOf Tryz.prog 53) := by kernel_rfl
theorem run53 (K : V → Mem → Prop) : cbody Tryz.prog C1 (fun _ => none) 1000 (fnOf Tryz.prog 53) A53 M53 K = K R53 N53 := by kernel_rfl
def P53 : Prim := fun args m K => match V.sameL args A53 && sameM m M53 with | true => K R53 N53 | false => False
theorem P53_ok : PrimOk Tryz.prog 53 P53 := by
  intro args m K E w cargs hS ha h
  unfold P53 at h
  split at h
  · rename_i hh
    rw [Bool.and_eq_true] at hh
    obtain rfl := V.sameL_eq hh.1
    obtain rfl := sameM_eq hh.2
    exact cbody_use named C1_ok at53 (l := 4) rfl (LoopsOk.none _ _) (run53 K) hS ha h
  · exact h.elim
def prims2 : Prims := fun f => 
  match Nat.beq f 53 with
  | true => some P53
  | false => prims1 f
theorem prims2_ok : PrimsOk Tryz.prog prims2 := by
  intro f g hg
  unfold prims2 at hg
  split at hg
  · rename_i hf
    obtain rfl := Nat.eq_of_beq_eq_true hf
    cases hg
    exact P53_ok
  · skip
    exact prims1_ok f g hg
def C2 : CC := call Tryz.prog prims2 1000
theorem C2_ok : CallsOk Tryz.prog C2 := call_sound named prims2_ok 1000
end Go.Proofs.YtoikimbpbcjnkaaGreat.img
