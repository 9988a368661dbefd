import Derived.Test.YtjciabbnncidjaaGreatLn0
set_option linter.unusedVariables false
set_option linter.unusedSimpArgs false
set_option maxHeartbeats 4000000
set_option maxRecDepth 100000
namespace Go.Proofs.YtjciabbnncidjaaGreat.ln
open Go Go.Ab
def sameM : Mem → Mem → Bool
  | [], [] => true
  | b :: m, c :: n => Blk.same b c && sameM m n
  | _, _ => false
theorem sameM_eq : ∀ {m n : Mem}, sameM m n = true → m = n
  | [], [], _ => rfl
  | [], _ :: _, h => by simp [sameM] at h
  | _ :: _, [], h => by simp [sameM] at h
  | b :: m, c :: n, h => by
    simp only [sameM, Bool.and_eq_true] at h
    rw [Blk.same_eq h.1, sameM_eq h.2]
theorem at26 : Tryz.prog.funcs[26]? = some (fnOf Tryz.prog 26) := by kernel_rfl
def A26_0 : List V := [(.agg [(.I .i64 (4096 : Int)), (.sl 0 (0 : Nat) (none : Option Nat) (none : Option Nat)), (.sl 1 (0 : Nat) (none : Option Nat) (none : Option Nat))])]
def M26_0 : Mem := [⟨[.ints .i64 ([(1 : Int)] : List Int), .ints .i64 ([(5 : Int)] : List Int), .ints .i64 ([(4096 : Int)] : List Int), .ints .i64 ([(4096 : Int)] : List Int), .ints .i64 ([(12 : Int)] : List Int), .ints .i64 ([(12 : Int)] : List Int), .ints .i64 ([(4096 : Int)] : List Int)], 71, false, false⟩, ⟨[.vals [(.sl 2 (0 : Nat) (none : Option Nat) (none : Option Nat))]], 44, false, false⟩, ⟨[.ints .u8 ([(191 : Int), (7 : Int), (0 : Int), (0 : Int), (0 : Int), (184 : Int), (60 : Int), (0 : Int), (0 : Int), (0 : Int), (15 : Int), (5 : Int)] : List Int)], 5, false, false⟩]
def R26_0 : V := (.tup [(.sl 3 (0 : Nat) (none : Option Nat) (none : Option Nat)), (.I .i64 (0 : Int))])
def N26_0 : Mem := [⟨[.ints .i64 ([(1 : Int)] : List Int), .ints .i64 ([(5 : Int)] : List Int), .ints .i64 ([(4096 : Int)] : List Int), .ints .i64 ([(4096 : Int)] : List Int), .ints .i64 ([(12 : Int)] : List Int), .ints .i64 ([(12 : Int)] : List Int), .ints .i64 ([(4096 : Int)] : List Int)], 71, false, false⟩, ⟨[.vals [(.sl 2 (0 : Nat) (none : Option Nat) (none : Option Nat))]], 44, false, false⟩, ⟨[.ints .u8 ([(191 : Int), (7 : Int), (0 : Int), (0 : Int), (0 : Int), (184 : Int), (60 : Int), (0 : Int), (0 : Int), (0 : Int), (15 : Int), (5 : Int)] : List Int)], 5, false, false⟩, ⟨[.ints .u8 (([(127 : Int), (69 : Int), (76 : Int), (70 : Int), (2 : Int), (1 : Int), (1 : Int), (0 : Int), (0 : Int), (0 : Int), (0 : Int), (0 : Int), (0 : Int), (0 : Int), (0 : Int), (0 : Int), (3 : Int), (0 : Int), (62 : Int), (0 : Int), (1 : Int), (0 : Int), (0 : Int), (0 : Int), (0 : Int), (16 : Int), (0 : Int), (0 : Int), (0 : Int), (0 : Int), (0 : Int), (0 : Int), (64 : Int), (0 : Int), (0 : Int), (0 : Int), (0 : Int), (0 : Int), (0 : Int), (0 : Int), (0 : Int), (0 : Int), (0 : Int), (0 : Int), (0 : Int), (0 : Int), (0 : Int), (0 : Int), (0 : Int), (0 : Int), (0 : Int), (0 : Int), (64 : Int), (0 : Int), (56 : Int), (0 : Int), (1 : Int), (0 : Int), (64 : Int), (0 : Int), (0 : Int), (0 : Int), (0 : Int), (0 : Int), (1 : Int), (0 : Int), (0 : Int), (0 : Int), (5 : Int), (0 : Int), (0 : Int), (0 : Int), (0 : Int), (16 : Int), (0 : Int), (0 : Int), (0 : Int), (0 : Int), (0 : Int), (0 : Int), (0 : Int), (16 : Int), (0 : Int), (0 : Int), (0 : Int), (0 : Int), (0 : Int), (0 : Int), (0 : Int), (16 : Int), (0 : Int), (0 : Int), (0 : Int), (0 : Int), (0 : Int), (0 : Int), (12 : Int), (0 : Int), (0 : Int), (0 : Int), (0 : Int), (0 : Int), (0 : Int), (0 : Int), (12 : Int), (0 : Int), (0 : Int), (0 : Int), (0 : Int), (0 : Int), (0 : Int), (0 : Int), (0 : Int), (16 : Int)] : List Int) ++ List.replicate 3982 (0 : Int) ++ ([(191 : Int), (7 : Int), (0 : Int), (0 : Int), (0 : Int), (184 : Int), (60 : Int), (0 : Int), (0 : Int), (0 : Int), (15 : Int), (5 : Int)] : List Int))], 5, false, true⟩]
theorem run26_0 (K : V → Mem → Prop) : cbody Tryz.prog C0 (fun _ => none) 1000 (fnOf Tryz.prog 26) A26_0 M26_0 K = K R26_0 N26_0 := by kernel_rfl
def P26 : Prim := fun args m K =>
  match V.sameL args A26_0 && sameM m M26_0 with
  | true => K R26_0 N26_0
  | false => False
theorem P26_ok : PrimOk Tryz.prog 26 P26 := by
  intro args m K E w cargs hS ha h
  unfold P26 at h
  split at h
  · rename_i hh
    rw [Bool.and_eq_true] at hh
    obtain rfl := V.sameL_eq hh.1
    obtain rfl := sameM_eq hh.2
    exact cbody_use named C0_ok at26 (l := 3) rfl (LoopsOk.none _ _) (run26_0 K) hS ha h
  · skip
    exact h.elim
theorem at56 : Tryz.prog.funcs[56]? = some (fnOf Tryz.prog 56) := by kernel_rfl
def A56_0 : List V := [(.sl 0 (0 : Nat) (none : Option Nat) (none : Option Nat)), (.I .i64 (0 : Int))]
def M56_0 : Mem := [⟨[.ints .u8 ([(191 : Int), (7 : Int), (0 : Int), (0 : Int), (0 : Int), (184 : Int), (60 : Int), (0 : Int), (0 : Int), (0 : Int), (15 : Int), (5 : Int), (0 : Int), (0 : Int), (0 : Int)] : List Int)], 5, false, false⟩]
def R56_0 : V := (.tup [(.agg [(.I .i64 (1 : Int)), (.I .i64 (4 : Int)), (.I .i64 (0 : Int)), (.I .i64 (1 : Int)), (.I .i64 (7 : Int)), (.I .i64 (0 : Int)), (.I .i64 (0 : Int)), (.I .i64 (0 : Int)), (.B false), (.B false), (.I .i64 (0 : Int)), (.S ([] : List Int)), (.I .i64 (0 : Int)), (.I .i64 (2 : Int)), (.I .i64 (0 : Int)), (.I .i64 (0 : Int)), (.I .i64 (0 : Int)), (.I .i64 (0 : Int)), (.B false), (.B false), (.I .i64 (7 : Int)), (.S ([] : List Int)), (.I .i64 (0 : Int)), (.B false)]), (.I .i64 (5 : Int)), (.I .i64 (0 : Int))])
def N56_0 : Mem := [⟨[.ints .u8 ([(191 : Int), (7 : Int), (0 : Int), (0 : Int), (0 : Int), (184 : Int), (60 : Int), (0 : Int), (0 : Int), (0 : Int), (15 : Int), (5 : Int), (0 : Int), (0 : Int), (0 : Int)] : List Int)], 5, false, false⟩]
theorem run56_0 (K : V → Mem → Prop) : cbody Tryz.prog C0 (fun _ => none) 1000 (fnOf Tryz.prog 56) A56_0 M56_0 K = K R56_0 N56_0 := by kernel_rfl
def A56_1 : List V := [(.sl 0 (0 : Nat) (none : Option Nat) (none : Option Nat)), (.I .i64 (0 : Int))]
def M56_1 : Mem := [⟨[.ints .u8 ([(184 : Int), (60 : Int), (0 : Int), (0 : Int), (0 : Int), (15 : Int), (5 : Int), (0 : Int), (0 : Int), (0 : Int), (0 : Int), (0 : Int), (0 : Int), (0 : Int), (0 : Int)] : List Int)], 5, false, false⟩]
def R56_1 : V := (.tup [(.agg [(.I .i64 (1 : Int)), (.I .i64 (4 : Int)), (.I .i64 (0 : Int)), (.I .i64 (1 : Int)), (.I .i64 (0 : Int)), (.I .i64 (0 : Int)), (.I .i64 (0 : Int)), (.I .i64 (0 : Int)), (.B false), (.B false), (.I .i64 (0 : Int)), (.S ([] : List Int)), (.I .i64 (0 : Int)), (.I .i64 (2 : Int)), (.I .i64 (0 : Int)), (.I .i64 (0 : Int)), (.I .i64 (0 : Int)), (.I .i64 (0 : Int)), (.B false), (.B false), (.I .i64 (60 : Int)), (.S ([] : List Int)), (.I .i64 (0 : Int)), (.B false)]), (.I .i64 (5 : Int)), (.I .i64 (0 : Int))])
def N56_1 : Mem := [⟨[.ints .u8 ([(184 : Int), (60 : Int), (0 : Int), (0 : Int), (0 : Int), (15 : Int), (5 : Int), (0 : Int), (0 : Int), (0 : Int), (0 : Int), (0 : Int), (0 : Int), (0 : Int), (0 : Int)] : List Int)], 5, false, false⟩]
theorem run56_1 (K : V → Mem → Prop) : cbody Tryz.prog C0 (fun _ => none) 1000 (fnOf Tryz.prog 56) A56_1 M56_1 K = K R56_1 N56_1 := by kernel_rfl
def A56_2 : List V := [(.sl 0 (0 : Nat) (none : Option Nat) (none : Option Nat)), (.I .i64 (0 : Int))]
def M56_2 : Mem := [⟨[.ints .u8 ([(15 : Int), (5 : Int), (0 : Int), (0 : Int), (0 : Int), (0 : Int), (0 : Int), (0 : Int), (0 : Int), (0 : Int), (0 : Int), (0 : Int), (0 : Int), (0 : Int), (0 : Int)] : List Int)], 5, false, false⟩]
def R56_2 : V := (.tup [(.agg [(.I .i64 (35 : Int)), (.I .i64 (0 : Int)), (.I .i64 (0 : Int)), (.I .i64 (0 : Int)), (.I .i64 (0 : Int)), (.I .i64 (0 : Int)), (.I .i64 (0 : Int)), (.I .i64 (0 : Int)), (.B false), (.B false), (.I .i64 (0 : Int)), (.S ([] : List Int)), (.I .i64 (0 : Int)), (.I .i64 (0 : Int)), (.I .i64 (0 : Int)), (.I .i64 (0 : Int)), (.I .i64 (0 : Int)), (.I .i64 (0 : Int)), (.B false), (.B false), (.I .i64 (0 : Int)), (.S ([] : List Int)), (.I .i64 (0 : Int)), (.B false)]), (.I .i64 (2 : Int)), (.I .i64 (0 : Int))])
def N56_2 : Mem := [⟨[.ints .u8 ([(15 : Int), (5 : Int), (0 : Int), (0 : Int), (0 : Int), (0 : Int), (0 : Int), (0 : Int), (0 : Int), (0 : Int), (0 : Int), (0 : Int), (0 : Int), (0 : Int), (0 : Int)] : List Int)], 5, false, false⟩]
theorem run56_2 (K : V → Mem → Prop) : cbody Tryz.prog C0 (fun _ => none) 1000 (fnOf Tryz.prog 56) A56_2 M56_2 K = K R56_2 N56_2 := by kernel_rfl
def P56 : Prim := fun args m K =>
  match V.sameL args A56_0 && sameM m M56_0 with
  | true => K R56_0 N56_0
  | false =>
  match V.sameL args A56_1 && sameM m M56_1 with
  | true => K R56_1 N56_1
  | false =>
  match V.sameL args A56_2 && sameM m M56_2 with
  | true => K R56_2 N56_2
  | false => False
theorem P56_ok : PrimOk Tryz.prog 56 P56 := by
  intro args m K E w cargs hS ha h
  unfold P56 at h
  split at h
  · rename_i hh
    rw [Bool.and_eq_true] at hh
    obtain rfl := V.sameL_eq hh.1
    obtain rfl := sameM_eq hh.2
    exact cbody_use named C0_ok at56 (l := 1) rfl (LoopsOk.none _ _) (run56_0 K) hS ha h
  · skip
    split at h
    · rename_i hh
      rw [Bool.and_eq_true] at hh
      obtain rfl := V.sameL_eq hh.1
      obtain rfl := sameM_eq hh.2
      exact cbody_use named C0_ok at56 (l := 1) rfl (LoopsOk.none _ _) (run56_1 K) hS ha h
    · skip
      split at h
      · rename_i hh
        rw [Bool.and_eq_true] at hh
        obtain rfl := V.sameL_eq hh.1
        obtain rfl := sameM_eq hh.2
        exact cbody_use named C0_ok at56 (l := 1) rfl (LoopsOk.none _ _) (run56_2 K) hS ha h
      · skip
        exact h.elim
def prims1 : Prims := fun f => 
  match Nat.beq f 26 with
  | true => some P26
  | false => 
  match Nat.beq f 56 with
  | true => some P56
  | false => prims0 f
theorem prims1_ok : PrimsOk Tryz.prog prims1 := by
  intro f g hg
  unfold prims1 at hg
  split at hg
  · rename_i hf
    obtain rfl := Nat.eq_of_beq_eq_true hf
    cases hg
    exact P26_ok
  · skip
    split at hg
    · rename_i hf
      obtain rfl := Nat.eq_of_beq_eq_true hf
      cases hg
      exact P56_ok
    · skip
      exact prims0_ok f g hg
def C1 : CC := callZ Tryz.prog prims1 rangesF loopsM chansF 1000
theorem C1_ok : CallsOk Tryz.prog C1 := callZ_sound named prims1_ok 1000
end Go.Proofs.YtjciabbnncidjaaGreat.ln
