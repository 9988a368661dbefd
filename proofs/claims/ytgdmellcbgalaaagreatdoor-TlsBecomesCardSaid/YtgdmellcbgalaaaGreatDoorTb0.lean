import Derived.Test.YtgdmellcbgalaaaGreatDoorProg
import Derived.Test.YtgdmellcbgalaaaGreatDoorAbDefer
import Derived.Test.YtgdmellcbgalaaaGreatDoorAbExt
import Derived.Test.YtgdmellcbgalaaaGreatDoorAbSee
import Derived.Test.YtgdmellcbgalaaaGreatDoorAbLaw
set_option linter.unusedVariables false
set_option linter.unusedSimpArgs false
set_option maxHeartbeats 4000000
set_option maxRecDepth 100000
namespace Go.Proofs.YtgdmellcbgalaaaGreatDoor.tlb
open Go Go.Ab
theorem named : Named Tryz.prog := by
  have h : Tryz.prog.funcs.toList.all (fun fn => !(fn.name == "runtime.NumGoroutine")) = true := by kernel_rfl
  intro g fn hf
  have := List.all_eq_true.1 h fn (by rw [Array.getElem?_eq_some_iff] at hf; obtain ⟨h1, rfl⟩ := hf; simp)
  simpa using this
theorem stands {f : FuncId} {e : Array Value → Sem Value} (hf : Tryz.prog.funcs[f]? = some (fnOf Tryz.prog f)) (h1 : ((fnOf Tryz.prog f).name == "runtime.NumGoroutine") = false) (h2 : (fnOf Tryz.prog f).body.isNone = true)
    (h3 : Extern.findNext (fnOf Tryz.prog f) = none) (h4 : Extern.find (fnOf Tryz.prog f) = some e) : Stands Tryz.prog f e := ⟨_, hf, h1, h2, h3, h4⟩
def prims0 : Prims := fun f =>
  match Nat.beq f 152 with
  | true => some pIdx
  | false =>
  match Nat.beq f 99 with
  | true => some pSame
  | false =>
  match Nat.beq f 100 with
  | true => some (pMake 5)
  | false => none
theorem prims0_ok : PrimsOk Tryz.prog prims0 := by
  intro f g hg
  unfold prims0 at hg
  split at hg
  · rename_i hf
    obtain rfl := Nat.eq_of_beq_eq_true hf
    cases hg
    exact pIdx_ok (stands (by kernel_rfl) (by kernel_rfl) (by kernel_rfl) (by kernel_rfl) (by kernel_rfl))
  · skip
    split at hg
    · rename_i hf
      obtain rfl := Nat.eq_of_beq_eq_true hf
      cases hg
      exact pSame_ok (stands (by kernel_rfl) (by kernel_rfl) (by kernel_rfl) (by kernel_rfl) (by kernel_rfl))
    · skip
      split at hg
      · rename_i hf
        obtain rfl := Nat.eq_of_beq_eq_true hf
        cases hg
        exact pMake_ok (ps := #[3]) (t := 22) (stands (by kernel_rfl) (by kernel_rfl) (by kernel_rfl) (by kernel_rfl) (by kernel_rfl)) (by kernel_rfl)
      · skip
        cases hg
def C0 : CC := callD Tryz.prog prims0 1000
theorem C0_ok : CallsOk Tryz.prog C0 := callD_sound named prims0_ok 1000
theorem at6 : Tryz.prog.funcs[6]? = some (fnOf Tryz.prog 6) := by kernel_rfl
theorem knows_run (K : V → Mem → Prop) : cbody Tryz.prog C0 (fun _ => none) 1000 (fnOf Tryz.prog 6) [] [] K = K (.B true) [] := by kernel_rfl
def P6 : Prim := fun args m K => seeNil args False (seeNil m False (K (.B true) []))
theorem P6_ok : PrimOk Tryz.prog 6 P6 := by
  intro args m K E w cargs hS ha h
  unfold P6 at h
  replace h := seeNil_use h
  rcases h with h | ⟨rfl, h⟩
  · exact h.elim
  replace h := seeNil_use h
  rcases h with h | ⟨rfl, h⟩
  · exact h.elim
  exact cbody_use named C0_ok at6 (l := 0) rfl (LoopsOk.none _ _) (knows_run K) hS ha h
def prims1 : Prims := fun f => match Nat.beq f 6 with | true => some P6 | false => prims0 f
theorem prims1_ok : PrimsOk Tryz.prog prims1 := by
  intro f g hg
  unfold prims1 at hg
  split at hg
  · rename_i hf
    obtain rfl := Nat.eq_of_beq_eq_true hf
    cases hg
    exact P6_ok
  · exact prims0_ok f g hg
def C1 : CC := callD Tryz.prog prims1 1000
theorem C1_ok : CallsOk Tryz.prog C1 := callD_sound named prims1_ok 1000
noncomputable def LawX : Code := sub [true, true, true, true, true] (bodyOf Tryz.prog 3)
theorem at3 : Tryz.prog.funcs[3]? = some (fnOf Tryz.prog 3) := by kernel_rfl
theorem body3 : (fnOf Tryz.prog 3).body = some (bodyOf Tryz.prog 3) := by kernel_rfl
theorem start (C : CC) (m r o : Int) (K : Ex → Env → Mem → Prop) (KX : Code → Env → Mem → (Ex → Env → Mem → Prop) → Prop) : cpre Tryz.prog C (fun _ => none) 0 1000 5 (bodyOf Tryz.prog 3) (Tr.puts 0 [.I .i64 m, .I .i64 r, .I .i64 o] (Tr.full (.tup []) (max (fnOf Tryz.prog 3).ntmps 3) (max (fnOf Tryz.prog 3).ntmps 3))) [] K KX =
    (bif (decide ((IntKind.wrap .i64 ((1 : Int) + (Int.tmod (IntKind.wrap .i64 ((Int.tmod m (3 : Int)) + (3 : Int))) (3 : Int)))) < (3 : Int))) then KX LawX (setsE [(0, (.I .i64 (IntKind.wrap .i64 ((1 : Int) + (Int.tmod (IntKind.wrap .i64 ((Int.tmod m (3 : Int)) + (3 : Int))) (3 : Int)))))), (1, (.I .i64 (0 : Int))), (2, (.I .i64 (Int.tmod o (2147483648 : Int)))), (6, (.B false)), (17, (.I .i64 m)), (18, (.I .i64 (Int.tmod m (3 : Int)))), (19, (.I .i64 (IntKind.wrap .i64 ((Int.tmod m (3 : Int)) + (3 : Int))))), (20, (.I .i64 (Int.tmod (IntKind.wrap .i64 ((Int.tmod m (3 : Int)) + (3 : Int))) (3 : Int)))), (21, (.I .i64 (IntKind.wrap .i64 ((1 : Int) + (Int.tmod (IntKind.wrap .i64 ((Int.tmod m (3 : Int)) + (3 : Int))) (3 : Int)))))), (22, (.I .i64 r)), (23, (.I .i64 (Int.tmod r (16 : Int)))), (24, (.I .i64 (IntKind.wrap .i64 ((Int.tmod r (16 : Int)) + (16 : Int))))), (25, (.I .i64 (Int.tmod (IntKind.wrap .i64 ((Int.tmod r (16 : Int)) + (16 : Int))) (16 : Int)))), (26, (.I .i64 o)), (27, (.I .i64 (Int.tmod o (2147483648 : Int)))), (28, (.I .i64 (IntKind.wrap .i64 ((1 : Int) + (Int.tmod (IntKind.wrap .i64 ((Int.tmod m (3 : Int)) + (3 : Int))) (3 : Int)))))), (29, (.B (decide ((IntKind.wrap .i64 ((1 : Int) + (Int.tmod (IntKind.wrap .i64 ((Int.tmod m (3 : Int)) + (3 : Int))) (3 : Int)))) < (3 : Int)))))] (Tr.full (.tup []) 193 193)) [] K else KX LawX (setsE [(0, (.I .i64 (IntKind.wrap .i64 ((1 : Int) + (Int.tmod (IntKind.wrap .i64 ((Int.tmod m (3 : Int)) + (3 : Int))) (3 : Int)))))), (1, (.I .i64 (Int.tmod (IntKind.wrap .i64 ((Int.tmod r (16 : Int)) + (16 : Int))) (16 : Int)))), (2, (.I .i64 (Int.tmod o (2147483648 : Int)))), (6, (.B false)), (17, (.I .i64 m)), (18, (.I .i64 (Int.tmod m (3 : Int)))), (19, (.I .i64 (IntKind.wrap .i64 ((Int.tmod m (3 : Int)) + (3 : Int))))), (20, (.I .i64 (Int.tmod (IntKind.wrap .i64 ((Int.tmod m (3 : Int)) + (3 : Int))) (3 : Int)))), (21, (.I .i64 (IntKind.wrap .i64 ((1 : Int) + (Int.tmod (IntKind.wrap .i64 ((Int.tmod m (3 : Int)) + (3 : Int))) (3 : Int)))))), (22, (.I .i64 r)), (23, (.I .i64 (Int.tmod r (16 : Int)))), (24, (.I .i64 (IntKind.wrap .i64 ((Int.tmod r (16 : Int)) + (16 : Int))))), (25, (.I .i64 (Int.tmod (IntKind.wrap .i64 ((Int.tmod r (16 : Int)) + (16 : Int))) (16 : Int)))), (26, (.I .i64 o)), (27, (.I .i64 (Int.tmod o (2147483648 : Int)))), (28, (.I .i64 (IntKind.wrap .i64 ((1 : Int) + (Int.tmod (IntKind.wrap .i64 ((Int.tmod m (3 : Int)) + (3 : Int))) (3 : Int)))))), (29, (.B (decide ((IntKind.wrap .i64 ((1 : Int) + (Int.tmod (IntKind.wrap .i64 ((Int.tmod m (3 : Int)) + (3 : Int))) (3 : Int)))) < (3 : Int)))))] (Tr.full (.tup []) 193 193)) [] K) := by kernel_rfl
/-- A byte of a number; four bytes, read as one with its sign. -/
def b8 (o : Int) (i : Nat) : Int := IntKind.wrap .u8 (Int.fdiv (IntKind.wrap .u64 o) (2 ^ i))
def u32 (o : Int) : Int := ibits .or .u64 (ibits .or .u64 (ibits .or .u64 (ibits .or .u64 (0 : Int) (IntKind.wrap .u64 ((IntKind.wrap .u64 (IntKind.wrap .i64 (b8 o 0))) * 2 ^ 0))) (IntKind.wrap .u64 ((IntKind.wrap .u64 (IntKind.wrap .i64 (b8 o 8))) * 2 ^ 8))) (IntKind.wrap .u64 ((IntKind.wrap .u64 (IntKind.wrap .i64 (b8 o 16))) * 2 ^ 16))) (IntKind.wrap .u64 ((IntKind.wrap .u64 (IntKind.wrap .i64 (b8 o 24))) * 2 ^ 24))
def s32 (o : Int) : Int := Int.fdiv (IntKind.wrap .i64 (IntKind.wrap .u64 (u32 o * 2 ^ 32))) (2 ^ 32)
end Go.Proofs.YtgdmellcbgalaaaGreatDoor.tlb
