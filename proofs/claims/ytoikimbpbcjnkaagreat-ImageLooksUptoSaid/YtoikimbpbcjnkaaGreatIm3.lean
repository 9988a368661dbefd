import Derived.Test.YtoikimbpbcjnkaaGreatIm2
set_option linter.unusedVariables false
set_option linter.unusedSimpArgs false
set_option maxHeartbeats 4000000
set_option maxRecDepth 100000
namespace Go.Proofs.YtoikimbpbcjnkaaGreat.img
open Go Go.Ab
theorem live_run (K : V → Mem → Prop) : cbody Tryz.prog C2 (fun _ => none) 1000 (fnOf Tryz.prog 6) [] [] K = ((K (.B true) [] ∧ K (.B true) []) ∧ (K (.B true) [] ∧ K (.B true) [])) := by kernel_rfl
theorem at6 : Tryz.prog.funcs[6]? = some (fnOf Tryz.prog 6) := by kernel_rfl
theorem live_true (K : V → Mem → Prop) (h : K (.B true) []) : cbody Tryz.prog C2 (fun _ => none) 1000 (fnOf Tryz.prog 6) [] [] K = True := (live_run K).trans (eq_true ⟨⟨h , h⟩ , ⟨h , h⟩⟩)
def P6 : Prim := fun args m K => seeNil args False (seeNil m False (K (.B true) []))
theorem P6_ok : PrimOk Tryz.prog 6 P6 := by
  intro args m K E w cargs hS ha h
  unfold P6 at h
  replace h := seeNil_use h
  rcases h with h | ⟨rfl, h⟩
  · exact h.elim
  replace h := seeNil_use h
  rcases h with h | ⟨rfl, h⟩
  · exact h.elim
  exact cbody_use named C2_ok at6 (l := 0) rfl (LoopsOk.none _ _) (live_true K h) hS ha trivial
def prims3 : Prims := fun f => 
  match Nat.beq f 6 with
  | true => some P6
  | false => none
theorem prims3_ok : PrimsOk Tryz.prog prims3 := by
  intro f g hg
  unfold prims3 at hg
  split at hg
  · rename_i hf
    obtain rfl := Nat.eq_of_beq_eq_true hf
    cases hg
    exact P6_ok
  · skip
    cases hg
def C3 : CC := call Tryz.prog prims3 1000
theorem C3_ok : CallsOk Tryz.prog C3 := call_sound named prims3_ok 1000
end Go.Proofs.YtoikimbpbcjnkaaGreat.img
