import Derived.Test.YtaajhdkngiemlaaDoorFrm1
set_option linter.unusedVariables false
set_option linter.unusedSimpArgs false
set_option maxHeartbeats 4000000
set_option maxRecDepth 100000
namespace Go.Proofs.YtaajhdkngiemlaaDoor.frm
open Go Go.Ab
theorem knows_run (K : V → Mem → Prop) : cbody Tryd.prog C0 (fun _ => none) 1000 (fnOf Tryd.prog 11) [] [] K = K (.B true) [] := by kernel_rfl
theorem at11 : Tryd.prog.funcs[11]? = some (fnOf Tryd.prog 11) := by kernel_rfl
def P11 : Prim := fun args m K => seeNil args False (seeNil m False (K (.B true) []))
theorem P11_ok : PrimOk Tryd.prog 11 P11 := by
  intro args m K E w cargs hS ha h
  unfold P11 at h
  replace h := seeNil_use h
  rcases h with h | ⟨rfl, h⟩
  · exact h.elim
  replace h := seeNil_use h
  rcases h with h | ⟨rfl, h⟩
  · exact h.elim
  exact cbody_use named C0_ok at11 (l := 0) rfl (LoopsOk.none _ _) (knows_run K) hS ha h
end Go.Proofs.YtaajhdkngiemlaaDoor.frm
