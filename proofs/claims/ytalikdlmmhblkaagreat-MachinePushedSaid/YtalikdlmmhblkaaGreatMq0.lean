/- The machine's laws: the context: functions without a body, loops over functions. -/
import Derived.Test.YtalikdlmmhblkaaGreatProg
import Derived.Test.YtalikdlmmhblkaaGreatAbExt
import Derived.Test.YtalikdlmmhblkaaGreatAbSee
import Derived.Test.YtalikdlmmhblkaaGreatAbLaw
import Derived.Test.YtalikdlmmhblkaaGreatAbYield
import Derived.Test.YtalikdlmmhblkaaGreatAbRows
set_option linter.unusedVariables false
set_option linter.unusedSimpArgs false
set_option maxHeartbeats 4000000
set_option maxRecDepth 100000
namespace Go.Proofs.YtalikdlmmhblkaaGreat.mp
open Go Go.Ab
theorem named : Named Tryz.prog := by
  have h : Tryz.prog.funcs.toList.all (fun fn => !(fn.name == "runtime.NumGoroutine")) = true := by kernel_rfl
  intro g fn hf
  have := List.all_eq_true.1 h fn (by rw [Array.getElem?_eq_some_iff] at hf; obtain ⟨h1, rfl⟩ := hf; simp)
  simpa using this
theorem stands {f : FuncId} {e : Array Value → Sem Value} (hf : Tryz.prog.funcs[f]? = some (fnOf Tryz.prog f)) (h1 : ((fnOf Tryz.prog f).name == "runtime.NumGoroutine") = false) (h2 : (fnOf Tryz.prog f).body.isNone = true)
    (h3 : Extern.findNext (fnOf Tryz.prog f) = none) (h4 : Extern.find (fnOf Tryz.prog f) = some e) : Stands Tryz.prog f e := ⟨_, hf, h1, h2, h3, h4⟩
def prims0 : Prims := fun f =>
  match Nat.beq f 117 with
  | true => some pAdd64
  | false =>
  match Nat.beq f 121 with
  | true => some pSub64
  | false =>
  match Nat.beq f 207 with
  | true => some pIdx
  | false => none
theorem prims0_ok [Pins] : PrimsOk Tryz.prog prims0 := by
  intro f g hg
  unfold prims0 at hg
  split at hg
  · rename_i hf
    obtain rfl := Nat.eq_of_beq_eq_true hf
    cases hg
    exact pAdd64_ok (stands (by kernel_rfl) (by kernel_rfl) (by kernel_rfl) (by kernel_rfl) (by kernel_rfl))
  · skip
    split at hg
    · rename_i hf
      obtain rfl := Nat.eq_of_beq_eq_true hf
      cases hg
      exact pSub64_ok (stands (by kernel_rfl) (by kernel_rfl) (by kernel_rfl) (by kernel_rfl) (by kernel_rfl))
    · skip
      split at hg
      · rename_i hf
        obtain rfl := Nat.eq_of_beq_eq_true hf
        cases hg
        exact pIdx_ok (stands (by kernel_rfl) (by kernel_rfl) (by kernel_rfl) (by kernel_rfl) (by kernel_rfl))
      · skip
        cases hg
def ranges : List FuncId := [28, 29, 34, 35]
def C0 : CC := callY Tryz.prog prims0 ranges 1000
theorem C0_ok [Pins] : CallsOk Tryz.prog C0 := callY_sound named prims0_ok 1000
theorem at5 : Tryz.prog.funcs[5]? = some (fnOf Tryz.prog 5) := by kernel_rfl
theorem knows_run (K : V → Mem → Prop) : cbody Tryz.prog C0 (fun _ => none) 1000 (fnOf Tryz.prog 5) [] [] K = K (.B true) [] := by kernel_rfl
def pKnows : Prim := fun args m K => match args, m with | [], [] => K (.B true) [] | _, _ => False
def prims1 : Prims := fun f => match Nat.beq f 5 with | true => some pKnows | false => prims0 f
theorem prims1_ok [Pins] : PrimsOk Tryz.prog prims1 := by
  intro f g hg
  unfold prims1 at hg
  split at hg
  · rename_i hf
    obtain rfl := Nat.eq_of_beq_eq_true hf
    cases hg
    intro args m K E w cargs hS ha h
    unfold pKnows at h
    split at h
    · exact cbody_use named C0_ok at5 (l := 0) rfl (LoopsOk.none _ _) (knows_run K) hS ha h
    · exact h.elim
  · exact prims0_ok f g hg
def C1 : CC := callY Tryz.prog prims1 ranges 1000
theorem C1_ok [Pins] : CallsOk Tryz.prog C1 := callY_sound named prims1_ok 1000
end Go.Proofs.YtalikdlmmhblkaaGreat.mp
