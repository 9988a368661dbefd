/- the context: functions without a body, loops over functions. -/
import Derived.Test.YtjciabbnncidjaaGreatProg
import Derived.Test.YtjciabbnncidjaaGreatAbExt
import Derived.Test.YtjciabbnncidjaaGreatAbSee
import Derived.Test.YtjciabbnncidjaaGreatAbLaw
import Derived.Test.YtjciabbnncidjaaGreatAbChan
import Derived.Test.YtjciabbnncidjaaGreatAbRows
set_option linter.unusedVariables false
set_option linter.unusedSimpArgs false
set_option maxHeartbeats 4000000
set_option maxRecDepth 100000
namespace Go.Proofs.YtjciabbnncidjaaGreat.ln
open Go Go.Ab
theorem named : Named Tryz.prog := by
  have h : Tryz.prog.funcs.toList.all (fun fn => !(fn.name == "runtime.NumGoroutine")) = true := by kernel_rfl
  intro g fn hf
  have := List.all_eq_true.1 h fn (by rw [Array.getElem?_eq_some_iff] at hf; obtain ⟨h1, rfl⟩ := hf; simp)
  simpa using this
theorem stands {f : FuncId} {e : Array Value → Sem Value} (hf : Tryz.prog.funcs[f]? = some (fnOf Tryz.prog f)) (h1 : ((fnOf Tryz.prog f).name == "runtime.NumGoroutine") = false) (h2 : (fnOf Tryz.prog f).body.isNone = true)
    (h3 : Extern.findNext (fnOf Tryz.prog f) = none) (h4 : Extern.find (fnOf Tryz.prog f) = some e) : Stands Tryz.prog f e := ⟨_, hf, h1, h2, h3, h4⟩
def prims0 : Prims := fun f =>
  match Nat.beq f 146 with
  | true => some pAdd64
  | false =>
  match Nat.beq f 150 with
  | true => some pSub64
  | false =>
  match Nat.beq f 251 with
  | true => some pIdx
  | false => none
theorem prims0_ok [Pins] : PrimsOk Tryz.prog prims0 := by
  intro f g hg
  unfold prims0 at hg
  split at hg
  · rename_i hf
    obtain rfl := Nat.eq_of_beq_eq_true hf
    cases hg
    exact pAdd64_ok (stands (by kernel_rfl) (by kernel_rfl) (by kernel_rfl) (by kernel_rfl) (by kernel_rfl))
  · skip
    split at hg
    · rename_i hf
      obtain rfl := Nat.eq_of_beq_eq_true hf
      cases hg
      exact pSub64_ok (stands (by kernel_rfl) (by kernel_rfl) (by kernel_rfl) (by kernel_rfl) (by kernel_rfl))
    · skip
      split at hg
      · rename_i hf
        obtain rfl := Nat.eq_of_beq_eq_true hf
        cases hg
        exact pIdx_ok (stands (by kernel_rfl) (by kernel_rfl) (by kernel_rfl) (by kernel_rfl) (by kernel_rfl))
      · skip
        cases hg
def rangesF : List FuncId := [46, 55, 93, 129]
def loopsM : List (Nat × Nat) := [(44, 6)]
def chansF : List FuncId := [9]
def C0 : CC := callZ Tryz.prog prims0 rangesF loopsM chansF 1000
theorem C0_ok [Pins] : CallsOk Tryz.prog C0 := callZ_sound named prims0_ok 1000
end Go.Proofs.YtjciabbnncidjaaGreat.ln
