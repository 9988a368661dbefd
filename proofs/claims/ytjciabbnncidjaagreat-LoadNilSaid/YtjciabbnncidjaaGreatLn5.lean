import Derived.Test.YtjciabbnncidjaaGreatLn4
set_option linter.unusedVariables false
set_option linter.unusedSimpArgs false
set_option maxHeartbeats 4000000
set_option maxRecDepth 100000
namespace Go.Proofs.YtjciabbnncidjaaGreat.ln
open Go Go.Ab
theorem at3 : Tryz.prog.funcs[3]? = some (fnOf Tryz.prog 3) := by kernel_rfl
theorem nil_run (n : Int) (K : V → Mem → Prop) : cbody Tryz.prog C3 (fun _ => none) 1000 (fnOf Tryz.prog 3) [.I .i64 n] [] K = K (.B true) [] := by kernel_rfl
end Go.Proofs.YtjciabbnncidjaaGreat.ln
