import Derived.Test.YtaajhdkngiemlaaDoorFrmR
set_option linter.unusedVariables false
set_option maxHeartbeats 4000000
set_option maxRecDepth 100000
namespace Go.Proofs.YtaajhdkngiemlaaDoor.frm
open Go Go.Ab
def esF_u : List (V × V) := [(.S [117, 100, 50], .agg [.I .i64 34, .I .i64 0, .I .i64 0])]
theorem find_u (r : List Int) (K : V → Mem → Prop) : cbody Tryd.prog Ci (fun _ => none) 1000 (fnOf Tryd.prog 14) [.S (117 :: r)] [] K = lookK (fun v b => K (resV v b) []) (.S (117 :: r)) (.agg [.I .i64 0, .I .i64 0, .I .i64 0]) esF_u := by kernel_rfl
end Go.Proofs.YtaajhdkngiemlaaDoor.frm
