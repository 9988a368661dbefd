import Derived.Test.YtaajhdkngiemlaaDoorFrmR
set_option linter.unusedVariables false
set_option maxHeartbeats 4000000
set_option maxRecDepth 100000
namespace Go.Proofs.YtaajhdkngiemlaaDoor.frm
open Go Go.Ab
def esF_i : List (V × V) := [(.S [105, 109, 117, 108, 108], .agg [.I .i64 12, .I .i64 4, .I .i64 0]), (.S [105, 109, 117, 108, 113], .agg [.I .i64 12, .I .i64 8, .I .i64 0]), (.S [105, 110, 99, 98], .agg [.I .i64 15, .I .i64 1, .I .i64 0]), (.S [105, 110, 99, 108], .agg [.I .i64 15, .I .i64 4, .I .i64 0]), (.S [105, 110, 99, 113], .agg [.I .i64 15, .I .i64 8, .I .i64 0])]
theorem find_i (r : List Int) (K : V → Mem → Prop) : cbody Tryd.prog Ci (fun _ => none) 1000 (fnOf Tryd.prog 14) [.S (105 :: r)] [] K = lookK (fun v b => K (resV v b) []) (.S (105 :: r)) (.agg [.I .i64 0, .I .i64 0, .I .i64 0]) esF_i := by kernel_rfl
end Go.Proofs.YtaajhdkngiemlaaDoor.frm
