import Derived.Test.YtaajhdkngiemlaaDoorFrmR
set_option linter.unusedVariables false
set_option maxHeartbeats 4000000
set_option maxRecDepth 100000
namespace Go.Proofs.YtaajhdkngiemlaaDoor.frm
open Go Go.Ab
def esF_x : List (V × V) := [(.S [120, 111, 114, 98], .agg [.I .i64 9, .I .i64 1, .I .i64 0]), (.S [120, 111, 114, 108], .agg [.I .i64 9, .I .i64 4, .I .i64 0]), (.S [120, 111, 114, 113], .agg [.I .i64 9, .I .i64 8, .I .i64 0]), (.S [120, 99, 104, 103, 108], .agg [.I .i64 31, .I .i64 4, .I .i64 0]), (.S [120, 99, 104, 103, 113], .agg [.I .i64 31, .I .i64 8, .I .i64 0])]
theorem find_x (r : List Int) (K : V → Mem → Prop) : cbody Tryd.prog Ci (fun _ => none) 1000 (fnOf Tryd.prog 14) [.S (120 :: r)] [] K = lookK (fun v b => K (resV v b) []) (.S (120 :: r)) (.agg [.I .i64 0, .I .i64 0, .I .i64 0]) esF_x := by kernel_rfl
end Go.Proofs.YtaajhdkngiemlaaDoor.frm
