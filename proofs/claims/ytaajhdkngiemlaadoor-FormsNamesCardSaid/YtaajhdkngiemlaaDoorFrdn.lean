import Derived.Test.YtaajhdkngiemlaaDoorFrmR
set_option linter.unusedVariables false
set_option maxHeartbeats 4000000
set_option maxRecDepth 100000
namespace Go.Proofs.YtaajhdkngiemlaaDoor.frm
open Go Go.Ab
def esF_n : List (V × V) := [(.S [110, 101, 103, 98], .agg [.I .i64 13, .I .i64 1, .I .i64 0]), (.S [110, 101, 103, 108], .agg [.I .i64 13, .I .i64 4, .I .i64 0]), (.S [110, 101, 103, 113], .agg [.I .i64 13, .I .i64 8, .I .i64 0]), (.S [110, 111, 116, 98], .agg [.I .i64 14, .I .i64 1, .I .i64 0]), (.S [110, 111, 116, 108], .agg [.I .i64 14, .I .i64 4, .I .i64 0]), (.S [110, 111, 116, 113], .agg [.I .i64 14, .I .i64 8, .I .i64 0]), (.S [110, 111, 112], .agg [.I .i64 33, .I .i64 0, .I .i64 0])]
theorem find_n (r : List Int) (K : V → Mem → Prop) : cbody Tryd.prog Ci (fun _ => none) 1000 (fnOf Tryd.prog 14) [.S (110 :: r)] [] K = lookK (fun v b => K (resV v b) []) (.S (110 :: r)) (.agg [.I .i64 0, .I .i64 0, .I .i64 0]) esF_n := by kernel_rfl
end Go.Proofs.YtaajhdkngiemlaaDoor.frm
