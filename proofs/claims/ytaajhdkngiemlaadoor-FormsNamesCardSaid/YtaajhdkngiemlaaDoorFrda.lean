import Derived.Test.YtaajhdkngiemlaaDoorFrmR
set_option linter.unusedVariables false
set_option maxHeartbeats 4000000
set_option maxRecDepth 100000
namespace Go.Proofs.YtaajhdkngiemlaaDoor.frm
open Go Go.Ab
def esF_a : List (V × V) := [(.S [97, 100, 100, 98], .agg [.I .i64 3, .I .i64 1, .I .i64 0]), (.S [97, 100, 100, 108], .agg [.I .i64 3, .I .i64 4, .I .i64 0]), (.S [97, 100, 100, 113], .agg [.I .i64 3, .I .i64 8, .I .i64 0]), (.S [97, 100, 99, 98], .agg [.I .i64 5, .I .i64 1, .I .i64 0]), (.S [97, 100, 99, 108], .agg [.I .i64 5, .I .i64 4, .I .i64 0]), (.S [97, 100, 99, 113], .agg [.I .i64 5, .I .i64 8, .I .i64 0]), (.S [97, 110, 100, 98], .agg [.I .i64 7, .I .i64 1, .I .i64 0]), (.S [97, 110, 100, 108], .agg [.I .i64 7, .I .i64 4, .I .i64 0]), (.S [97, 110, 100, 113], .agg [.I .i64 7, .I .i64 8, .I .i64 0])]
theorem find_a (r : List Int) (K : V → Mem → Prop) : cbody Tryd.prog Ci (fun _ => none) 1000 (fnOf Tryd.prog 14) [.S (97 :: r)] [] K = lookK (fun v b => K (resV v b) []) (.S (97 :: r)) (.agg [.I .i64 0, .I .i64 0, .I .i64 0]) esF_a := by kernel_rfl
end Go.Proofs.YtaajhdkngiemlaaDoor.frm
