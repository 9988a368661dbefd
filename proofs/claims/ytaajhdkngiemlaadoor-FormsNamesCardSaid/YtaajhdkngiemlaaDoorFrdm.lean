import Derived.Test.YtaajhdkngiemlaaDoorFrmR
set_option linter.unusedVariables false
set_option maxHeartbeats 4000000
set_option maxRecDepth 100000
namespace Go.Proofs.YtaajhdkngiemlaaDoor.frm
open Go Go.Ab
def esF_m : List (V × V) := [(.S [109, 111, 118, 98], .agg [.I .i64 1, .I .i64 1, .I .i64 0]), (.S [109, 111, 118, 108], .agg [.I .i64 1, .I .i64 4, .I .i64 0]), (.S [109, 111, 118, 113], .agg [.I .i64 1, .I .i64 8, .I .i64 0]), (.S [109, 111, 118, 122, 98, 108], .agg [.I .i64 29, .I .i64 4, .I .i64 0]), (.S [109, 111, 118, 122, 98, 113], .agg [.I .i64 29, .I .i64 8, .I .i64 0]), (.S [109, 111, 118, 115, 98, 108], .agg [.I .i64 30, .I .i64 4, .I .i64 0]), (.S [109, 111, 118, 115, 98, 113], .agg [.I .i64 30, .I .i64 8, .I .i64 0])]
theorem find_m (r : List Int) (K : V → Mem → Prop) : cbody Tryd.prog Ci (fun _ => none) 1000 (fnOf Tryd.prog 14) [.S (109 :: r)] [] K = lookK (fun v b => K (resV v b) []) (.S (109 :: r)) (.agg [.I .i64 0, .I .i64 0, .I .i64 0]) esF_m := by kernel_rfl
end Go.Proofs.YtaajhdkngiemlaaDoor.frm
