import Derived.Test.YtaajhdkngiemlaaDoorFrmR
set_option linter.unusedVariables false
set_option maxHeartbeats 4000000
set_option maxRecDepth 100000
namespace Go.Proofs.YtaajhdkngiemlaaDoor.frm
open Go Go.Ab
def esF_t : List (V × V) := [(.S [116, 101, 115, 116, 98], .agg [.I .i64 11, .I .i64 1, .I .i64 0]), (.S [116, 101, 115, 116, 108], .agg [.I .i64 11, .I .i64 4, .I .i64 0]), (.S [116, 101, 115, 116, 113], .agg [.I .i64 11, .I .i64 8, .I .i64 0])]
theorem find_t (r : List Int) (K : V → Mem → Prop) : cbody Tryd.prog Ci (fun _ => none) 1000 (fnOf Tryd.prog 14) [.S (116 :: r)] [] K = lookK (fun v b => K (resV v b) []) (.S (116 :: r)) (.agg [.I .i64 0, .I .i64 0, .I .i64 0]) esF_t := by kernel_rfl
end Go.Proofs.YtaajhdkngiemlaaDoor.frm
