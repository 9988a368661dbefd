import Derived.Test.YtaajhdkngiemlaaDoorFrmR
set_option linter.unusedVariables false
set_option maxHeartbeats 4000000
set_option maxRecDepth 100000
namespace Go.Proofs.YtaajhdkngiemlaaDoor.frm
open Go Go.Ab
def esF_p : List (V × V) := [(.S [112, 117, 115, 104, 113], .agg [.I .i64 20, .I .i64 8, .I .i64 0]), (.S [112, 111, 112, 113], .agg [.I .i64 21, .I .i64 8, .I .i64 0])]
theorem find_p (r : List Int) (K : V → Mem → Prop) : cbody Tryd.prog Ci (fun _ => none) 1000 (fnOf Tryd.prog 14) [.S (112 :: r)] [] K = lookK (fun v b => K (resV v b) []) (.S (112 :: r)) (.agg [.I .i64 0, .I .i64 0, .I .i64 0]) esF_p := by kernel_rfl
end Go.Proofs.YtaajhdkngiemlaaDoor.frm
