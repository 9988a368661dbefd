import Derived.Test.YtaajhdkngiemlaaDoorFrmR
set_option linter.unusedVariables false
set_option maxHeartbeats 4000000
set_option maxRecDepth 100000
namespace Go.Proofs.YtaajhdkngiemlaaDoor.frm
open Go Go.Ab
def esF_l : List (V × V) := [(.S [108, 101, 97, 108], .agg [.I .i64 2, .I .i64 4, .I .i64 0]), (.S [108, 101, 97, 113], .agg [.I .i64 2, .I .i64 8, .I .i64 0]), (.S [108, 101, 97, 118, 101], .agg [.I .i64 26, .I .i64 0, .I .i64 0])]
theorem find_l (r : List Int) (K : V → Mem → Prop) : cbody Tryd.prog Ci (fun _ => none) 1000 (fnOf Tryd.prog 14) [.S (108 :: r)] [] K = lookK (fun v b => K (resV v b) []) (.S (108 :: r)) (.agg [.I .i64 0, .I .i64 0, .I .i64 0]) esF_l := by kernel_rfl
end Go.Proofs.YtaajhdkngiemlaaDoor.frm
