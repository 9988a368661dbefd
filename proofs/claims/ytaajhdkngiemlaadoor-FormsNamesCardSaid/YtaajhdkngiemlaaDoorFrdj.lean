import Derived.Test.YtaajhdkngiemlaaDoorFrmR
set_option linter.unusedVariables false
set_option maxHeartbeats 4000000
set_option maxRecDepth 100000
namespace Go.Proofs.YtaajhdkngiemlaaDoor.frm
open Go Go.Ab
def esF_j : List (V × V) := [(.S [106, 109, 112], .agg [.I .i64 23, .I .i64 8, .I .i64 0]), (.S [106, 111], .agg [.I .i64 24, .I .i64 8, .I .i64 0]), (.S [106, 110, 111], .agg [.I .i64 24, .I .i64 8, .I .i64 1]), (.S [106, 98], .agg [.I .i64 24, .I .i64 8, .I .i64 2]), (.S [106, 97, 101], .agg [.I .i64 24, .I .i64 8, .I .i64 3]), (.S [106, 101], .agg [.I .i64 24, .I .i64 8, .I .i64 4]), (.S [106, 110, 101], .agg [.I .i64 24, .I .i64 8, .I .i64 5]), (.S [106, 98, 101], .agg [.I .i64 24, .I .i64 8, .I .i64 6]), (.S [106, 97], .agg [.I .i64 24, .I .i64 8, .I .i64 7]), (.S [106, 115], .agg [.I .i64 24, .I .i64 8, .I .i64 8]), (.S [106, 110, 115], .agg [.I .i64 24, .I .i64 8, .I .i64 9]), (.S [106, 112], .agg [.I .i64 24, .I .i64 8, .I .i64 10]), (.S [106, 110, 112], .agg [.I .i64 24, .I .i64 8, .I .i64 11]), (.S [106, 108], .agg [.I .i64 24, .I .i64 8, .I .i64 12]), (.S [106, 103, 101], .agg [.I .i64 24, .I .i64 8, .I .i64 13]), (.S [106, 108, 101], .agg [.I .i64 24, .I .i64 8, .I .i64 14]), (.S [106, 103], .agg [.I .i64 24, .I .i64 8, .I .i64 15])]
theorem find_j (r : List Int) (K : V → Mem → Prop) : cbody Tryd.prog Ci (fun _ => none) 1000 (fnOf Tryd.prog 14) [.S (106 :: r)] [] K = lookK (fun v b => K (resV v b) []) (.S (106 :: r)) (.agg [.I .i64 0, .I .i64 0, .I .i64 0]) esF_j := by kernel_rfl
end Go.Proofs.YtaajhdkngiemlaaDoor.frm
