import Derived.Test.YtalikdlmmhblkaaGreatMn0
set_option linter.unusedVariables false
set_option linter.unusedSimpArgs false
set_option maxHeartbeats 4000000
set_option maxRecDepth 100000
namespace Go.Proofs.YtalikdlmmhblkaaGreat.mn
open Go Go.Ab
theorem at4 : Tryz.prog.funcs[4]? = some (fnOf Tryz.prog 4) := by kernel_rfl
theorem nil_run (x0 x1 x2 x3 x4 x5 x6 x7 x8 x9 x10 x11 x12 x13 x14 x15 x16 x17 n : Int) (b0 b1 b2 b3 b4 : Bool) (K : V → Mem → Prop) : cbody Tryz.prog C0 (fun _ => none) 1000 (fnOf Tryz.prog 4) [(.agg [.I .u64 x0, .I .u64 x1, .I .u64 x2, .I .u64 x3, .I .u64 x4, .I .u64 x5, .I .u64 x6, .I .u64 x7, .I .u64 x8, .I .u64 x9, .I .u64 x10, .I .u64 x11, .I .u64 x12, .I .u64 x13, .I .u64 x14, .I .u64 x15, .I .u64 x16, .I .u64 x17, .B b0, .B b1, .B b2, .B b3, .B b4]), .I .i64 n] [] K = K (.B true) [] := by kernel_rfl
end Go.Proofs.YtalikdlmmhblkaaGreat.mn
