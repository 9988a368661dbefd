import Derived.Test.YtgdmellcbgalaaaGreatRrN
set_option linter.unusedVariables false
set_option linter.unusedSimpArgs false
set_option maxHeartbeats 4000000
set_option maxRecDepth 100000
namespace Go.Proofs.YtgdmellcbgalaaaGreat.rrx
open Go Go.Ab
theorem try_141_8 (f104 : Y104) (p0 p1 p2 p3 : Int) (rest : List Int) (K : V → Mem → Prop) : cbodyD Tryz.prog (CN f104) (fun _ => none) 1000 (fnOf Tryz.prog 10) [.sl 0 0 none none] [⟨[.ints .u8 (76 :: 141 :: 5 :: p0 :: p1 :: p2 :: p3 :: rest)], 5, true, false⟩] K =
    read3 ((((List.length (76 :: 141 :: 5 :: p0 :: p1 :: p2 :: p3 :: rest)) - (0 : Nat)) : Nat) : Int) (f104 76 (76 :: 141 :: 5 :: p0 :: p1 :: p2 :: p3 :: rest) (fun d => same5 d (K (.tup [inst 2 8 d, .I .i64 7, .I .i64 0]) [⟨[.ints .u8 (76 :: 141 :: 5 :: p0 :: p1 :: p2 :: p3 :: rest)], 5, true, false⟩]))) := by kernel_rfl
theorem wr_141_8 (d p0 p1 p2 p3 : Int) (K : V → Mem → Prop) : cbody Tryz.prog C0 (fun _ => none) 1000 (fnOf Tryz.prog 12) [inst 2 8 d, .sl 0 0 none none] [⟨[.ints .u8 [76, 141, 5, p0, p1, p2, p3]], 5, true, false⟩] K =
    wrF d 76 141 5 p0 p1 p2 p3 (K (.B true) [⟨[.ints .u8 [76, 141, 5, p0, p1, p2, p3]], 5, true, false⟩]) (K (.B false) [⟨[.ints .u8 [76, 141, 5, p0, p1, p2, p3]], 5, true, false⟩]) := by kernel_rfl
theorem try_141_9 (f104 : Y104) (p0 p1 p2 p3 : Int) (rest : List Int) (K : V → Mem → Prop) : cbodyD Tryz.prog (CN f104) (fun _ => none) 1000 (fnOf Tryz.prog 10) [.sl 0 0 none none] [⟨[.ints .u8 (76 :: 141 :: 13 :: p0 :: p1 :: p2 :: p3 :: rest)], 5, true, false⟩] K =
    read3 ((((List.length (76 :: 141 :: 13 :: p0 :: p1 :: p2 :: p3 :: rest)) - (0 : Nat)) : Nat) : Int) (f104 76 (76 :: 141 :: 13 :: p0 :: p1 :: p2 :: p3 :: rest) (fun d => same5 d (K (.tup [inst 2 9 d, .I .i64 7, .I .i64 0]) [⟨[.ints .u8 (76 :: 141 :: 13 :: p0 :: p1 :: p2 :: p3 :: rest)], 5, true, false⟩]))) := by kernel_rfl
theorem wr_141_9 (d p0 p1 p2 p3 : Int) (K : V → Mem → Prop) : cbody Tryz.prog C0 (fun _ => none) 1000 (fnOf Tryz.prog 12) [inst 2 9 d, .sl 0 0 none none] [⟨[.ints .u8 [76, 141, 13, p0, p1, p2, p3]], 5, true, false⟩] K =
    wrF d 76 141 13 p0 p1 p2 p3 (K (.B true) [⟨[.ints .u8 [76, 141, 13, p0, p1, p2, p3]], 5, true, false⟩]) (K (.B false) [⟨[.ints .u8 [76, 141, 13, p0, p1, p2, p3]], 5, true, false⟩]) := by kernel_rfl
theorem try_141_10 (f104 : Y104) (p0 p1 p2 p3 : Int) (rest : List Int) (K : V → Mem → Prop) : cbodyD Tryz.prog (CN f104) (fun _ => none) 1000 (fnOf Tryz.prog 10) [.sl 0 0 none none] [⟨[.ints .u8 (76 :: 141 :: 21 :: p0 :: p1 :: p2 :: p3 :: rest)], 5, true, false⟩] K =
    read3 ((((List.length (76 :: 141 :: 21 :: p0 :: p1 :: p2 :: p3 :: rest)) - (0 : Nat)) : Nat) : Int) (f104 76 (76 :: 141 :: 21 :: p0 :: p1 :: p2 :: p3 :: rest) (fun d => same5 d (K (.tup [inst 2 10 d, .I .i64 7, .I .i64 0]) [⟨[.ints .u8 (76 :: 141 :: 21 :: p0 :: p1 :: p2 :: p3 :: rest)], 5, true, false⟩]))) := by kernel_rfl
theorem wr_141_10 (d p0 p1 p2 p3 : Int) (K : V → Mem → Prop) : cbody Tryz.prog C0 (fun _ => none) 1000 (fnOf Tryz.prog 12) [inst 2 10 d, .sl 0 0 none none] [⟨[.ints .u8 [76, 141, 21, p0, p1, p2, p3]], 5, true, false⟩] K =
    wrF d 76 141 21 p0 p1 p2 p3 (K (.B true) [⟨[.ints .u8 [76, 141, 21, p0, p1, p2, p3]], 5, true, false⟩]) (K (.B false) [⟨[.ints .u8 [76, 141, 21, p0, p1, p2, p3]], 5, true, false⟩]) := by kernel_rfl
theorem try_141_11 (f104 : Y104) (p0 p1 p2 p3 : Int) (rest : List Int) (K : V → Mem → Prop) : cbodyD Tryz.prog (CN f104) (fun _ => none) 1000 (fnOf Tryz.prog 10) [.sl 0 0 none none] [⟨[.ints .u8 (76 :: 141 :: 29 :: p0 :: p1 :: p2 :: p3 :: rest)], 5, true, false⟩] K =
    read3 ((((List.length (76 :: 141 :: 29 :: p0 :: p1 :: p2 :: p3 :: rest)) - (0 : Nat)) : Nat) : Int) (f104 76 (76 :: 141 :: 29 :: p0 :: p1 :: p2 :: p3 :: rest) (fun d => same5 d (K (.tup [inst 2 11 d, .I .i64 7, .I .i64 0]) [⟨[.ints .u8 (76 :: 141 :: 29 :: p0 :: p1 :: p2 :: p3 :: rest)], 5, true, false⟩]))) := by kernel_rfl
theorem wr_141_11 (d p0 p1 p2 p3 : Int) (K : V → Mem → Prop) : cbody Tryz.prog C0 (fun _ => none) 1000 (fnOf Tryz.prog 12) [inst 2 11 d, .sl 0 0 none none] [⟨[.ints .u8 [76, 141, 29, p0, p1, p2, p3]], 5, true, false⟩] K =
    wrF d 76 141 29 p0 p1 p2 p3 (K (.B true) [⟨[.ints .u8 [76, 141, 29, p0, p1, p2, p3]], 5, true, false⟩]) (K (.B false) [⟨[.ints .u8 [76, 141, 29, p0, p1, p2, p3]], 5, true, false⟩]) := by kernel_rfl
end Go.Proofs.YtgdmellcbgalaaaGreat.rrx
