import Derived.Test.YtgdmellcbgalaaaGreatRrN
set_option linter.unusedVariables false
set_option linter.unusedSimpArgs false
set_option maxHeartbeats 4000000
set_option maxRecDepth 100000
namespace Go.Proofs.YtgdmellcbgalaaaGreat.rrx
open Go Go.Ab
theorem try_141_4 (f104 : Y104) (p0 p1 p2 p3 : Int) (rest : List Int) (K : V → Mem → Prop) : cbodyD Tryz.prog (CN f104) (fun _ => none) 1000 (fnOf Tryz.prog 10) [.sl 0 0 none none] [⟨[.ints .u8 (72 :: 141 :: 37 :: p0 :: p1 :: p2 :: p3 :: rest)], 5, true, false⟩] K =
    read3 ((((List.length (72 :: 141 :: 37 :: p0 :: p1 :: p2 :: p3 :: rest)) - (0 : Nat)) : Nat) : Int) (f104 72 (72 :: 141 :: 37 :: p0 :: p1 :: p2 :: p3 :: rest) (fun d => same5 d (K (.tup [inst 2 4 d, .I .i64 7, .I .i64 0]) [⟨[.ints .u8 (72 :: 141 :: 37 :: p0 :: p1 :: p2 :: p3 :: rest)], 5, true, false⟩]))) := by kernel_rfl
theorem wr_141_4 (d p0 p1 p2 p3 : Int) (K : V → Mem → Prop) : cbody Tryz.prog C0 (fun _ => none) 1000 (fnOf Tryz.prog 12) [inst 2 4 d, .sl 0 0 none none] [⟨[.ints .u8 [72, 141, 37, p0, p1, p2, p3]], 5, true, false⟩] K =
    wrF d 72 141 37 p0 p1 p2 p3 (K (.B true) [⟨[.ints .u8 [72, 141, 37, p0, p1, p2, p3]], 5, true, false⟩]) (K (.B false) [⟨[.ints .u8 [72, 141, 37, p0, p1, p2, p3]], 5, true, false⟩]) := by kernel_rfl
theorem try_141_5 (f104 : Y104) (p0 p1 p2 p3 : Int) (rest : List Int) (K : V → Mem → Prop) : cbodyD Tryz.prog (CN f104) (fun _ => none) 1000 (fnOf Tryz.prog 10) [.sl 0 0 none none] [⟨[.ints .u8 (72 :: 141 :: 45 :: p0 :: p1 :: p2 :: p3 :: rest)], 5, true, false⟩] K =
    read3 ((((List.length (72 :: 141 :: 45 :: p0 :: p1 :: p2 :: p3 :: rest)) - (0 : Nat)) : Nat) : Int) (f104 72 (72 :: 141 :: 45 :: p0 :: p1 :: p2 :: p3 :: rest) (fun d => same5 d (K (.tup [inst 2 5 d, .I .i64 7, .I .i64 0]) [⟨[.ints .u8 (72 :: 141 :: 45 :: p0 :: p1 :: p2 :: p3 :: rest)], 5, true, false⟩]))) := by kernel_rfl
theorem wr_141_5 (d p0 p1 p2 p3 : Int) (K : V → Mem → Prop) : cbody Tryz.prog C0 (fun _ => none) 1000 (fnOf Tryz.prog 12) [inst 2 5 d, .sl 0 0 none none] [⟨[.ints .u8 [72, 141, 45, p0, p1, p2, p3]], 5, true, false⟩] K =
    wrF d 72 141 45 p0 p1 p2 p3 (K (.B true) [⟨[.ints .u8 [72, 141, 45, p0, p1, p2, p3]], 5, true, false⟩]) (K (.B false) [⟨[.ints .u8 [72, 141, 45, p0, p1, p2, p3]], 5, true, false⟩]) := by kernel_rfl
theorem try_141_6 (f104 : Y104) (p0 p1 p2 p3 : Int) (rest : List Int) (K : V → Mem → Prop) : cbodyD Tryz.prog (CN f104) (fun _ => none) 1000 (fnOf Tryz.prog 10) [.sl 0 0 none none] [⟨[.ints .u8 (72 :: 141 :: 53 :: p0 :: p1 :: p2 :: p3 :: rest)], 5, true, false⟩] K =
    read3 ((((List.length (72 :: 141 :: 53 :: p0 :: p1 :: p2 :: p3 :: rest)) - (0 : Nat)) : Nat) : Int) (f104 72 (72 :: 141 :: 53 :: p0 :: p1 :: p2 :: p3 :: rest) (fun d => same5 d (K (.tup [inst 2 6 d, .I .i64 7, .I .i64 0]) [⟨[.ints .u8 (72 :: 141 :: 53 :: p0 :: p1 :: p2 :: p3 :: rest)], 5, true, false⟩]))) := by kernel_rfl
theorem wr_141_6 (d p0 p1 p2 p3 : Int) (K : V → Mem → Prop) : cbody Tryz.prog C0 (fun _ => none) 1000 (fnOf Tryz.prog 12) [inst 2 6 d, .sl 0 0 none none] [⟨[.ints .u8 [72, 141, 53, p0, p1, p2, p3]], 5, true, false⟩] K =
    wrF d 72 141 53 p0 p1 p2 p3 (K (.B true) [⟨[.ints .u8 [72, 141, 53, p0, p1, p2, p3]], 5, true, false⟩]) (K (.B false) [⟨[.ints .u8 [72, 141, 53, p0, p1, p2, p3]], 5, true, false⟩]) := by kernel_rfl
theorem try_141_7 (f104 : Y104) (p0 p1 p2 p3 : Int) (rest : List Int) (K : V → Mem → Prop) : cbodyD Tryz.prog (CN f104) (fun _ => none) 1000 (fnOf Tryz.prog 10) [.sl 0 0 none none] [⟨[.ints .u8 (72 :: 141 :: 61 :: p0 :: p1 :: p2 :: p3 :: rest)], 5, true, false⟩] K =
    read3 ((((List.length (72 :: 141 :: 61 :: p0 :: p1 :: p2 :: p3 :: rest)) - (0 : Nat)) : Nat) : Int) (f104 72 (72 :: 141 :: 61 :: p0 :: p1 :: p2 :: p3 :: rest) (fun d => same5 d (K (.tup [inst 2 7 d, .I .i64 7, .I .i64 0]) [⟨[.ints .u8 (72 :: 141 :: 61 :: p0 :: p1 :: p2 :: p3 :: rest)], 5, true, false⟩]))) := by kernel_rfl
theorem wr_141_7 (d p0 p1 p2 p3 : Int) (K : V → Mem → Prop) : cbody Tryz.prog C0 (fun _ => none) 1000 (fnOf Tryz.prog 12) [inst 2 7 d, .sl 0 0 none none] [⟨[.ints .u8 [72, 141, 61, p0, p1, p2, p3]], 5, true, false⟩] K =
    wrF d 72 141 61 p0 p1 p2 p3 (K (.B true) [⟨[.ints .u8 [72, 141, 61, p0, p1, p2, p3]], 5, true, false⟩]) (K (.B false) [⟨[.ints .u8 [72, 141, 61, p0, p1, p2, p3]], 5, true, false⟩]) := by kernel_rfl
end Go.Proofs.YtgdmellcbgalaaaGreat.rrx
