/-
  'gangwaylaw21.TlsBecomes' returns true for every input, and leaves what it was handed as it was. No condition; the listed variables are not read.
-/
import Derived.Test.YtgdmellcbgalaaaGreatDoorTbN1
import Derived.Test.YtgdmellcbgalaaaGreatDoorTbN2
import Derived.Test.YtgdmellcbgalaaaGreatDoorTbN3
import Derived.Test.YtgdmellcbgalaaaGreatDoorTbN4
import Derived.Test.YtgdmellcbgalaaaGreatDoorTbN5
import Derived.Test.YtgdmellcbgalaaaGreatDoorTbN6
import Derived.Test.YtgdmellcbgalaaaGreatDoorTbN7
import Derived.Test.YtgdmellcbgalaaaGreatDoorTbN8
import Derived.Test.YtgdmellcbgalaaaGreatDoorTbN9
import Derived.Test.YtgdmellcbgalaaaGreatDoorTbN10
import Derived.Test.YtgdmellcbgalaaaGreatDoorTbN11
import Derived.Test.YtgdmellcbgalaaaGreatDoorTbN12
import Derived.Test.YtgdmellcbgalaaaGreatDoorTbN13
import Derived.Test.YtgdmellcbgalaaaGreatDoorTbN14
import Derived.Test.YtgdmellcbgalaaaGreatDoorTbN15
import Derived.Test.YtgdmellcbgalaaaGreatDoorTbN16
import Derived.Test.YtgdmellcbgalaaaGreatDoorTbN17
import Derived.Test.YtgdmellcbgalaaaGreatDoorTbN18
import Derived.Test.YtgdmellcbgalaaaGreatDoorTie
import Derived.Test.YtgdmellcbgalaaaGreatDoorCards
import Derived.WalkKit
import Derived.ProofKit
import Derived.OpenShut
import Derived.ChangeMaps5
import Derived.JoinedCond
import Derived.Test.YtgdmellcbgalaaaGreatDoorAbLaw
import Derived.Deep.DeepLaidRun
import Derived.LaidHandle
import Derived.LaidLaws
import Derived.RowKitTokens
import Derived.SevenTiedAt
namespace Go.Proofs.YtgdmellcbgalaaaGreatDoor.tlsBecomes
open Go.ChangeMaps Go.ChangeShapes Go.WideShapes Go.ChangeAt Go.RowKit Go.Ab
set_option linter.unusedVariables false
theorem own : ownKnob Tryz.prog.godebug = none := by kernel_rfl
theorem kids : Kids Tryz.prog (· < Tryz.prog.types.size) := kids_rows (by kernel_rfl) (by kernel_rfl)
theorem full : ∀ t e, t < Tryz.prog.types.size → Tryz.prog.underlying t = some (.slice e) → 0 < Tryz.prog.cellsOf e := slices_full_of _ (by kernel_rfl)
set_option maxHeartbeats 4000000
theorem bif_t {a b : Prop} {c : Bool} (h : c = true) : (bif c then a else b) = a := by rw [h]; rfl
theorem useP {P : Program} (hN : Named P) {C : CC} (hC : CallsOk P C) {W : Masks} {n d N : Nat} {f : FuncId} {fn : Func} (hf : P.funcs[f]? = some fn) {c : Code} (hb : fn.body = some c) {args : List V} {m : Mem} {l : Nat} (hl : m.length = l) (hW : LoopsOk P l W) {K : V → Mem → Prop}
    (hM : max fn.ntmps args.length = N) {X : Prop} (hX : cpre P C W l n d c (Tr.puts 0 args (Tr.full (.tup []) N N)) m (kbody P l fn K) (fun c ρ m K => cexec P C W l n c ρ m K) = X)
    {E : Wh} {w : World} {cargs : Array Value} (hS : Sim E m w) (hargs : VsRel E args cargs.toList) (h : X) :
    ((∃ fn, P.funcs[f]? = some fn ∧ fn.body.isSome = true) ∧ Calls P f cargs w (Ret K E m w)) ∨ ∃ cv w', (callFunc f cargs).run P w = .ok (.value cv) w' ∧ Ret K E m w (.returned cv) w' := by
  subst hM; subst hX; exact cbodyP_use hN hC hf hb hl hW hS hargs h
theorem hM (m r o : Int) : max (fnOf Tryz.prog 3).ntmps ([V.I .i64 m, .I .i64 r, .I .i64 o] : List V).length = max (fnOf Tryz.prog 3).ntmps 3 := congrArg (max (fnOf Tryz.prog 3).ntmps) (show List.length [V.I .i64 m, .I .i64 r, .I .i64 o] = 3 from rfl)
theorem bif_f {a b : Prop} {c : Bool} (h : c = false) : (bif c then a else b) = b := by rw [h]; rfl
open tlb in
theorem three (m : Int) : (IntKind.wrap .i64 ((1 : Int) + (Int.tmod (IntKind.wrap .i64 ((Int.tmod m (3 : Int)) + (3 : Int))) (3 : Int)))) = 1 ∨ (IntKind.wrap .i64 ((1 : Int) + (Int.tmod (IntKind.wrap .i64 ((Int.tmod m (3 : Int)) + (3 : Int))) (3 : Int)))) = 2 ∨ (IntKind.wrap .i64 ((1 : Int) + (Int.tmod (IntKind.wrap .i64 ((Int.tmod m (3 : Int)) + (3 : Int))) (3 : Int)))) = 3 := by
  have h := Int.tmod_lt_of_pos m (show (0 : Int) < 3 by decide)
  have h' : -3 < Int.tmod m 3 := by have := Int.tmod_lt_of_pos (-m) (show (0 : Int) < 3 by decide); rw [Int.neg_tmod] at this; omega
  have e1 : IntKind.wrap .i64 (Int.tmod m 3 + 3) = Int.tmod m 3 + 3 := by simp [IntKind.wrap, IntKind.bits, IntKind.signed]; omega
  rw [e1]
  have e2 : Int.tmod (Int.tmod m 3 + 3) 3 = (Int.tmod m 3 + 3) % 3 := Int.tmod_eq_emod_of_nonneg (by omega)
  rw [e2]
  have e3 : IntKind.wrap .i64 (1 + (Int.tmod m 3 + 3) % 3) = 1 + (Int.tmod m 3 + 3) % 3 := by simp [IntKind.wrap, IntKind.bits, IntKind.signed]; omega
  rw [e3]
  omega
theorem sixteen (r : Int) : 0 ≤ (Int.tmod (IntKind.wrap .i64 ((Int.tmod r (16 : Int)) + (16 : Int))) (16 : Int)) ∧ (Int.tmod (IntKind.wrap .i64 ((Int.tmod r (16 : Int)) + (16 : Int))) (16 : Int)) < 16 := by
  have h := Int.tmod_lt_of_pos r (show (0 : Int) < 16 by decide)
  have h' : -16 < Int.tmod r 16 := by have := Int.tmod_lt_of_pos (-r) (show (0 : Int) < 16 by decide); rw [Int.neg_tmod] at this; omega
  have e1 : IntKind.wrap .i64 (Int.tmod r 16 + 16) = Int.tmod r 16 + 16 := by simp [IntKind.wrap, IntKind.bits, IntKind.signed]; omega
  rw [e1]
  have e2 : Int.tmod (Int.tmod r 16 + 16) 16 = (Int.tmod r 16 + 16) % 16 := Int.tmod_eq_emod_of_nonneg (by omega)
  rw [e2]
  omega
theorem within (o : Int) : -2147483648 ≤ (Int.tmod o (2147483648 : Int)) ∧ (Int.tmod o (2147483648 : Int)) < 2147483648 := by
  have h := Int.tmod_lt_of_pos o (show (0 : Int) < 2147483648 by decide)
  have h' : -2147483648 < Int.tmod o 2147483648 := by have := Int.tmod_lt_of_pos (-o) (show (0 : Int) < 2147483648 by decide); rw [Int.neg_tmod] at this; omega
  omega
theorem lt3 {x : Int} (h : x = 1 ∨ x = 2) : decide (x < 3) = true := by rcases h with rfl | rfl <;> rfl
open tlb in
theorem begin1 (C : CC) (m r o : Int) (hm : (IntKind.wrap .i64 ((1 : Int) + (Int.tmod (IntKind.wrap .i64 ((Int.tmod m (3 : Int)) + (3 : Int))) (3 : Int)))) = 1) (K : Ex → Env → Mem → Prop) (KX : Code → Env → Mem → (Ex → Env → Mem → Prop) → Prop) : cpre Tryz.prog C (fun _ => none) 0 1000 5 (bodyOf Tryz.prog 3) (Tr.puts 0 [.I .i64 m, .I .i64 r, .I .i64 o] (Tr.full (.tup []) (max (fnOf Tryz.prog 3).ntmps 3) (max (fnOf Tryz.prog 3).ntmps 3))) [] K KX = KX LawX (setsE [(0, (.I .i64 (1 : Int))), (1, (.I .i64 (0 : Int))), (2, (.I .i64 (Int.tmod o (2147483648 : Int)))), (6, (.B false)), (17, (.I .i64 m)), (18, (.I .i64 (Int.tmod m (3 : Int)))), (19, (.I .i64 (IntKind.wrap .i64 ((Int.tmod m (3 : Int)) + (3 : Int))))), (20, (.I .i64 (Int.tmod (IntKind.wrap .i64 ((Int.tmod m (3 : Int)) + (3 : Int))) (3 : Int)))), (21, (.I .i64 (1 : Int))), (22, (.I .i64 r)), (23, (.I .i64 (Int.tmod r (16 : Int)))), (24, (.I .i64 (IntKind.wrap .i64 ((Int.tmod r (16 : Int)) + (16 : Int))))), (25, (.I .i64 (Int.tmod (IntKind.wrap .i64 ((Int.tmod r (16 : Int)) + (16 : Int))) (16 : Int)))), (26, (.I .i64 o)), (27, (.I .i64 (Int.tmod o (2147483648 : Int)))), (28, (.I .i64 (1 : Int))), (29, (.B (decide ((1 : Int) < (3 : Int)))))] (Tr.full (.tup []) 193 193)) [] K :=
  (tlb.start C m r o K KX).trans (by rw [hm]; exact bif_t (by decide))
set_option maxRecDepth 100000 in
theorem case1 {E : Wh} {w : World} {cargs : Array Value} (m r o : Int) (hm : (IntKind.wrap .i64 ((1 : Int) + (Int.tmod (IntKind.wrap .i64 ((Int.tmod m (3 : Int)) + (3 : Int))) (3 : Int)))) = 1) (hS : Sim E [] w) (ha : VsRel E [.I .i64 m, .I .i64 r, .I .i64 o] cargs.toList) :
    ((∃ fn, Tryz.prog.funcs[3]? = some fn ∧ fn.body.isSome = true) ∧ Calls Tryz.prog 3 cargs w (Ret (fun v _ => v = .B true) E [] w)) ∨ ∃ cv w', (callFunc 3 cargs).run Tryz.prog w = .ok (.value cv) w' ∧ Ret (fun v _ => v = .B true) E [] w (.returned cv) w' := by
  have hb := begin1 (tlb.C_1 tlb.G33_0 tlb.G35_0 tlb.G33_1 tlb.G35_1) m r o hm (kbody Tryz.prog 0 (fnOf Tryz.prog 3) (fun v _ => v = .B true)) (fun c ρ m K => cexec Tryz.prog (tlb.C_1 tlb.G33_0 tlb.G35_0 tlb.G33_1 tlb.G35_1) (fun _ => none) 0 1000 c ρ m K)
  have h2 := hb.trans (tlb.run_1 tlb.G33_0 tlb.G35_0 tlb.G33_1 tlb.G35_1 (Int.tmod o (2147483648 : Int)) _ _ _ _ _ _ _ _ _ _ _ _ _ (fun v _ => v = .B true))
  exact useP (P := Tryz.prog) (C := (tlb.C_1 tlb.G33_0 tlb.G35_0 tlb.G33_1 tlb.G35_1)) (d := 5) (n := 1000) (W := fun _ => none) (f := 3) (fn := fnOf Tryz.prog 3) (c := bodyOf Tryz.prog 3) (args := [.I .i64 m, .I .i64 r, .I .i64 o]) (m := []) (K := fun v _ => v = .B true) (E := E) (w := w) (cargs := cargs) tlb.named tlb.C_1_ok tlb.at3 tlb.body3 (l := 0) rfl (LoopsOk.none _ _) (hM m r o) h2 hS ha (tlb.t1 (within o).1 (within o).2 rfl)
open tlb in
theorem begin2 (C : CC) (m r o : Int) (hm : (IntKind.wrap .i64 ((1 : Int) + (Int.tmod (IntKind.wrap .i64 ((Int.tmod m (3 : Int)) + (3 : Int))) (3 : Int)))) = 2) (K : Ex → Env → Mem → Prop) (KX : Code → Env → Mem → (Ex → Env → Mem → Prop) → Prop) : cpre Tryz.prog C (fun _ => none) 0 1000 5 (bodyOf Tryz.prog 3) (Tr.puts 0 [.I .i64 m, .I .i64 r, .I .i64 o] (Tr.full (.tup []) (max (fnOf Tryz.prog 3).ntmps 3) (max (fnOf Tryz.prog 3).ntmps 3))) [] K KX = KX LawX (setsE [(0, (.I .i64 (2 : Int))), (1, (.I .i64 (0 : Int))), (2, (.I .i64 (Int.tmod o (2147483648 : Int)))), (6, (.B false)), (17, (.I .i64 m)), (18, (.I .i64 (Int.tmod m (3 : Int)))), (19, (.I .i64 (IntKind.wrap .i64 ((Int.tmod m (3 : Int)) + (3 : Int))))), (20, (.I .i64 (Int.tmod (IntKind.wrap .i64 ((Int.tmod m (3 : Int)) + (3 : Int))) (3 : Int)))), (21, (.I .i64 (2 : Int))), (22, (.I .i64 r)), (23, (.I .i64 (Int.tmod r (16 : Int)))), (24, (.I .i64 (IntKind.wrap .i64 ((Int.tmod r (16 : Int)) + (16 : Int))))), (25, (.I .i64 (Int.tmod (IntKind.wrap .i64 ((Int.tmod r (16 : Int)) + (16 : Int))) (16 : Int)))), (26, (.I .i64 o)), (27, (.I .i64 (Int.tmod o (2147483648 : Int)))), (28, (.I .i64 (2 : Int))), (29, (.B (decide ((2 : Int) < (3 : Int)))))] (Tr.full (.tup []) 193 193)) [] K :=
  (tlb.start C m r o K KX).trans (by rw [hm]; exact bif_t (by decide))
set_option maxRecDepth 100000 in
theorem case2 {E : Wh} {w : World} {cargs : Array Value} (m r o : Int) (hm : (IntKind.wrap .i64 ((1 : Int) + (Int.tmod (IntKind.wrap .i64 ((Int.tmod m (3 : Int)) + (3 : Int))) (3 : Int)))) = 2) (hS : Sim E [] w) (ha : VsRel E [.I .i64 m, .I .i64 r, .I .i64 o] cargs.toList) :
    ((∃ fn, Tryz.prog.funcs[3]? = some fn ∧ fn.body.isSome = true) ∧ Calls Tryz.prog 3 cargs w (Ret (fun v _ => v = .B true) E [] w)) ∨ ∃ cv w', (callFunc 3 cargs).run Tryz.prog w = .ok (.value cv) w' ∧ Ret (fun v _ => v = .B true) E [] w (.returned cv) w' := by
  have hb := begin2 (tlb.C_2 ) m r o hm (kbody Tryz.prog 0 (fnOf Tryz.prog 3) (fun v _ => v = .B true)) (fun c ρ m K => cexec Tryz.prog (tlb.C_2 ) (fun _ => none) 0 1000 c ρ m K)
  have h2 := hb.trans (tlb.run_2  (Int.tmod o (2147483648 : Int)) _ _ _ _ _ _ _ _ _ _ _ _ _ (fun v _ => v = .B true))
  exact useP (P := Tryz.prog) (C := (tlb.C_2 )) (d := 5) (n := 1000) (W := fun _ => none) (f := 3) (fn := fnOf Tryz.prog 3) (c := bodyOf Tryz.prog 3) (args := [.I .i64 m, .I .i64 r, .I .i64 o]) (m := []) (K := fun v _ => v = .B true) (E := E) (w := w) (cargs := cargs) tlb.named tlb.C_2_ok tlb.at3 tlb.body3 (l := 0) rfl (LoopsOk.none _ _) (hM m r o) h2 hS ha (tlb.t2 (within o).1 (within o).2 rfl)
open tlb in
theorem begin3 (C : CC) (m r o : Int) (hm : (IntKind.wrap .i64 ((1 : Int) + (Int.tmod (IntKind.wrap .i64 ((Int.tmod m (3 : Int)) + (3 : Int))) (3 : Int)))) = 3) (hr : (Int.tmod (IntKind.wrap .i64 ((Int.tmod r (16 : Int)) + (16 : Int))) (16 : Int)) = 0) (K : Ex → Env → Mem → Prop) (KX : Code → Env → Mem → (Ex → Env → Mem → Prop) → Prop) : cpre Tryz.prog C (fun _ => none) 0 1000 5 (bodyOf Tryz.prog 3) (Tr.puts 0 [.I .i64 m, .I .i64 r, .I .i64 o] (Tr.full (.tup []) (max (fnOf Tryz.prog 3).ntmps 3) (max (fnOf Tryz.prog 3).ntmps 3))) [] K KX = KX LawX (setsE [(0, (.I .i64 (3 : Int))), (1, (.I .i64 (0 : Int))), (2, (.I .i64 (Int.tmod o (2147483648 : Int)))), (6, (.B false)), (17, (.I .i64 m)), (18, (.I .i64 (Int.tmod m (3 : Int)))), (19, (.I .i64 (IntKind.wrap .i64 ((Int.tmod m (3 : Int)) + (3 : Int))))), (20, (.I .i64 (Int.tmod (IntKind.wrap .i64 ((Int.tmod m (3 : Int)) + (3 : Int))) (3 : Int)))), (21, (.I .i64 (3 : Int))), (22, (.I .i64 r)), (23, (.I .i64 (Int.tmod r (16 : Int)))), (24, (.I .i64 (IntKind.wrap .i64 ((Int.tmod r (16 : Int)) + (16 : Int))))), (25, (.I .i64 (0 : Int))), (26, (.I .i64 o)), (27, (.I .i64 (Int.tmod o (2147483648 : Int)))), (28, (.I .i64 (3 : Int))), (29, (.B (decide ((3 : Int) < (3 : Int)))))] (Tr.full (.tup []) 193 193)) [] K :=
  (tlb.start C m r o K KX).trans (by rw [hm, hr]; exact bif_f (by decide))
set_option maxRecDepth 100000 in
theorem case3 {E : Wh} {w : World} {cargs : Array Value} (m r o : Int) (hm : (IntKind.wrap .i64 ((1 : Int) + (Int.tmod (IntKind.wrap .i64 ((Int.tmod m (3 : Int)) + (3 : Int))) (3 : Int)))) = 3) (hr : (Int.tmod (IntKind.wrap .i64 ((Int.tmod r (16 : Int)) + (16 : Int))) (16 : Int)) = 0) (hS : Sim E [] w) (ha : VsRel E [.I .i64 m, .I .i64 r, .I .i64 o] cargs.toList) :
    ((∃ fn, Tryz.prog.funcs[3]? = some fn ∧ fn.body.isSome = true) ∧ Calls Tryz.prog 3 cargs w (Ret (fun v _ => v = .B true) E [] w)) ∨ ∃ cv w', (callFunc 3 cargs).run Tryz.prog w = .ok (.value cv) w' ∧ Ret (fun v _ => v = .B true) E [] w (.returned cv) w' := by
  have hb := begin3 (tlb.C_3 tlb.G33_2 tlb.G35_2) m r o hm hr (kbody Tryz.prog 0 (fnOf Tryz.prog 3) (fun v _ => v = .B true)) (fun c ρ m K => cexec Tryz.prog (tlb.C_3 tlb.G33_2 tlb.G35_2) (fun _ => none) 0 1000 c ρ m K)
  have h2 := hb.trans (tlb.run_3 tlb.G33_2 tlb.G35_2 (Int.tmod o (2147483648 : Int)) _ _ _ _ _ _ _ _ _ _ _ _ _ (fun v _ => v = .B true))
  exact useP (P := Tryz.prog) (C := (tlb.C_3 tlb.G33_2 tlb.G35_2)) (d := 5) (n := 1000) (W := fun _ => none) (f := 3) (fn := fnOf Tryz.prog 3) (c := bodyOf Tryz.prog 3) (args := [.I .i64 m, .I .i64 r, .I .i64 o]) (m := []) (K := fun v _ => v = .B true) (E := E) (w := w) (cargs := cargs) tlb.named tlb.C_3_ok tlb.at3 tlb.body3 (l := 0) rfl (LoopsOk.none _ _) (hM m r o) h2 hS ha (tlb.t3 (within o).1 (within o).2 rfl)
open tlb in
theorem begin4 (C : CC) (m r o : Int) (hm : (IntKind.wrap .i64 ((1 : Int) + (Int.tmod (IntKind.wrap .i64 ((Int.tmod m (3 : Int)) + (3 : Int))) (3 : Int)))) = 3) (hr : (Int.tmod (IntKind.wrap .i64 ((Int.tmod r (16 : Int)) + (16 : Int))) (16 : Int)) = 1) (K : Ex → Env → Mem → Prop) (KX : Code → Env → Mem → (Ex → Env → Mem → Prop) → Prop) : cpre Tryz.prog C (fun _ => none) 0 1000 5 (bodyOf Tryz.prog 3) (Tr.puts 0 [.I .i64 m, .I .i64 r, .I .i64 o] (Tr.full (.tup []) (max (fnOf Tryz.prog 3).ntmps 3) (max (fnOf Tryz.prog 3).ntmps 3))) [] K KX = KX LawX (setsE [(0, (.I .i64 (3 : Int))), (1, (.I .i64 (1 : Int))), (2, (.I .i64 (Int.tmod o (2147483648 : Int)))), (6, (.B false)), (17, (.I .i64 m)), (18, (.I .i64 (Int.tmod m (3 : Int)))), (19, (.I .i64 (IntKind.wrap .i64 ((Int.tmod m (3 : Int)) + (3 : Int))))), (20, (.I .i64 (Int.tmod (IntKind.wrap .i64 ((Int.tmod m (3 : Int)) + (3 : Int))) (3 : Int)))), (21, (.I .i64 (3 : Int))), (22, (.I .i64 r)), (23, (.I .i64 (Int.tmod r (16 : Int)))), (24, (.I .i64 (IntKind.wrap .i64 ((Int.tmod r (16 : Int)) + (16 : Int))))), (25, (.I .i64 (1 : Int))), (26, (.I .i64 o)), (27, (.I .i64 (Int.tmod o (2147483648 : Int)))), (28, (.I .i64 (3 : Int))), (29, (.B (decide ((3 : Int) < (3 : Int)))))] (Tr.full (.tup []) 193 193)) [] K :=
  (tlb.start C m r o K KX).trans (by rw [hm, hr]; exact bif_f (by decide))
set_option maxRecDepth 100000 in
theorem case4 {E : Wh} {w : World} {cargs : Array Value} (m r o : Int) (hm : (IntKind.wrap .i64 ((1 : Int) + (Int.tmod (IntKind.wrap .i64 ((Int.tmod m (3 : Int)) + (3 : Int))) (3 : Int)))) = 3) (hr : (Int.tmod (IntKind.wrap .i64 ((Int.tmod r (16 : Int)) + (16 : Int))) (16 : Int)) = 1) (hS : Sim E [] w) (ha : VsRel E [.I .i64 m, .I .i64 r, .I .i64 o] cargs.toList) :
    ((∃ fn, Tryz.prog.funcs[3]? = some fn ∧ fn.body.isSome = true) ∧ Calls Tryz.prog 3 cargs w (Ret (fun v _ => v = .B true) E [] w)) ∨ ∃ cv w', (callFunc 3 cargs).run Tryz.prog w = .ok (.value cv) w' ∧ Ret (fun v _ => v = .B true) E [] w (.returned cv) w' := by
  have hb := begin4 (tlb.C_4 tlb.G33_3 tlb.G35_3) m r o hm hr (kbody Tryz.prog 0 (fnOf Tryz.prog 3) (fun v _ => v = .B true)) (fun c ρ m K => cexec Tryz.prog (tlb.C_4 tlb.G33_3 tlb.G35_3) (fun _ => none) 0 1000 c ρ m K)
  have h2 := hb.trans (tlb.run_4 tlb.G33_3 tlb.G35_3 (Int.tmod o (2147483648 : Int)) _ _ _ _ _ _ _ _ _ _ _ _ _ (fun v _ => v = .B true))
  exact useP (P := Tryz.prog) (C := (tlb.C_4 tlb.G33_3 tlb.G35_3)) (d := 5) (n := 1000) (W := fun _ => none) (f := 3) (fn := fnOf Tryz.prog 3) (c := bodyOf Tryz.prog 3) (args := [.I .i64 m, .I .i64 r, .I .i64 o]) (m := []) (K := fun v _ => v = .B true) (E := E) (w := w) (cargs := cargs) tlb.named tlb.C_4_ok tlb.at3 tlb.body3 (l := 0) rfl (LoopsOk.none _ _) (hM m r o) h2 hS ha (tlb.t4 (within o).1 (within o).2 rfl)
open tlb in
theorem begin5 (C : CC) (m r o : Int) (hm : (IntKind.wrap .i64 ((1 : Int) + (Int.tmod (IntKind.wrap .i64 ((Int.tmod m (3 : Int)) + (3 : Int))) (3 : Int)))) = 3) (hr : (Int.tmod (IntKind.wrap .i64 ((Int.tmod r (16 : Int)) + (16 : Int))) (16 : Int)) = 2) (K : Ex → Env → Mem → Prop) (KX : Code → Env → Mem → (Ex → Env → Mem → Prop) → Prop) : cpre Tryz.prog C (fun _ => none) 0 1000 5 (bodyOf Tryz.prog 3) (Tr.puts 0 [.I .i64 m, .I .i64 r, .I .i64 o] (Tr.full (.tup []) (max (fnOf Tryz.prog 3).ntmps 3) (max (fnOf Tryz.prog 3).ntmps 3))) [] K KX = KX LawX (setsE [(0, (.I .i64 (3 : Int))), (1, (.I .i64 (2 : Int))), (2, (.I .i64 (Int.tmod o (2147483648 : Int)))), (6, (.B false)), (17, (.I .i64 m)), (18, (.I .i64 (Int.tmod m (3 : Int)))), (19, (.I .i64 (IntKind.wrap .i64 ((Int.tmod m (3 : Int)) + (3 : Int))))), (20, (.I .i64 (Int.tmod (IntKind.wrap .i64 ((Int.tmod m (3 : Int)) + (3 : Int))) (3 : Int)))), (21, (.I .i64 (3 : Int))), (22, (.I .i64 r)), (23, (.I .i64 (Int.tmod r (16 : Int)))), (24, (.I .i64 (IntKind.wrap .i64 ((Int.tmod r (16 : Int)) + (16 : Int))))), (25, (.I .i64 (2 : Int))), (26, (.I .i64 o)), (27, (.I .i64 (Int.tmod o (2147483648 : Int)))), (28, (.I .i64 (3 : Int))), (29, (.B (decide ((3 : Int) < (3 : Int)))))] (Tr.full (.tup []) 193 193)) [] K :=
  (tlb.start C m r o K KX).trans (by rw [hm, hr]; exact bif_f (by decide))
set_option maxRecDepth 100000 in
theorem case5 {E : Wh} {w : World} {cargs : Array Value} (m r o : Int) (hm : (IntKind.wrap .i64 ((1 : Int) + (Int.tmod (IntKind.wrap .i64 ((Int.tmod m (3 : Int)) + (3 : Int))) (3 : Int)))) = 3) (hr : (Int.tmod (IntKind.wrap .i64 ((Int.tmod r (16 : Int)) + (16 : Int))) (16 : Int)) = 2) (hS : Sim E [] w) (ha : VsRel E [.I .i64 m, .I .i64 r, .I .i64 o] cargs.toList) :
    ((∃ fn, Tryz.prog.funcs[3]? = some fn ∧ fn.body.isSome = true) ∧ Calls Tryz.prog 3 cargs w (Ret (fun v _ => v = .B true) E [] w)) ∨ ∃ cv w', (callFunc 3 cargs).run Tryz.prog w = .ok (.value cv) w' ∧ Ret (fun v _ => v = .B true) E [] w (.returned cv) w' := by
  have hb := begin5 (tlb.C_5 tlb.G33_4 tlb.G35_4) m r o hm hr (kbody Tryz.prog 0 (fnOf Tryz.prog 3) (fun v _ => v = .B true)) (fun c ρ m K => cexec Tryz.prog (tlb.C_5 tlb.G33_4 tlb.G35_4) (fun _ => none) 0 1000 c ρ m K)
  have h2 := hb.trans (tlb.run_5 tlb.G33_4 tlb.G35_4 (Int.tmod o (2147483648 : Int)) _ _ _ _ _ _ _ _ _ _ _ _ _ (fun v _ => v = .B true))
  exact useP (P := Tryz.prog) (C := (tlb.C_5 tlb.G33_4 tlb.G35_4)) (d := 5) (n := 1000) (W := fun _ => none) (f := 3) (fn := fnOf Tryz.prog 3) (c := bodyOf Tryz.prog 3) (args := [.I .i64 m, .I .i64 r, .I .i64 o]) (m := []) (K := fun v _ => v = .B true) (E := E) (w := w) (cargs := cargs) tlb.named tlb.C_5_ok tlb.at3 tlb.body3 (l := 0) rfl (LoopsOk.none _ _) (hM m r o) h2 hS ha (tlb.t5 (within o).1 (within o).2 rfl)
open tlb in
theorem begin6 (C : CC) (m r o : Int) (hm : (IntKind.wrap .i64 ((1 : Int) + (Int.tmod (IntKind.wrap .i64 ((Int.tmod m (3 : Int)) + (3 : Int))) (3 : Int)))) = 3) (hr : (Int.tmod (IntKind.wrap .i64 ((Int.tmod r (16 : Int)) + (16 : Int))) (16 : Int)) = 3) (K : Ex → Env → Mem → Prop) (KX : Code → Env → Mem → (Ex → Env → Mem → Prop) → Prop) : cpre Tryz.prog C (fun _ => none) 0 1000 5 (bodyOf Tryz.prog 3) (Tr.puts 0 [.I .i64 m, .I .i64 r, .I .i64 o] (Tr.full (.tup []) (max (fnOf Tryz.prog 3).ntmps 3) (max (fnOf Tryz.prog 3).ntmps 3))) [] K KX = KX LawX (setsE [(0, (.I .i64 (3 : Int))), (1, (.I .i64 (3 : Int))), (2, (.I .i64 (Int.tmod o (2147483648 : Int)))), (6, (.B false)), (17, (.I .i64 m)), (18, (.I .i64 (Int.tmod m (3 : Int)))), (19, (.I .i64 (IntKind.wrap .i64 ((Int.tmod m (3 : Int)) + (3 : Int))))), (20, (.I .i64 (Int.tmod (IntKind.wrap .i64 ((Int.tmod m (3 : Int)) + (3 : Int))) (3 : Int)))), (21, (.I .i64 (3 : Int))), (22, (.I .i64 r)), (23, (.I .i64 (Int.tmod r (16 : Int)))), (24, (.I .i64 (IntKind.wrap .i64 ((Int.tmod r (16 : Int)) + (16 : Int))))), (25, (.I .i64 (3 : Int))), (26, (.I .i64 o)), (27, (.I .i64 (Int.tmod o (2147483648 : Int)))), (28, (.I .i64 (3 : Int))), (29, (.B (decide ((3 : Int) < (3 : Int)))))] (Tr.full (.tup []) 193 193)) [] K :=
  (tlb.start C m r o K KX).trans (by rw [hm, hr]; exact bif_f (by decide))
set_option maxRecDepth 100000 in
theorem case6 {E : Wh} {w : World} {cargs : Array Value} (m r o : Int) (hm : (IntKind.wrap .i64 ((1 : Int) + (Int.tmod (IntKind.wrap .i64 ((Int.tmod m (3 : Int)) + (3 : Int))) (3 : Int)))) = 3) (hr : (Int.tmod (IntKind.wrap .i64 ((Int.tmod r (16 : Int)) + (16 : Int))) (16 : Int)) = 3) (hS : Sim E [] w) (ha : VsRel E [.I .i64 m, .I .i64 r, .I .i64 o] cargs.toList) :
    ((∃ fn, Tryz.prog.funcs[3]? = some fn ∧ fn.body.isSome = true) ∧ Calls Tryz.prog 3 cargs w (Ret (fun v _ => v = .B true) E [] w)) ∨ ∃ cv w', (callFunc 3 cargs).run Tryz.prog w = .ok (.value cv) w' ∧ Ret (fun v _ => v = .B true) E [] w (.returned cv) w' := by
  have hb := begin6 (tlb.C_6 tlb.G33_5 tlb.G35_5) m r o hm hr (kbody Tryz.prog 0 (fnOf Tryz.prog 3) (fun v _ => v = .B true)) (fun c ρ m K => cexec Tryz.prog (tlb.C_6 tlb.G33_5 tlb.G35_5) (fun _ => none) 0 1000 c ρ m K)
  have h2 := hb.trans (tlb.run_6 tlb.G33_5 tlb.G35_5 (Int.tmod o (2147483648 : Int)) _ _ _ _ _ _ _ _ _ _ _ _ _ (fun v _ => v = .B true))
  exact useP (P := Tryz.prog) (C := (tlb.C_6 tlb.G33_5 tlb.G35_5)) (d := 5) (n := 1000) (W := fun _ => none) (f := 3) (fn := fnOf Tryz.prog 3) (c := bodyOf Tryz.prog 3) (args := [.I .i64 m, .I .i64 r, .I .i64 o]) (m := []) (K := fun v _ => v = .B true) (E := E) (w := w) (cargs := cargs) tlb.named tlb.C_6_ok tlb.at3 tlb.body3 (l := 0) rfl (LoopsOk.none _ _) (hM m r o) h2 hS ha (tlb.t6 (within o).1 (within o).2 rfl)
open tlb in
theorem begin7 (C : CC) (m r o : Int) (hm : (IntKind.wrap .i64 ((1 : Int) + (Int.tmod (IntKind.wrap .i64 ((Int.tmod m (3 : Int)) + (3 : Int))) (3 : Int)))) = 3) (hr : (Int.tmod (IntKind.wrap .i64 ((Int.tmod r (16 : Int)) + (16 : Int))) (16 : Int)) = 4) (K : Ex → Env → Mem → Prop) (KX : Code → Env → Mem → (Ex → Env → Mem → Prop) → Prop) : cpre Tryz.prog C (fun _ => none) 0 1000 5 (bodyOf Tryz.prog 3) (Tr.puts 0 [.I .i64 m, .I .i64 r, .I .i64 o] (Tr.full (.tup []) (max (fnOf Tryz.prog 3).ntmps 3) (max (fnOf Tryz.prog 3).ntmps 3))) [] K KX = KX LawX (setsE [(0, (.I .i64 (3 : Int))), (1, (.I .i64 (4 : Int))), (2, (.I .i64 (Int.tmod o (2147483648 : Int)))), (6, (.B false)), (17, (.I .i64 m)), (18, (.I .i64 (Int.tmod m (3 : Int)))), (19, (.I .i64 (IntKind.wrap .i64 ((Int.tmod m (3 : Int)) + (3 : Int))))), (20, (.I .i64 (Int.tmod (IntKind.wrap .i64 ((Int.tmod m (3 : Int)) + (3 : Int))) (3 : Int)))), (21, (.I .i64 (3 : Int))), (22, (.I .i64 r)), (23, (.I .i64 (Int.tmod r (16 : Int)))), (24, (.I .i64 (IntKind.wrap .i64 ((Int.tmod r (16 : Int)) + (16 : Int))))), (25, (.I .i64 (4 : Int))), (26, (.I .i64 o)), (27, (.I .i64 (Int.tmod o (2147483648 : Int)))), (28, (.I .i64 (3 : Int))), (29, (.B (decide ((3 : Int) < (3 : Int)))))] (Tr.full (.tup []) 193 193)) [] K :=
  (tlb.start C m r o K KX).trans (by rw [hm, hr]; exact bif_f (by decide))
set_option maxRecDepth 100000 in
theorem case7 {E : Wh} {w : World} {cargs : Array Value} (m r o : Int) (hm : (IntKind.wrap .i64 ((1 : Int) + (Int.tmod (IntKind.wrap .i64 ((Int.tmod m (3 : Int)) + (3 : Int))) (3 : Int)))) = 3) (hr : (Int.tmod (IntKind.wrap .i64 ((Int.tmod r (16 : Int)) + (16 : Int))) (16 : Int)) = 4) (hS : Sim E [] w) (ha : VsRel E [.I .i64 m, .I .i64 r, .I .i64 o] cargs.toList) :
    ((∃ fn, Tryz.prog.funcs[3]? = some fn ∧ fn.body.isSome = true) ∧ Calls Tryz.prog 3 cargs w (Ret (fun v _ => v = .B true) E [] w)) ∨ ∃ cv w', (callFunc 3 cargs).run Tryz.prog w = .ok (.value cv) w' ∧ Ret (fun v _ => v = .B true) E [] w (.returned cv) w' := by
  have hb := begin7 (tlb.C_7 tlb.G33_6 tlb.G35_6) m r o hm hr (kbody Tryz.prog 0 (fnOf Tryz.prog 3) (fun v _ => v = .B true)) (fun c ρ m K => cexec Tryz.prog (tlb.C_7 tlb.G33_6 tlb.G35_6) (fun _ => none) 0 1000 c ρ m K)
  have h2 := hb.trans (tlb.run_7 tlb.G33_6 tlb.G35_6 (Int.tmod o (2147483648 : Int)) _ _ _ _ _ _ _ _ _ _ _ _ _ (fun v _ => v = .B true))
  exact useP (P := Tryz.prog) (C := (tlb.C_7 tlb.G33_6 tlb.G35_6)) (d := 5) (n := 1000) (W := fun _ => none) (f := 3) (fn := fnOf Tryz.prog 3) (c := bodyOf Tryz.prog 3) (args := [.I .i64 m, .I .i64 r, .I .i64 o]) (m := []) (K := fun v _ => v = .B true) (E := E) (w := w) (cargs := cargs) tlb.named tlb.C_7_ok tlb.at3 tlb.body3 (l := 0) rfl (LoopsOk.none _ _) (hM m r o) h2 hS ha (tlb.t7 (within o).1 (within o).2 rfl)
open tlb in
theorem begin8 (C : CC) (m r o : Int) (hm : (IntKind.wrap .i64 ((1 : Int) + (Int.tmod (IntKind.wrap .i64 ((Int.tmod m (3 : Int)) + (3 : Int))) (3 : Int)))) = 3) (hr : (Int.tmod (IntKind.wrap .i64 ((Int.tmod r (16 : Int)) + (16 : Int))) (16 : Int)) = 5) (K : Ex → Env → Mem → Prop) (KX : Code → Env → Mem → (Ex → Env → Mem → Prop) → Prop) : cpre Tryz.prog C (fun _ => none) 0 1000 5 (bodyOf Tryz.prog 3) (Tr.puts 0 [.I .i64 m, .I .i64 r, .I .i64 o] (Tr.full (.tup []) (max (fnOf Tryz.prog 3).ntmps 3) (max (fnOf Tryz.prog 3).ntmps 3))) [] K KX = KX LawX (setsE [(0, (.I .i64 (3 : Int))), (1, (.I .i64 (5 : Int))), (2, (.I .i64 (Int.tmod o (2147483648 : Int)))), (6, (.B false)), (17, (.I .i64 m)), (18, (.I .i64 (Int.tmod m (3 : Int)))), (19, (.I .i64 (IntKind.wrap .i64 ((Int.tmod m (3 : Int)) + (3 : Int))))), (20, (.I .i64 (Int.tmod (IntKind.wrap .i64 ((Int.tmod m (3 : Int)) + (3 : Int))) (3 : Int)))), (21, (.I .i64 (3 : Int))), (22, (.I .i64 r)), (23, (.I .i64 (Int.tmod r (16 : Int)))), (24, (.I .i64 (IntKind.wrap .i64 ((Int.tmod r (16 : Int)) + (16 : Int))))), (25, (.I .i64 (5 : Int))), (26, (.I .i64 o)), (27, (.I .i64 (Int.tmod o (2147483648 : Int)))), (28, (.I .i64 (3 : Int))), (29, (.B (decide ((3 : Int) < (3 : Int)))))] (Tr.full (.tup []) 193 193)) [] K :=
  (tlb.start C m r o K KX).trans (by rw [hm, hr]; exact bif_f (by decide))
set_option maxRecDepth 100000 in
theorem case8 {E : Wh} {w : World} {cargs : Array Value} (m r o : Int) (hm : (IntKind.wrap .i64 ((1 : Int) + (Int.tmod (IntKind.wrap .i64 ((Int.tmod m (3 : Int)) + (3 : Int))) (3 : Int)))) = 3) (hr : (Int.tmod (IntKind.wrap .i64 ((Int.tmod r (16 : Int)) + (16 : Int))) (16 : Int)) = 5) (hS : Sim E [] w) (ha : VsRel E [.I .i64 m, .I .i64 r, .I .i64 o] cargs.toList) :
    ((∃ fn, Tryz.prog.funcs[3]? = some fn ∧ fn.body.isSome = true) ∧ Calls Tryz.prog 3 cargs w (Ret (fun v _ => v = .B true) E [] w)) ∨ ∃ cv w', (callFunc 3 cargs).run Tryz.prog w = .ok (.value cv) w' ∧ Ret (fun v _ => v = .B true) E [] w (.returned cv) w' := by
  have hb := begin8 (tlb.C_8 tlb.G33_7 tlb.G35_7) m r o hm hr (kbody Tryz.prog 0 (fnOf Tryz.prog 3) (fun v _ => v = .B true)) (fun c ρ m K => cexec Tryz.prog (tlb.C_8 tlb.G33_7 tlb.G35_7) (fun _ => none) 0 1000 c ρ m K)
  have h2 := hb.trans (tlb.run_8 tlb.G33_7 tlb.G35_7 (Int.tmod o (2147483648 : Int)) _ _ _ _ _ _ _ _ _ _ _ _ _ (fun v _ => v = .B true))
  exact useP (P := Tryz.prog) (C := (tlb.C_8 tlb.G33_7 tlb.G35_7)) (d := 5) (n := 1000) (W := fun _ => none) (f := 3) (fn := fnOf Tryz.prog 3) (c := bodyOf Tryz.prog 3) (args := [.I .i64 m, .I .i64 r, .I .i64 o]) (m := []) (K := fun v _ => v = .B true) (E := E) (w := w) (cargs := cargs) tlb.named tlb.C_8_ok tlb.at3 tlb.body3 (l := 0) rfl (LoopsOk.none _ _) (hM m r o) h2 hS ha (tlb.t8 (within o).1 (within o).2 rfl)
open tlb in
theorem begin9 (C : CC) (m r o : Int) (hm : (IntKind.wrap .i64 ((1 : Int) + (Int.tmod (IntKind.wrap .i64 ((Int.tmod m (3 : Int)) + (3 : Int))) (3 : Int)))) = 3) (hr : (Int.tmod (IntKind.wrap .i64 ((Int.tmod r (16 : Int)) + (16 : Int))) (16 : Int)) = 6) (K : Ex → Env → Mem → Prop) (KX : Code → Env → Mem → (Ex → Env → Mem → Prop) → Prop) : cpre Tryz.prog C (fun _ => none) 0 1000 5 (bodyOf Tryz.prog 3) (Tr.puts 0 [.I .i64 m, .I .i64 r, .I .i64 o] (Tr.full (.tup []) (max (fnOf Tryz.prog 3).ntmps 3) (max (fnOf Tryz.prog 3).ntmps 3))) [] K KX = KX LawX (setsE [(0, (.I .i64 (3 : Int))), (1, (.I .i64 (6 : Int))), (2, (.I .i64 (Int.tmod o (2147483648 : Int)))), (6, (.B false)), (17, (.I .i64 m)), (18, (.I .i64 (Int.tmod m (3 : Int)))), (19, (.I .i64 (IntKind.wrap .i64 ((Int.tmod m (3 : Int)) + (3 : Int))))), (20, (.I .i64 (Int.tmod (IntKind.wrap .i64 ((Int.tmod m (3 : Int)) + (3 : Int))) (3 : Int)))), (21, (.I .i64 (3 : Int))), (22, (.I .i64 r)), (23, (.I .i64 (Int.tmod r (16 : Int)))), (24, (.I .i64 (IntKind.wrap .i64 ((Int.tmod r (16 : Int)) + (16 : Int))))), (25, (.I .i64 (6 : Int))), (26, (.I .i64 o)), (27, (.I .i64 (Int.tmod o (2147483648 : Int)))), (28, (.I .i64 (3 : Int))), (29, (.B (decide ((3 : Int) < (3 : Int)))))] (Tr.full (.tup []) 193 193)) [] K :=
  (tlb.start C m r o K KX).trans (by rw [hm, hr]; exact bif_f (by decide))
set_option maxRecDepth 100000 in
theorem case9 {E : Wh} {w : World} {cargs : Array Value} (m r o : Int) (hm : (IntKind.wrap .i64 ((1 : Int) + (Int.tmod (IntKind.wrap .i64 ((Int.tmod m (3 : Int)) + (3 : Int))) (3 : Int)))) = 3) (hr : (Int.tmod (IntKind.wrap .i64 ((Int.tmod r (16 : Int)) + (16 : Int))) (16 : Int)) = 6) (hS : Sim E [] w) (ha : VsRel E [.I .i64 m, .I .i64 r, .I .i64 o] cargs.toList) :
    ((∃ fn, Tryz.prog.funcs[3]? = some fn ∧ fn.body.isSome = true) ∧ Calls Tryz.prog 3 cargs w (Ret (fun v _ => v = .B true) E [] w)) ∨ ∃ cv w', (callFunc 3 cargs).run Tryz.prog w = .ok (.value cv) w' ∧ Ret (fun v _ => v = .B true) E [] w (.returned cv) w' := by
  have hb := begin9 (tlb.C_9 tlb.G33_8 tlb.G35_8) m r o hm hr (kbody Tryz.prog 0 (fnOf Tryz.prog 3) (fun v _ => v = .B true)) (fun c ρ m K => cexec Tryz.prog (tlb.C_9 tlb.G33_8 tlb.G35_8) (fun _ => none) 0 1000 c ρ m K)
  have h2 := hb.trans (tlb.run_9 tlb.G33_8 tlb.G35_8 (Int.tmod o (2147483648 : Int)) _ _ _ _ _ _ _ _ _ _ _ _ _ (fun v _ => v = .B true))
  exact useP (P := Tryz.prog) (C := (tlb.C_9 tlb.G33_8 tlb.G35_8)) (d := 5) (n := 1000) (W := fun _ => none) (f := 3) (fn := fnOf Tryz.prog 3) (c := bodyOf Tryz.prog 3) (args := [.I .i64 m, .I .i64 r, .I .i64 o]) (m := []) (K := fun v _ => v = .B true) (E := E) (w := w) (cargs := cargs) tlb.named tlb.C_9_ok tlb.at3 tlb.body3 (l := 0) rfl (LoopsOk.none _ _) (hM m r o) h2 hS ha (tlb.t9 (within o).1 (within o).2 rfl)
open tlb in
theorem begin10 (C : CC) (m r o : Int) (hm : (IntKind.wrap .i64 ((1 : Int) + (Int.tmod (IntKind.wrap .i64 ((Int.tmod m (3 : Int)) + (3 : Int))) (3 : Int)))) = 3) (hr : (Int.tmod (IntKind.wrap .i64 ((Int.tmod r (16 : Int)) + (16 : Int))) (16 : Int)) = 7) (K : Ex → Env → Mem → Prop) (KX : Code → Env → Mem → (Ex → Env → Mem → Prop) → Prop) : cpre Tryz.prog C (fun _ => none) 0 1000 5 (bodyOf Tryz.prog 3) (Tr.puts 0 [.I .i64 m, .I .i64 r, .I .i64 o] (Tr.full (.tup []) (max (fnOf Tryz.prog 3).ntmps 3) (max (fnOf Tryz.prog 3).ntmps 3))) [] K KX = KX LawX (setsE [(0, (.I .i64 (3 : Int))), (1, (.I .i64 (7 : Int))), (2, (.I .i64 (Int.tmod o (2147483648 : Int)))), (6, (.B false)), (17, (.I .i64 m)), (18, (.I .i64 (Int.tmod m (3 : Int)))), (19, (.I .i64 (IntKind.wrap .i64 ((Int.tmod m (3 : Int)) + (3 : Int))))), (20, (.I .i64 (Int.tmod (IntKind.wrap .i64 ((Int.tmod m (3 : Int)) + (3 : Int))) (3 : Int)))), (21, (.I .i64 (3 : Int))), (22, (.I .i64 r)), (23, (.I .i64 (Int.tmod r (16 : Int)))), (24, (.I .i64 (IntKind.wrap .i64 ((Int.tmod r (16 : Int)) + (16 : Int))))), (25, (.I .i64 (7 : Int))), (26, (.I .i64 o)), (27, (.I .i64 (Int.tmod o (2147483648 : Int)))), (28, (.I .i64 (3 : Int))), (29, (.B (decide ((3 : Int) < (3 : Int)))))] (Tr.full (.tup []) 193 193)) [] K :=
  (tlb.start C m r o K KX).trans (by rw [hm, hr]; exact bif_f (by decide))
set_option maxRecDepth 100000 in
theorem case10 {E : Wh} {w : World} {cargs : Array Value} (m r o : Int) (hm : (IntKind.wrap .i64 ((1 : Int) + (Int.tmod (IntKind.wrap .i64 ((Int.tmod m (3 : Int)) + (3 : Int))) (3 : Int)))) = 3) (hr : (Int.tmod (IntKind.wrap .i64 ((Int.tmod r (16 : Int)) + (16 : Int))) (16 : Int)) = 7) (hS : Sim E [] w) (ha : VsRel E [.I .i64 m, .I .i64 r, .I .i64 o] cargs.toList) :
    ((∃ fn, Tryz.prog.funcs[3]? = some fn ∧ fn.body.isSome = true) ∧ Calls Tryz.prog 3 cargs w (Ret (fun v _ => v = .B true) E [] w)) ∨ ∃ cv w', (callFunc 3 cargs).run Tryz.prog w = .ok (.value cv) w' ∧ Ret (fun v _ => v = .B true) E [] w (.returned cv) w' := by
  have hb := begin10 (tlb.C_10 tlb.G33_9 tlb.G35_9) m r o hm hr (kbody Tryz.prog 0 (fnOf Tryz.prog 3) (fun v _ => v = .B true)) (fun c ρ m K => cexec Tryz.prog (tlb.C_10 tlb.G33_9 tlb.G35_9) (fun _ => none) 0 1000 c ρ m K)
  have h2 := hb.trans (tlb.run_10 tlb.G33_9 tlb.G35_9 (Int.tmod o (2147483648 : Int)) _ _ _ _ _ _ _ _ _ _ _ _ _ (fun v _ => v = .B true))
  exact useP (P := Tryz.prog) (C := (tlb.C_10 tlb.G33_9 tlb.G35_9)) (d := 5) (n := 1000) (W := fun _ => none) (f := 3) (fn := fnOf Tryz.prog 3) (c := bodyOf Tryz.prog 3) (args := [.I .i64 m, .I .i64 r, .I .i64 o]) (m := []) (K := fun v _ => v = .B true) (E := E) (w := w) (cargs := cargs) tlb.named tlb.C_10_ok tlb.at3 tlb.body3 (l := 0) rfl (LoopsOk.none _ _) (hM m r o) h2 hS ha (tlb.t10 (within o).1 (within o).2 rfl)
open tlb in
theorem begin11 (C : CC) (m r o : Int) (hm : (IntKind.wrap .i64 ((1 : Int) + (Int.tmod (IntKind.wrap .i64 ((Int.tmod m (3 : Int)) + (3 : Int))) (3 : Int)))) = 3) (hr : (Int.tmod (IntKind.wrap .i64 ((Int.tmod r (16 : Int)) + (16 : Int))) (16 : Int)) = 8) (K : Ex → Env → Mem → Prop) (KX : Code → Env → Mem → (Ex → Env → Mem → Prop) → Prop) : cpre Tryz.prog C (fun _ => none) 0 1000 5 (bodyOf Tryz.prog 3) (Tr.puts 0 [.I .i64 m, .I .i64 r, .I .i64 o] (Tr.full (.tup []) (max (fnOf Tryz.prog 3).ntmps 3) (max (fnOf Tryz.prog 3).ntmps 3))) [] K KX = KX LawX (setsE [(0, (.I .i64 (3 : Int))), (1, (.I .i64 (8 : Int))), (2, (.I .i64 (Int.tmod o (2147483648 : Int)))), (6, (.B false)), (17, (.I .i64 m)), (18, (.I .i64 (Int.tmod m (3 : Int)))), (19, (.I .i64 (IntKind.wrap .i64 ((Int.tmod m (3 : Int)) + (3 : Int))))), (20, (.I .i64 (Int.tmod (IntKind.wrap .i64 ((Int.tmod m (3 : Int)) + (3 : Int))) (3 : Int)))), (21, (.I .i64 (3 : Int))), (22, (.I .i64 r)), (23, (.I .i64 (Int.tmod r (16 : Int)))), (24, (.I .i64 (IntKind.wrap .i64 ((Int.tmod r (16 : Int)) + (16 : Int))))), (25, (.I .i64 (8 : Int))), (26, (.I .i64 o)), (27, (.I .i64 (Int.tmod o (2147483648 : Int)))), (28, (.I .i64 (3 : Int))), (29, (.B (decide ((3 : Int) < (3 : Int)))))] (Tr.full (.tup []) 193 193)) [] K :=
  (tlb.start C m r o K KX).trans (by rw [hm, hr]; exact bif_f (by decide))
set_option maxRecDepth 100000 in
theorem case11 {E : Wh} {w : World} {cargs : Array Value} (m r o : Int) (hm : (IntKind.wrap .i64 ((1 : Int) + (Int.tmod (IntKind.wrap .i64 ((Int.tmod m (3 : Int)) + (3 : Int))) (3 : Int)))) = 3) (hr : (Int.tmod (IntKind.wrap .i64 ((Int.tmod r (16 : Int)) + (16 : Int))) (16 : Int)) = 8) (hS : Sim E [] w) (ha : VsRel E [.I .i64 m, .I .i64 r, .I .i64 o] cargs.toList) :
    ((∃ fn, Tryz.prog.funcs[3]? = some fn ∧ fn.body.isSome = true) ∧ Calls Tryz.prog 3 cargs w (Ret (fun v _ => v = .B true) E [] w)) ∨ ∃ cv w', (callFunc 3 cargs).run Tryz.prog w = .ok (.value cv) w' ∧ Ret (fun v _ => v = .B true) E [] w (.returned cv) w' := by
  have hb := begin11 (tlb.C_11 tlb.G33_10 tlb.G35_10) m r o hm hr (kbody Tryz.prog 0 (fnOf Tryz.prog 3) (fun v _ => v = .B true)) (fun c ρ m K => cexec Tryz.prog (tlb.C_11 tlb.G33_10 tlb.G35_10) (fun _ => none) 0 1000 c ρ m K)
  have h2 := hb.trans (tlb.run_11 tlb.G33_10 tlb.G35_10 (Int.tmod o (2147483648 : Int)) _ _ _ _ _ _ _ _ _ _ _ _ _ (fun v _ => v = .B true))
  exact useP (P := Tryz.prog) (C := (tlb.C_11 tlb.G33_10 tlb.G35_10)) (d := 5) (n := 1000) (W := fun _ => none) (f := 3) (fn := fnOf Tryz.prog 3) (c := bodyOf Tryz.prog 3) (args := [.I .i64 m, .I .i64 r, .I .i64 o]) (m := []) (K := fun v _ => v = .B true) (E := E) (w := w) (cargs := cargs) tlb.named tlb.C_11_ok tlb.at3 tlb.body3 (l := 0) rfl (LoopsOk.none _ _) (hM m r o) h2 hS ha (tlb.t11 (within o).1 (within o).2 rfl)
open tlb in
theorem begin12 (C : CC) (m r o : Int) (hm : (IntKind.wrap .i64 ((1 : Int) + (Int.tmod (IntKind.wrap .i64 ((Int.tmod m (3 : Int)) + (3 : Int))) (3 : Int)))) = 3) (hr : (Int.tmod (IntKind.wrap .i64 ((Int.tmod r (16 : Int)) + (16 : Int))) (16 : Int)) = 9) (K : Ex → Env → Mem → Prop) (KX : Code → Env → Mem → (Ex → Env → Mem → Prop) → Prop) : cpre Tryz.prog C (fun _ => none) 0 1000 5 (bodyOf Tryz.prog 3) (Tr.puts 0 [.I .i64 m, .I .i64 r, .I .i64 o] (Tr.full (.tup []) (max (fnOf Tryz.prog 3).ntmps 3) (max (fnOf Tryz.prog 3).ntmps 3))) [] K KX = KX LawX (setsE [(0, (.I .i64 (3 : Int))), (1, (.I .i64 (9 : Int))), (2, (.I .i64 (Int.tmod o (2147483648 : Int)))), (6, (.B false)), (17, (.I .i64 m)), (18, (.I .i64 (Int.tmod m (3 : Int)))), (19, (.I .i64 (IntKind.wrap .i64 ((Int.tmod m (3 : Int)) + (3 : Int))))), (20, (.I .i64 (Int.tmod (IntKind.wrap .i64 ((Int.tmod m (3 : Int)) + (3 : Int))) (3 : Int)))), (21, (.I .i64 (3 : Int))), (22, (.I .i64 r)), (23, (.I .i64 (Int.tmod r (16 : Int)))), (24, (.I .i64 (IntKind.wrap .i64 ((Int.tmod r (16 : Int)) + (16 : Int))))), (25, (.I .i64 (9 : Int))), (26, (.I .i64 o)), (27, (.I .i64 (Int.tmod o (2147483648 : Int)))), (28, (.I .i64 (3 : Int))), (29, (.B (decide ((3 : Int) < (3 : Int)))))] (Tr.full (.tup []) 193 193)) [] K :=
  (tlb.start C m r o K KX).trans (by rw [hm, hr]; exact bif_f (by decide))
set_option maxRecDepth 100000 in
theorem case12 {E : Wh} {w : World} {cargs : Array Value} (m r o : Int) (hm : (IntKind.wrap .i64 ((1 : Int) + (Int.tmod (IntKind.wrap .i64 ((Int.tmod m (3 : Int)) + (3 : Int))) (3 : Int)))) = 3) (hr : (Int.tmod (IntKind.wrap .i64 ((Int.tmod r (16 : Int)) + (16 : Int))) (16 : Int)) = 9) (hS : Sim E [] w) (ha : VsRel E [.I .i64 m, .I .i64 r, .I .i64 o] cargs.toList) :
    ((∃ fn, Tryz.prog.funcs[3]? = some fn ∧ fn.body.isSome = true) ∧ Calls Tryz.prog 3 cargs w (Ret (fun v _ => v = .B true) E [] w)) ∨ ∃ cv w', (callFunc 3 cargs).run Tryz.prog w = .ok (.value cv) w' ∧ Ret (fun v _ => v = .B true) E [] w (.returned cv) w' := by
  have hb := begin12 (tlb.C_12 tlb.G33_11 tlb.G35_11) m r o hm hr (kbody Tryz.prog 0 (fnOf Tryz.prog 3) (fun v _ => v = .B true)) (fun c ρ m K => cexec Tryz.prog (tlb.C_12 tlb.G33_11 tlb.G35_11) (fun _ => none) 0 1000 c ρ m K)
  have h2 := hb.trans (tlb.run_12 tlb.G33_11 tlb.G35_11 (Int.tmod o (2147483648 : Int)) _ _ _ _ _ _ _ _ _ _ _ _ _ (fun v _ => v = .B true))
  exact useP (P := Tryz.prog) (C := (tlb.C_12 tlb.G33_11 tlb.G35_11)) (d := 5) (n := 1000) (W := fun _ => none) (f := 3) (fn := fnOf Tryz.prog 3) (c := bodyOf Tryz.prog 3) (args := [.I .i64 m, .I .i64 r, .I .i64 o]) (m := []) (K := fun v _ => v = .B true) (E := E) (w := w) (cargs := cargs) tlb.named tlb.C_12_ok tlb.at3 tlb.body3 (l := 0) rfl (LoopsOk.none _ _) (hM m r o) h2 hS ha (tlb.t12 (within o).1 (within o).2 rfl)
open tlb in
theorem begin13 (C : CC) (m r o : Int) (hm : (IntKind.wrap .i64 ((1 : Int) + (Int.tmod (IntKind.wrap .i64 ((Int.tmod m (3 : Int)) + (3 : Int))) (3 : Int)))) = 3) (hr : (Int.tmod (IntKind.wrap .i64 ((Int.tmod r (16 : Int)) + (16 : Int))) (16 : Int)) = 10) (K : Ex → Env → Mem → Prop) (KX : Code → Env → Mem → (Ex → Env → Mem → Prop) → Prop) : cpre Tryz.prog C (fun _ => none) 0 1000 5 (bodyOf Tryz.prog 3) (Tr.puts 0 [.I .i64 m, .I .i64 r, .I .i64 o] (Tr.full (.tup []) (max (fnOf Tryz.prog 3).ntmps 3) (max (fnOf Tryz.prog 3).ntmps 3))) [] K KX = KX LawX (setsE [(0, (.I .i64 (3 : Int))), (1, (.I .i64 (10 : Int))), (2, (.I .i64 (Int.tmod o (2147483648 : Int)))), (6, (.B false)), (17, (.I .i64 m)), (18, (.I .i64 (Int.tmod m (3 : Int)))), (19, (.I .i64 (IntKind.wrap .i64 ((Int.tmod m (3 : Int)) + (3 : Int))))), (20, (.I .i64 (Int.tmod (IntKind.wrap .i64 ((Int.tmod m (3 : Int)) + (3 : Int))) (3 : Int)))), (21, (.I .i64 (3 : Int))), (22, (.I .i64 r)), (23, (.I .i64 (Int.tmod r (16 : Int)))), (24, (.I .i64 (IntKind.wrap .i64 ((Int.tmod r (16 : Int)) + (16 : Int))))), (25, (.I .i64 (10 : Int))), (26, (.I .i64 o)), (27, (.I .i64 (Int.tmod o (2147483648 : Int)))), (28, (.I .i64 (3 : Int))), (29, (.B (decide ((3 : Int) < (3 : Int)))))] (Tr.full (.tup []) 193 193)) [] K :=
  (tlb.start C m r o K KX).trans (by rw [hm, hr]; exact bif_f (by decide))
set_option maxRecDepth 100000 in
theorem case13 {E : Wh} {w : World} {cargs : Array Value} (m r o : Int) (hm : (IntKind.wrap .i64 ((1 : Int) + (Int.tmod (IntKind.wrap .i64 ((Int.tmod m (3 : Int)) + (3 : Int))) (3 : Int)))) = 3) (hr : (Int.tmod (IntKind.wrap .i64 ((Int.tmod r (16 : Int)) + (16 : Int))) (16 : Int)) = 10) (hS : Sim E [] w) (ha : VsRel E [.I .i64 m, .I .i64 r, .I .i64 o] cargs.toList) :
    ((∃ fn, Tryz.prog.funcs[3]? = some fn ∧ fn.body.isSome = true) ∧ Calls Tryz.prog 3 cargs w (Ret (fun v _ => v = .B true) E [] w)) ∨ ∃ cv w', (callFunc 3 cargs).run Tryz.prog w = .ok (.value cv) w' ∧ Ret (fun v _ => v = .B true) E [] w (.returned cv) w' := by
  have hb := begin13 (tlb.C_13 tlb.G33_12 tlb.G35_12) m r o hm hr (kbody Tryz.prog 0 (fnOf Tryz.prog 3) (fun v _ => v = .B true)) (fun c ρ m K => cexec Tryz.prog (tlb.C_13 tlb.G33_12 tlb.G35_12) (fun _ => none) 0 1000 c ρ m K)
  have h2 := hb.trans (tlb.run_13 tlb.G33_12 tlb.G35_12 (Int.tmod o (2147483648 : Int)) _ _ _ _ _ _ _ _ _ _ _ _ _ (fun v _ => v = .B true))
  exact useP (P := Tryz.prog) (C := (tlb.C_13 tlb.G33_12 tlb.G35_12)) (d := 5) (n := 1000) (W := fun _ => none) (f := 3) (fn := fnOf Tryz.prog 3) (c := bodyOf Tryz.prog 3) (args := [.I .i64 m, .I .i64 r, .I .i64 o]) (m := []) (K := fun v _ => v = .B true) (E := E) (w := w) (cargs := cargs) tlb.named tlb.C_13_ok tlb.at3 tlb.body3 (l := 0) rfl (LoopsOk.none _ _) (hM m r o) h2 hS ha (tlb.t13 (within o).1 (within o).2 rfl)
open tlb in
theorem begin14 (C : CC) (m r o : Int) (hm : (IntKind.wrap .i64 ((1 : Int) + (Int.tmod (IntKind.wrap .i64 ((Int.tmod m (3 : Int)) + (3 : Int))) (3 : Int)))) = 3) (hr : (Int.tmod (IntKind.wrap .i64 ((Int.tmod r (16 : Int)) + (16 : Int))) (16 : Int)) = 11) (K : Ex → Env → Mem → Prop) (KX : Code → Env → Mem → (Ex → Env → Mem → Prop) → Prop) : cpre Tryz.prog C (fun _ => none) 0 1000 5 (bodyOf Tryz.prog 3) (Tr.puts 0 [.I .i64 m, .I .i64 r, .I .i64 o] (Tr.full (.tup []) (max (fnOf Tryz.prog 3).ntmps 3) (max (fnOf Tryz.prog 3).ntmps 3))) [] K KX = KX LawX (setsE [(0, (.I .i64 (3 : Int))), (1, (.I .i64 (11 : Int))), (2, (.I .i64 (Int.tmod o (2147483648 : Int)))), (6, (.B false)), (17, (.I .i64 m)), (18, (.I .i64 (Int.tmod m (3 : Int)))), (19, (.I .i64 (IntKind.wrap .i64 ((Int.tmod m (3 : Int)) + (3 : Int))))), (20, (.I .i64 (Int.tmod (IntKind.wrap .i64 ((Int.tmod m (3 : Int)) + (3 : Int))) (3 : Int)))), (21, (.I .i64 (3 : Int))), (22, (.I .i64 r)), (23, (.I .i64 (Int.tmod r (16 : Int)))), (24, (.I .i64 (IntKind.wrap .i64 ((Int.tmod r (16 : Int)) + (16 : Int))))), (25, (.I .i64 (11 : Int))), (26, (.I .i64 o)), (27, (.I .i64 (Int.tmod o (2147483648 : Int)))), (28, (.I .i64 (3 : Int))), (29, (.B (decide ((3 : Int) < (3 : Int)))))] (Tr.full (.tup []) 193 193)) [] K :=
  (tlb.start C m r o K KX).trans (by rw [hm, hr]; exact bif_f (by decide))
set_option maxRecDepth 100000 in
theorem case14 {E : Wh} {w : World} {cargs : Array Value} (m r o : Int) (hm : (IntKind.wrap .i64 ((1 : Int) + (Int.tmod (IntKind.wrap .i64 ((Int.tmod m (3 : Int)) + (3 : Int))) (3 : Int)))) = 3) (hr : (Int.tmod (IntKind.wrap .i64 ((Int.tmod r (16 : Int)) + (16 : Int))) (16 : Int)) = 11) (hS : Sim E [] w) (ha : VsRel E [.I .i64 m, .I .i64 r, .I .i64 o] cargs.toList) :
    ((∃ fn, Tryz.prog.funcs[3]? = some fn ∧ fn.body.isSome = true) ∧ Calls Tryz.prog 3 cargs w (Ret (fun v _ => v = .B true) E [] w)) ∨ ∃ cv w', (callFunc 3 cargs).run Tryz.prog w = .ok (.value cv) w' ∧ Ret (fun v _ => v = .B true) E [] w (.returned cv) w' := by
  have hb := begin14 (tlb.C_14 tlb.G33_13 tlb.G35_13) m r o hm hr (kbody Tryz.prog 0 (fnOf Tryz.prog 3) (fun v _ => v = .B true)) (fun c ρ m K => cexec Tryz.prog (tlb.C_14 tlb.G33_13 tlb.G35_13) (fun _ => none) 0 1000 c ρ m K)
  have h2 := hb.trans (tlb.run_14 tlb.G33_13 tlb.G35_13 (Int.tmod o (2147483648 : Int)) _ _ _ _ _ _ _ _ _ _ _ _ _ (fun v _ => v = .B true))
  exact useP (P := Tryz.prog) (C := (tlb.C_14 tlb.G33_13 tlb.G35_13)) (d := 5) (n := 1000) (W := fun _ => none) (f := 3) (fn := fnOf Tryz.prog 3) (c := bodyOf Tryz.prog 3) (args := [.I .i64 m, .I .i64 r, .I .i64 o]) (m := []) (K := fun v _ => v = .B true) (E := E) (w := w) (cargs := cargs) tlb.named tlb.C_14_ok tlb.at3 tlb.body3 (l := 0) rfl (LoopsOk.none _ _) (hM m r o) h2 hS ha (tlb.t14 (within o).1 (within o).2 rfl)
open tlb in
theorem begin15 (C : CC) (m r o : Int) (hm : (IntKind.wrap .i64 ((1 : Int) + (Int.tmod (IntKind.wrap .i64 ((Int.tmod m (3 : Int)) + (3 : Int))) (3 : Int)))) = 3) (hr : (Int.tmod (IntKind.wrap .i64 ((Int.tmod r (16 : Int)) + (16 : Int))) (16 : Int)) = 12) (K : Ex → Env → Mem → Prop) (KX : Code → Env → Mem → (Ex → Env → Mem → Prop) → Prop) : cpre Tryz.prog C (fun _ => none) 0 1000 5 (bodyOf Tryz.prog 3) (Tr.puts 0 [.I .i64 m, .I .i64 r, .I .i64 o] (Tr.full (.tup []) (max (fnOf Tryz.prog 3).ntmps 3) (max (fnOf Tryz.prog 3).ntmps 3))) [] K KX = KX LawX (setsE [(0, (.I .i64 (3 : Int))), (1, (.I .i64 (12 : Int))), (2, (.I .i64 (Int.tmod o (2147483648 : Int)))), (6, (.B false)), (17, (.I .i64 m)), (18, (.I .i64 (Int.tmod m (3 : Int)))), (19, (.I .i64 (IntKind.wrap .i64 ((Int.tmod m (3 : Int)) + (3 : Int))))), (20, (.I .i64 (Int.tmod (IntKind.wrap .i64 ((Int.tmod m (3 : Int)) + (3 : Int))) (3 : Int)))), (21, (.I .i64 (3 : Int))), (22, (.I .i64 r)), (23, (.I .i64 (Int.tmod r (16 : Int)))), (24, (.I .i64 (IntKind.wrap .i64 ((Int.tmod r (16 : Int)) + (16 : Int))))), (25, (.I .i64 (12 : Int))), (26, (.I .i64 o)), (27, (.I .i64 (Int.tmod o (2147483648 : Int)))), (28, (.I .i64 (3 : Int))), (29, (.B (decide ((3 : Int) < (3 : Int)))))] (Tr.full (.tup []) 193 193)) [] K :=
  (tlb.start C m r o K KX).trans (by rw [hm, hr]; exact bif_f (by decide))
set_option maxRecDepth 100000 in
theorem case15 {E : Wh} {w : World} {cargs : Array Value} (m r o : Int) (hm : (IntKind.wrap .i64 ((1 : Int) + (Int.tmod (IntKind.wrap .i64 ((Int.tmod m (3 : Int)) + (3 : Int))) (3 : Int)))) = 3) (hr : (Int.tmod (IntKind.wrap .i64 ((Int.tmod r (16 : Int)) + (16 : Int))) (16 : Int)) = 12) (hS : Sim E [] w) (ha : VsRel E [.I .i64 m, .I .i64 r, .I .i64 o] cargs.toList) :
    ((∃ fn, Tryz.prog.funcs[3]? = some fn ∧ fn.body.isSome = true) ∧ Calls Tryz.prog 3 cargs w (Ret (fun v _ => v = .B true) E [] w)) ∨ ∃ cv w', (callFunc 3 cargs).run Tryz.prog w = .ok (.value cv) w' ∧ Ret (fun v _ => v = .B true) E [] w (.returned cv) w' := by
  have hb := begin15 (tlb.C_15 tlb.G33_14 tlb.G35_14) m r o hm hr (kbody Tryz.prog 0 (fnOf Tryz.prog 3) (fun v _ => v = .B true)) (fun c ρ m K => cexec Tryz.prog (tlb.C_15 tlb.G33_14 tlb.G35_14) (fun _ => none) 0 1000 c ρ m K)
  have h2 := hb.trans (tlb.run_15 tlb.G33_14 tlb.G35_14 (Int.tmod o (2147483648 : Int)) _ _ _ _ _ _ _ _ _ _ _ _ _ (fun v _ => v = .B true))
  exact useP (P := Tryz.prog) (C := (tlb.C_15 tlb.G33_14 tlb.G35_14)) (d := 5) (n := 1000) (W := fun _ => none) (f := 3) (fn := fnOf Tryz.prog 3) (c := bodyOf Tryz.prog 3) (args := [.I .i64 m, .I .i64 r, .I .i64 o]) (m := []) (K := fun v _ => v = .B true) (E := E) (w := w) (cargs := cargs) tlb.named tlb.C_15_ok tlb.at3 tlb.body3 (l := 0) rfl (LoopsOk.none _ _) (hM m r o) h2 hS ha (tlb.t15 (within o).1 (within o).2 rfl)
open tlb in
theorem begin16 (C : CC) (m r o : Int) (hm : (IntKind.wrap .i64 ((1 : Int) + (Int.tmod (IntKind.wrap .i64 ((Int.tmod m (3 : Int)) + (3 : Int))) (3 : Int)))) = 3) (hr : (Int.tmod (IntKind.wrap .i64 ((Int.tmod r (16 : Int)) + (16 : Int))) (16 : Int)) = 13) (K : Ex → Env → Mem → Prop) (KX : Code → Env → Mem → (Ex → Env → Mem → Prop) → Prop) : cpre Tryz.prog C (fun _ => none) 0 1000 5 (bodyOf Tryz.prog 3) (Tr.puts 0 [.I .i64 m, .I .i64 r, .I .i64 o] (Tr.full (.tup []) (max (fnOf Tryz.prog 3).ntmps 3) (max (fnOf Tryz.prog 3).ntmps 3))) [] K KX = KX LawX (setsE [(0, (.I .i64 (3 : Int))), (1, (.I .i64 (13 : Int))), (2, (.I .i64 (Int.tmod o (2147483648 : Int)))), (6, (.B false)), (17, (.I .i64 m)), (18, (.I .i64 (Int.tmod m (3 : Int)))), (19, (.I .i64 (IntKind.wrap .i64 ((Int.tmod m (3 : Int)) + (3 : Int))))), (20, (.I .i64 (Int.tmod (IntKind.wrap .i64 ((Int.tmod m (3 : Int)) + (3 : Int))) (3 : Int)))), (21, (.I .i64 (3 : Int))), (22, (.I .i64 r)), (23, (.I .i64 (Int.tmod r (16 : Int)))), (24, (.I .i64 (IntKind.wrap .i64 ((Int.tmod r (16 : Int)) + (16 : Int))))), (25, (.I .i64 (13 : Int))), (26, (.I .i64 o)), (27, (.I .i64 (Int.tmod o (2147483648 : Int)))), (28, (.I .i64 (3 : Int))), (29, (.B (decide ((3 : Int) < (3 : Int)))))] (Tr.full (.tup []) 193 193)) [] K :=
  (tlb.start C m r o K KX).trans (by rw [hm, hr]; exact bif_f (by decide))
set_option maxRecDepth 100000 in
theorem case16 {E : Wh} {w : World} {cargs : Array Value} (m r o : Int) (hm : (IntKind.wrap .i64 ((1 : Int) + (Int.tmod (IntKind.wrap .i64 ((Int.tmod m (3 : Int)) + (3 : Int))) (3 : Int)))) = 3) (hr : (Int.tmod (IntKind.wrap .i64 ((Int.tmod r (16 : Int)) + (16 : Int))) (16 : Int)) = 13) (hS : Sim E [] w) (ha : VsRel E [.I .i64 m, .I .i64 r, .I .i64 o] cargs.toList) :
    ((∃ fn, Tryz.prog.funcs[3]? = some fn ∧ fn.body.isSome = true) ∧ Calls Tryz.prog 3 cargs w (Ret (fun v _ => v = .B true) E [] w)) ∨ ∃ cv w', (callFunc 3 cargs).run Tryz.prog w = .ok (.value cv) w' ∧ Ret (fun v _ => v = .B true) E [] w (.returned cv) w' := by
  have hb := begin16 (tlb.C_16 tlb.G33_15 tlb.G35_15) m r o hm hr (kbody Tryz.prog 0 (fnOf Tryz.prog 3) (fun v _ => v = .B true)) (fun c ρ m K => cexec Tryz.prog (tlb.C_16 tlb.G33_15 tlb.G35_15) (fun _ => none) 0 1000 c ρ m K)
  have h2 := hb.trans (tlb.run_16 tlb.G33_15 tlb.G35_15 (Int.tmod o (2147483648 : Int)) _ _ _ _ _ _ _ _ _ _ _ _ _ (fun v _ => v = .B true))
  exact useP (P := Tryz.prog) (C := (tlb.C_16 tlb.G33_15 tlb.G35_15)) (d := 5) (n := 1000) (W := fun _ => none) (f := 3) (fn := fnOf Tryz.prog 3) (c := bodyOf Tryz.prog 3) (args := [.I .i64 m, .I .i64 r, .I .i64 o]) (m := []) (K := fun v _ => v = .B true) (E := E) (w := w) (cargs := cargs) tlb.named tlb.C_16_ok tlb.at3 tlb.body3 (l := 0) rfl (LoopsOk.none _ _) (hM m r o) h2 hS ha (tlb.t16 (within o).1 (within o).2 rfl)
open tlb in
theorem begin17 (C : CC) (m r o : Int) (hm : (IntKind.wrap .i64 ((1 : Int) + (Int.tmod (IntKind.wrap .i64 ((Int.tmod m (3 : Int)) + (3 : Int))) (3 : Int)))) = 3) (hr : (Int.tmod (IntKind.wrap .i64 ((Int.tmod r (16 : Int)) + (16 : Int))) (16 : Int)) = 14) (K : Ex → Env → Mem → Prop) (KX : Code → Env → Mem → (Ex → Env → Mem → Prop) → Prop) : cpre Tryz.prog C (fun _ => none) 0 1000 5 (bodyOf Tryz.prog 3) (Tr.puts 0 [.I .i64 m, .I .i64 r, .I .i64 o] (Tr.full (.tup []) (max (fnOf Tryz.prog 3).ntmps 3) (max (fnOf Tryz.prog 3).ntmps 3))) [] K KX = KX LawX (setsE [(0, (.I .i64 (3 : Int))), (1, (.I .i64 (14 : Int))), (2, (.I .i64 (Int.tmod o (2147483648 : Int)))), (6, (.B false)), (17, (.I .i64 m)), (18, (.I .i64 (Int.tmod m (3 : Int)))), (19, (.I .i64 (IntKind.wrap .i64 ((Int.tmod m (3 : Int)) + (3 : Int))))), (20, (.I .i64 (Int.tmod (IntKind.wrap .i64 ((Int.tmod m (3 : Int)) + (3 : Int))) (3 : Int)))), (21, (.I .i64 (3 : Int))), (22, (.I .i64 r)), (23, (.I .i64 (Int.tmod r (16 : Int)))), (24, (.I .i64 (IntKind.wrap .i64 ((Int.tmod r (16 : Int)) + (16 : Int))))), (25, (.I .i64 (14 : Int))), (26, (.I .i64 o)), (27, (.I .i64 (Int.tmod o (2147483648 : Int)))), (28, (.I .i64 (3 : Int))), (29, (.B (decide ((3 : Int) < (3 : Int)))))] (Tr.full (.tup []) 193 193)) [] K :=
  (tlb.start C m r o K KX).trans (by rw [hm, hr]; exact bif_f (by decide))
set_option maxRecDepth 100000 in
theorem case17 {E : Wh} {w : World} {cargs : Array Value} (m r o : Int) (hm : (IntKind.wrap .i64 ((1 : Int) + (Int.tmod (IntKind.wrap .i64 ((Int.tmod m (3 : Int)) + (3 : Int))) (3 : Int)))) = 3) (hr : (Int.tmod (IntKind.wrap .i64 ((Int.tmod r (16 : Int)) + (16 : Int))) (16 : Int)) = 14) (hS : Sim E [] w) (ha : VsRel E [.I .i64 m, .I .i64 r, .I .i64 o] cargs.toList) :
    ((∃ fn, Tryz.prog.funcs[3]? = some fn ∧ fn.body.isSome = true) ∧ Calls Tryz.prog 3 cargs w (Ret (fun v _ => v = .B true) E [] w)) ∨ ∃ cv w', (callFunc 3 cargs).run Tryz.prog w = .ok (.value cv) w' ∧ Ret (fun v _ => v = .B true) E [] w (.returned cv) w' := by
  have hb := begin17 (tlb.C_17 tlb.G33_16 tlb.G35_16) m r o hm hr (kbody Tryz.prog 0 (fnOf Tryz.prog 3) (fun v _ => v = .B true)) (fun c ρ m K => cexec Tryz.prog (tlb.C_17 tlb.G33_16 tlb.G35_16) (fun _ => none) 0 1000 c ρ m K)
  have h2 := hb.trans (tlb.run_17 tlb.G33_16 tlb.G35_16 (Int.tmod o (2147483648 : Int)) _ _ _ _ _ _ _ _ _ _ _ _ _ (fun v _ => v = .B true))
  exact useP (P := Tryz.prog) (C := (tlb.C_17 tlb.G33_16 tlb.G35_16)) (d := 5) (n := 1000) (W := fun _ => none) (f := 3) (fn := fnOf Tryz.prog 3) (c := bodyOf Tryz.prog 3) (args := [.I .i64 m, .I .i64 r, .I .i64 o]) (m := []) (K := fun v _ => v = .B true) (E := E) (w := w) (cargs := cargs) tlb.named tlb.C_17_ok tlb.at3 tlb.body3 (l := 0) rfl (LoopsOk.none _ _) (hM m r o) h2 hS ha (tlb.t17 (within o).1 (within o).2 rfl)
open tlb in
theorem begin18 (C : CC) (m r o : Int) (hm : (IntKind.wrap .i64 ((1 : Int) + (Int.tmod (IntKind.wrap .i64 ((Int.tmod m (3 : Int)) + (3 : Int))) (3 : Int)))) = 3) (hr : (Int.tmod (IntKind.wrap .i64 ((Int.tmod r (16 : Int)) + (16 : Int))) (16 : Int)) = 15) (K : Ex → Env → Mem → Prop) (KX : Code → Env → Mem → (Ex → Env → Mem → Prop) → Prop) : cpre Tryz.prog C (fun _ => none) 0 1000 5 (bodyOf Tryz.prog 3) (Tr.puts 0 [.I .i64 m, .I .i64 r, .I .i64 o] (Tr.full (.tup []) (max (fnOf Tryz.prog 3).ntmps 3) (max (fnOf Tryz.prog 3).ntmps 3))) [] K KX = KX LawX (setsE [(0, (.I .i64 (3 : Int))), (1, (.I .i64 (15 : Int))), (2, (.I .i64 (Int.tmod o (2147483648 : Int)))), (6, (.B false)), (17, (.I .i64 m)), (18, (.I .i64 (Int.tmod m (3 : Int)))), (19, (.I .i64 (IntKind.wrap .i64 ((Int.tmod m (3 : Int)) + (3 : Int))))), (20, (.I .i64 (Int.tmod (IntKind.wrap .i64 ((Int.tmod m (3 : Int)) + (3 : Int))) (3 : Int)))), (21, (.I .i64 (3 : Int))), (22, (.I .i64 r)), (23, (.I .i64 (Int.tmod r (16 : Int)))), (24, (.I .i64 (IntKind.wrap .i64 ((Int.tmod r (16 : Int)) + (16 : Int))))), (25, (.I .i64 (15 : Int))), (26, (.I .i64 o)), (27, (.I .i64 (Int.tmod o (2147483648 : Int)))), (28, (.I .i64 (3 : Int))), (29, (.B (decide ((3 : Int) < (3 : Int)))))] (Tr.full (.tup []) 193 193)) [] K :=
  (tlb.start C m r o K KX).trans (by rw [hm, hr]; exact bif_f (by decide))
set_option maxRecDepth 100000 in
theorem case18 {E : Wh} {w : World} {cargs : Array Value} (m r o : Int) (hm : (IntKind.wrap .i64 ((1 : Int) + (Int.tmod (IntKind.wrap .i64 ((Int.tmod m (3 : Int)) + (3 : Int))) (3 : Int)))) = 3) (hr : (Int.tmod (IntKind.wrap .i64 ((Int.tmod r (16 : Int)) + (16 : Int))) (16 : Int)) = 15) (hS : Sim E [] w) (ha : VsRel E [.I .i64 m, .I .i64 r, .I .i64 o] cargs.toList) :
    ((∃ fn, Tryz.prog.funcs[3]? = some fn ∧ fn.body.isSome = true) ∧ Calls Tryz.prog 3 cargs w (Ret (fun v _ => v = .B true) E [] w)) ∨ ∃ cv w', (callFunc 3 cargs).run Tryz.prog w = .ok (.value cv) w' ∧ Ret (fun v _ => v = .B true) E [] w (.returned cv) w' := by
  have hb := begin18 (tlb.C_18 tlb.G33_17 tlb.G35_17) m r o hm hr (kbody Tryz.prog 0 (fnOf Tryz.prog 3) (fun v _ => v = .B true)) (fun c ρ m K => cexec Tryz.prog (tlb.C_18 tlb.G33_17 tlb.G35_17) (fun _ => none) 0 1000 c ρ m K)
  have h2 := hb.trans (tlb.run_18 tlb.G33_17 tlb.G35_17 (Int.tmod o (2147483648 : Int)) _ _ _ _ _ _ _ _ _ _ _ _ _ (fun v _ => v = .B true))
  exact useP (P := Tryz.prog) (C := (tlb.C_18 tlb.G33_17 tlb.G35_17)) (d := 5) (n := 1000) (W := fun _ => none) (f := 3) (fn := fnOf Tryz.prog 3) (c := bodyOf Tryz.prog 3) (args := [.I .i64 m, .I .i64 r, .I .i64 o]) (m := []) (K := fun v _ => v = .B true) (E := E) (w := w) (cargs := cargs) tlb.named tlb.C_18_ok tlb.at3 tlb.body3 (l := 0) rfl (LoopsOk.none _ _) (hM m r o) h2 hS ha (tlb.t18 (within o).1 (within o).2 rfl)
set_option maxHeartbeats 4000000 in
theorem walk (w : World) (a0 : Int) (w0 : inR .i64 a0 = true) (a1 : Int) (w1 : inR .i64 a1 = true) (a2 : Int) (w2 : inR .i64 a2 = true) :
    Calls Tryz.prog 3 #[.int .i64 a0, .int .i64 a1, .int .i64 a2] w (Held w) := by
  have ha : VsRel (fun k => ([] : List BE)[k]?) [.I .i64 a0, .I .i64 a1, .I .i64 a2] (#[.int .i64 a0, .int .i64 a1, .int .i64 a2] : Array Value).toList := by
    simp only [VsRel, VRel]
    exact ⟨_, _, rfl, ⟨rfl, w0⟩, _, _, rfl, ⟨rfl, w1⟩, _, _, rfl, ⟨rfl, w2⟩, rfl⟩
  have hS : Sim (fun k => ([] : List BE)[k]?) [] w := sim_ro [] (by intro k e he; simp at he)
  have hx : _ ∨ _ := (three a0).elim (fun hm => case1 a0 a1 a2 hm hS ha) fun h => h.elim (fun hm => case2 a0 a1 a2 hm hS ha) fun hm => by
    have hr := sixteen a1
    obtain ⟨k, hk, h16⟩ : ∃ k : Nat, (Int.tmod (IntKind.wrap .i64 ((Int.tmod a1 (16 : Int)) + (16 : Int))) (16 : Int)) = (k : Int) ∧ k < 16 := ⟨((Int.tmod (IntKind.wrap .i64 ((Int.tmod a1 (16 : Int)) + (16 : Int))) (16 : Int))).toNat, by omega, by omega⟩
    match k, hk, h16 with
    | 0, hk, _ => exact case3 a0 a1 a2 hm hk hS ha
    | 1, hk, _ => exact case4 a0 a1 a2 hm hk hS ha
    | 2, hk, _ => exact case5 a0 a1 a2 hm hk hS ha
    | 3, hk, _ => exact case6 a0 a1 a2 hm hk hS ha
    | 4, hk, _ => exact case7 a0 a1 a2 hm hk hS ha
    | 5, hk, _ => exact case8 a0 a1 a2 hm hk hS ha
    | 6, hk, _ => exact case9 a0 a1 a2 hm hk hS ha
    | 7, hk, _ => exact case10 a0 a1 a2 hm hk hS ha
    | 8, hk, _ => exact case11 a0 a1 a2 hm hk hS ha
    | 9, hk, _ => exact case12 a0 a1 a2 hm hk hS ha
    | 10, hk, _ => exact case13 a0 a1 a2 hm hk hS ha
    | 11, hk, _ => exact case14 a0 a1 a2 hm hk hS ha
    | 12, hk, _ => exact case15 a0 a1 a2 hm hk hS ha
    | 13, hk, _ => exact case16 a0 a1 a2 hm hk hS ha
    | 14, hk, _ => exact case17 a0 a1 a2 hm hk hS ha
    | 15, hk, _ => exact case18 a0 a1 a2 hm hk hS ha
    | k + 16, _, h => exact absurd h (by omega)
  exact (calls_of tlb.named (by kernel_rfl) hx).mono fun e w' h => h.held (by simp)
set_option maxRecDepth 100000 in
set_option maxHeartbeats 4000000 in
theorem contract (H : Type) (enc : TypeId × Value → H) (W : World) (base : Nat) (args : Array Value) (ds gs : List (DataW H)) (before : List MemPlace)
    (hval0 : ∀ (j : Nat) t v, Tryz.f3.params[j]? = some t → args[j]? = some v → Value.okWide Tryz.prog W .any base t v)
    (hW : DataW.Whole enc Tryz.prog Tryz.f3.params.toList Rows.tlsBecomesSpec.vars false W args.toList ds gs before) :
    Calls Tryz.prog 3 args W fun e W' => ∃ v, e = .returned v ∧ Rows.tlsBecomesSpec.post enc Tryz.prog Tryz.f3 false true false false W args v W' := by
  have hval : ∀ (j : Nat) t v, Tryz.f3.params[j]? = some t → args[j]? = some v → Value.okWide Tryz.prog W .any base t v := hval0
  have hW' := hW
  obtain ⟨p, q, hA0, hV, rfl, hfz, hnd⟩ := hW
  have hA : DataW.TrodAll enc Tryz.prog W 0 (fun _ => true) true Tryz.f3.params.toList args.toList ds p := hA0
  have hlt : ∀ x ∈ p, x.block < W.heap.size := hA0.lt
  rw [Tryz.params3] at hA hval
  obtain ⟨v0, vs0, d0, ds0, p0, q0, hargs, rfl, rfl, h0, r0⟩ := trodAll_cons hA
  obtain ⟨v1, vs1, d1, ds1, p1, q1, rfl, rfl, rfl, h1, r1⟩ := trodAll_cons r0
  obtain ⟨v2, vs2, d2, ds2, p2, q2, rfl, rfl, rfl, h2, r2⟩ := trodAll_cons r1
  obtain ⟨rfl, rfl, rfl⟩ := trodAll_nil r2
  obtain rfl : args = #[v0, v1, v2] := by cases args; simp_all
  obtain ⟨rfl, rfl⟩ := trodVars_none hV
  obtain ⟨a0, rfl, rfl, rfl, w0⟩ := open_int Tryz.underlying3 (hval 0 3 v0 rfl rfl) h0
  obtain ⟨a1, rfl, rfl, rfl, w1⟩ := open_int Tryz.underlying3 (hval 1 3 v1 rfl rfl) h1
  obtain ⟨a2, rfl, rfl, rfl, w2⟩ := open_int Tryz.underlying3 (hval 2 3 v2 rfl rfl) h2
  clear hval0
  refine (walk W a0 (by simpa [inR, Lit.wf] using w0) a1 (by simpa [inR, Lit.wf] using w1) a2 (by simpa [inR, Lit.wf] using w2)).mono fun e W' ⟨he, hg, hold⟩ => ?_
  subst he
  exact ⟨_, rfl, post_of_held (pv := []) hW' (fun _ _ _ => (trodAll_cons_mk (shut_bool Tryz.underlying4 _) trodAll_mk0)) (fun sp hsp => DataW.TrodAll.respare kids full (by rw [Tryz.params3]; decide) (trodAll_grown hold hA0 hlt) (fun x hx => hsp x (by simp at hx))) (fun _ _ => rfl) (by simp)
    (World.keptBut_mono (fun _ f => f.elim) hg.1) hold (ok_one (by kernel_rfl) rfl (okWide_bool_mk Tryz.underlying4 _))⟩
/-- A world in which the listed variables lie as their text says. -/
noncomputable def laidWorld (os : Os) : World :=
  let w0 := World.holding Tryz.prog os ⟨#[], #[], []⟩
  let put (h : Array Obj) (g : Nat) (cs : Array Value) : Array Obj := h.modify g fun
    | .cells _ t frozen => .cells cs t frozen
    | o => o
  { w0 with heap := put (put (put (w0.heap) 2 #[.int .u8 0, .int .u8 1, .int .u8 28, .int .u8 2, .int .u8 29, .int .u8 14, .int .u8 24, .int .u8 3, .int .u8 30, .int .u8 22, .int .u8 20, .int .u8 15, .int .u8 25, .int .u8 17, .int .u8 4, .int .u8 8, .int .u8 31, .int .u8 27, .int .u8 13, .int .u8 23, .int .u8 21, .int .u8 19, .int .u8 16, .int .u8 7, .int .u8 26, .int .u8 12, .int .u8 18, .int .u8 6, .int .u8 11, .int .u8 5, .int .u8 10, .int .u8 9]) 3 #[.int .u8 0, .int .u8 1, .int .u8 56, .int .u8 2, .int .u8 57, .int .u8 49, .int .u8 28, .int .u8 3, .int .u8 61, .int .u8 58, .int .u8 42, .int .u8 50, .int .u8 38, .int .u8 29, .int .u8 17, .int .u8 4, .int .u8 62, .int .u8 47, .int .u8 59, .int .u8 36, .int .u8 45, .int .u8 43, .int .u8 51, .int .u8 22, .int .u8 53, .int .u8 39, .int .u8 33, .int .u8 30, .int .u8 24, .int .u8 18, .int .u8 12, .int .u8 5, .int .u8 63, .int .u8 55, .int .u8 48, .int .u8 27, .int .u8 60, .int .u8 41, .int .u8 37, .int .u8 16, .int .u8 46, .int .u8 35, .int .u8 44, .int .u8 21, .int .u8 52, .int .u8 32, .int .u8 23, .int .u8 11, .int .u8 54, .int .u8 26, .int .u8 40, .int .u8 15, .int .u8 34, .int .u8 20, .int .u8 31, .int .u8 10, .int .u8 25, .int .u8 14, .int .u8 19, .int .u8 9, .int .u8 13, .int .u8 8, .int .u8 7, .int .u8 6]) 1 #[.int .u64 1, .int .u64 10, .int .u64 100, .int .u64 1000, .int .u64 10000, .int .u64 100000, .int .u64 1000000, .int .u64 10000000, .int .u64 100000000, .int .u64 1000000000, .int .u64 10000000000, .int .u64 100000000000, .int .u64 1000000000000, .int .u64 10000000000000, .int .u64 100000000000000, .int .u64 1000000000000000, .int .u64 10000000000000000, .int .u64 100000000000000000, .int .u64 1000000000000000000, .int .u64 10000000000000000000] }
theorem laid_met (os : Os) (args : Array Value) : laidMetH Tryz.prog Rows.tlsBecomesRow.laid ((laidWorld os).forCall (fun _ _ => 0) ⟨#[], args, []⟩).memory :=
  laidMetH_of_parts (laidMet_of_run3 10 (by kernel_rfl) (by kernel_rfl) (by kernel_rfl)) (by kernel_rfl)
set_option maxRecDepth 100000 in
theorem lifted (os : Os) (started : os.Started) (H : Type) (enc : TypeId × Value → H) :
    ReturnsInHanded {} Tryz.checked os 3 .any (fun w args => (Rows.tlsBecomesSpec.pre enc Tryz.prog Tryz.f3 [] false w args ∧ laidMetH Tryz.prog Rows.tlsBecomesRow.laid w) ∧ sizedMet enc Tryz.prog Tryz.f3 (OpenSpec.ofChange Rows.tlsBecomesSpec) false w args)
      (Rows.tlsBecomesSpec.post enc Tryz.prog Tryz.f3 false true false false) := by
  refine returnsInHanded_of_change_and (C := Tryz.checked) (X := fun w _ => laidMetH Tryz.prog Rows.tlsBecomesRow.laid w) (fun _ _ _ hh h => h.of_heap hh) own started (by kernel_rfl) Tryz.func3
    (ChangeSpec.witness_at (enc := enc) (C := Tryz.checked) (os := os) (X := fun w _ => laidMetH Tryz.prog Rows.tlsBecomesRow.laid w) false (laidWorld os) #[.int .i64 0, .int .i64 0, .int .i64 0] 8 rfl (by kernel_rfl) (by kernel_rfl) (by kernel_rfl) (by kernel_rfl) (by kernel_rfl) (laid_met os _)) ?_
  intro W base args ds gs before hval hW _ _ _ _
  exact contract H enc W base args ds gs before hval hW
theorem over : Rows.tlsBecomesRow.holds Tryz.pinned (OpenSpec.ofChange Rows.tlsBecomesSpec) :=
  OpenClaim.holds_of_wide 3 Tryz.f3 rfl rfl rfl rfl rfl rfl rfl ⟨rfl, rfl, rfl, rfl, rfl⟩ rfl rfl rfl rfl rfl (by kernel_rfl) Tryz.func3 (by kernel_rfl)
    (of_decide_eq_true (by kernel_rfl)) (by unfold Func.isWrapper; first | (rw [if_pos (by decide +kernel)]; kernel_rfl) | (rw [if_neg (by decide +kernel)]; exact ⟨rfl, rfl⟩))
    (fun os started H enc _ => lifted os started H enc)
theorem card : Rows.TlsBecomesCardSaid :=
  Claim7.holds_tied_plain_at .later [] [.data, .data, .data] true (true, "ca7bf5d31897a2d3d737bcff08458877f907e1c595fa3fba9ae5b10ae91abadb") true
    over (fun _ h => by cases h) (by kernel_rfl) (fun _ h => by cases h) tlsBecomes_row_tie rfl ⟨rfl, rfl⟩ (by kernel_rfl) rfl
    (fun f fn hf hfn => by
      obtain rfl : f = 3 := Option.some.inj ((show Tryz.prog.funcNamed Rows.tlsBecomesRow.func = some 3 by kernel_rfl).symm.trans hf) |>.symm
      obtain rfl : fn = Tryz.f3 := (Option.some.inj (Tryz.func3.symm.trans hfn)).symm
      exact ⟨by kernel_rfl, fun j t ht => by
        rw [Tryz.params3] at ht
        have hall : ∀ t ∈ [3, 3, 3], Tryz.prog.wantsStandIn t = false := by
          intro t ht
          simp only [List.mem_cons, List.not_mem_nil, or_false] at ht
          rcases ht with rfl | rfl | rfl <;> kernel_rfl
        exact hall t (by have := Array.mem_of_getElem? ht; simpa using this)⟩)
    (by kernel_rfl)
#print axioms card
end Go.Proofs.YtgdmellcbgalaaaGreatDoor.tlsBecomes
namespace Go.Proofs.YtgdmellcbgalaaaGreatDoor
theorem tlsBecomes_card : Rows.TlsBecomesCardSaid := tlsBecomes.card
end Go.Proofs.YtgdmellcbgalaaaGreatDoor
