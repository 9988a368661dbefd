import Derived.Test.YtaajhdkngiemlaaDoorFrm1
set_option linter.unusedVariables false
set_option linter.unusedSimpArgs false
set_option maxHeartbeats 4000000
set_option maxRecDepth 100000
namespace Go.Proofs.YtaajhdkngiemlaaDoor.frm
open Go Go.Ab
theorem at49 : Tryd.prog.funcs[49]? = some (fnOf Tryd.prog 49) := by kernel_rfl
def F49  (ok or ob ox os : Int) (op of : Bool) (on : Int) (ow : List Int) (om : Int) (k1 : Bool → Prop) (k2 : Prop) : Prop :=
  (bif ((ok == (1 : Int)) && ((or == or) && ((ob == (0 : Int)) && ((ox == (0 : Int)) && ((os == (0 : Int)) && ((op == false) && ((of == false) && ((on == (0 : Int)) && ((ow == ([] : List Int)) && ((om == (0 : Int)) && true)))))))))) then (bif (decide (or ≥ (0 : Int))) then (k1 (decide (or ≤ (15 : Int)))) else k2) else k2)
theorem F49_ok  (ok or ob ox os : Int) (op of : Bool) (on : Int) (ow : List Int) (om : Int) (K : V → Mem → Prop) : cbody Tryd.prog C1 (fun _ => none) 1000 (fnOf Tryd.prog 49) [(.agg [(.I .i64 ok), (.I .i64 or), (.I .i64 ob), (.I .i64 ox), (.I .i64 os), (.B op), (.B of), (.I .i64 on), (.S ow), (.I .i64 om)])] [] K =
    F49  ok or ob ox os op of on ow om (fun (u0 : Bool) => K (.B u0) []) (K (.B false) []) := by kernel_rfl
def G49 := F49 
set_option maxHeartbeats 4000000 in
theorem h49 (ok or ob ox os : Int) (op of : Bool) (on : Int) (ow : List Int) (om : Int)  (k : Bool → Prop) (h : k (regB ok or ob ox os op of on ow om)) : G49 ok or ob ox os op of on ow om (fun (u0 : Bool) => k u0) (k false) := by
  unfold G49 F49
  (repeat' refine cond_ind (fun _ => ?_) (fun _ => ?_)) <;> refine Eq.mp (congrArg k ?_) h <;> rw [Bool.eq_iff_iff] <;> simp_all [regB] <;> grind
theorem H49 (ok or ob ox os : Int) (op of : Bool) (on : Int) (ow : List Int) (om : Int) {E : Wh} {w' : World} {cargs : Array Value} {K : V → Mem → Prop} (hS : Sim E [] w') (ha : VsRel E [(.agg [(.I .i64 ok), (.I .i64 or), (.I .i64 ob), (.I .i64 ox), (.I .i64 os), (.B op), (.B of), (.I .i64 on), (.S ow), (.I .i64 om)])] cargs.toList) (h : K (.B (regB ok or ob ox os op of on ow om)) []) :
    ((∃ fn, Tryd.prog.funcs[49]? = some fn ∧ fn.body.isSome = true) ∧ Calls Tryd.prog 49 cargs w' (Ret K E [] w')) ∨ ∃ cv w1, (callFunc 49 cargs).run Tryd.prog w' = .ok (.value cv) w1 ∧ Ret K E [] w' (.returned cv) w1 :=
  cbody_use named C1_ok at49 (l := 0) rfl (LoopsOk.none _ _) (F49_ok  ok or ob ox os op of on ow om K) hS ha (h49 ok or ob ox os op of on ow om  (fun u => K (.B u) []) h)

def P49 : Prim := fun args m K =>
  let F := False
  (seeCons args F fun a1 q2 => (seeAgg a1 F fun vs3 => (seeCons vs3 F fun a4 q5 => (seeI .i64 a4 F fun ok => (seeCons q5 F fun a6 q7 => (seeI .i64 a6 F fun or => (seeCons q7 F fun a8 q9 => (seeI .i64 a8 F fun ob => (seeCons q9 F fun a10 q11 => (seeI .i64 a10 F fun ox => (seeCons q11 F fun a12 q13 => (seeI .i64 a12 F fun os => (seeCons q13 F fun a14 q15 => (seeB a14 F fun op => (seeCons q15 F fun a16 q17 => (seeB a16 F fun of => (seeCons q17 F fun a18 q19 => (seeI .i64 a18 F fun on => (seeCons q19 F fun a20 q21 => (seeS a20 F fun ow => (seeCons q21 F fun a22 q23 => (seeI .i64 a22 F fun om => (seeNil q23 F (seeNil q2 F (seeNil m F (K (.B (regB ok or ob ox os op of on ow om)) []))))))))))))))))))))))))))
set_option maxRecDepth 100000 in
theorem P49_ok : PrimOk Tryd.prog 49 P49 := by
  intro args m K E w cargs hS ha h
  unfold P49 at h
  dsimp only at h
  replace h := seeCons_use h
  rcases h with h | ⟨a1, q2, rfl, h⟩
  · exact h.elim
  replace h := seeAgg_use h
  rcases h with h | ⟨vs3, rfl, h⟩
  · exact h.elim
  replace h := seeCons_use h
  rcases h with h | ⟨a4, q5, rfl, h⟩
  · exact h.elim
  replace h := seeI_use h
  rcases h with h | ⟨ok, rfl, h⟩
  · exact h.elim
  replace h := seeCons_use h
  rcases h with h | ⟨a6, q7, rfl, h⟩
  · exact h.elim
  replace h := seeI_use h
  rcases h with h | ⟨or, rfl, h⟩
  · exact h.elim
  replace h := seeCons_use h
  rcases h with h | ⟨a8, q9, rfl, h⟩
  · exact h.elim
  replace h := seeI_use h
  rcases h with h | ⟨ob, rfl, h⟩
  · exact h.elim
  replace h := seeCons_use h
  rcases h with h | ⟨a10, q11, rfl, h⟩
  · exact h.elim
  replace h := seeI_use h
  rcases h with h | ⟨ox, rfl, h⟩
  · exact h.elim
  replace h := seeCons_use h
  rcases h with h | ⟨a12, q13, rfl, h⟩
  · exact h.elim
  replace h := seeI_use h
  rcases h with h | ⟨os, rfl, h⟩
  · exact h.elim
  replace h := seeCons_use h
  rcases h with h | ⟨a14, q15, rfl, h⟩
  · exact h.elim
  replace h := seeB_use h
  rcases h with h | ⟨op, rfl, h⟩
  · exact h.elim
  replace h := seeCons_use h
  rcases h with h | ⟨a16, q17, rfl, h⟩
  · exact h.elim
  replace h := seeB_use h
  rcases h with h | ⟨of, rfl, h⟩
  · exact h.elim
  replace h := seeCons_use h
  rcases h with h | ⟨a18, q19, rfl, h⟩
  · exact h.elim
  replace h := seeI_use h
  rcases h with h | ⟨on, rfl, h⟩
  · exact h.elim
  replace h := seeCons_use h
  rcases h with h | ⟨a20, q21, rfl, h⟩
  · exact h.elim
  replace h := seeS_use h
  rcases h with h | ⟨ow, rfl, h⟩
  · exact h.elim
  replace h := seeCons_use h
  rcases h with h | ⟨a22, q23, rfl, h⟩
  · exact h.elim
  replace h := seeI_use h
  rcases h with h | ⟨om, rfl, h⟩
  · exact h.elim
  replace h := seeNil_use h
  rcases h with h | ⟨rfl, h⟩
  · exact h.elim
  replace h := seeNil_use h
  rcases h with h | ⟨rfl, h⟩
  · exact h.elim
  replace h := seeNil_use h
  rcases h with h | ⟨rfl, h⟩
  · exact h.elim
  exact H49 ok or ob ox os op of on ow om hS ha h
theorem at68 : Tryd.prog.funcs[68]? = some (fnOf Tryd.prog 68) := by kernel_rfl
def F68  (ok or ob ox os : Int) (op of : Bool) (on : Int) (ow : List Int) (om : Int) (k1 : Bool → Prop) (k2 : Prop) : Prop :=
  (bif (decide (or ≥ (0 : Int))) then (bif (decide (or < (16 : Int))) then (k1 ((ok == (1 : Int)) && ((or == or) && ((ob == (0 : Int)) && ((ox == (0 : Int)) && ((os == (0 : Int)) && ((op == false) && ((of == false) && ((on == (0 : Int)) && ((ow == ([] : List Int)) && ((om == (0 : Int)) && true))))))))))) else k2) else k2)
theorem F68_ok  (ok or ob ox os : Int) (op of : Bool) (on : Int) (ow : List Int) (om : Int) (K : V → Mem → Prop) : cbody Tryd.prog C1 (fun _ => none) 1000 (fnOf Tryd.prog 68) [(.agg [(.I .i64 ok), (.I .i64 or), (.I .i64 ob), (.I .i64 ox), (.I .i64 os), (.B op), (.B of), (.I .i64 on), (.S ow), (.I .i64 om)])] [] K =
    F68  ok or ob ox os op of on ow om (fun (u0 : Bool) => K (.B u0) []) (K (.B false) []) := by kernel_rfl
def G68 := F68 
set_option maxHeartbeats 4000000 in
theorem h68 (ok or ob ox os : Int) (op of : Bool) (on : Int) (ow : List Int) (om : Int)  (k : Bool → Prop) (h : k (regB ok or ob ox os op of on ow om)) : G68 ok or ob ox os op of on ow om (fun (u0 : Bool) => k u0) (k false) := by
  unfold G68 F68
  (repeat' refine cond_ind (fun _ => ?_) (fun _ => ?_)) <;> refine Eq.mp (congrArg k ?_) h <;> rw [Bool.eq_iff_iff] <;> simp_all [regB] <;> grind
theorem H68 (ok or ob ox os : Int) (op of : Bool) (on : Int) (ow : List Int) (om : Int) {E : Wh} {w' : World} {cargs : Array Value} {K : V → Mem → Prop} (hS : Sim E [] w') (ha : VsRel E [(.agg [(.I .i64 ok), (.I .i64 or), (.I .i64 ob), (.I .i64 ox), (.I .i64 os), (.B op), (.B of), (.I .i64 on), (.S ow), (.I .i64 om)])] cargs.toList) (h : K (.B (regB ok or ob ox os op of on ow om)) []) :
    ((∃ fn, Tryd.prog.funcs[68]? = some fn ∧ fn.body.isSome = true) ∧ Calls Tryd.prog 68 cargs w' (Ret K E [] w')) ∨ ∃ cv w1, (callFunc 68 cargs).run Tryd.prog w' = .ok (.value cv) w1 ∧ Ret K E [] w' (.returned cv) w1 :=
  cbody_use named C1_ok at68 (l := 0) rfl (LoopsOk.none _ _) (F68_ok  ok or ob ox os op of on ow om K) hS ha (h68 ok or ob ox os op of on ow om  (fun u => K (.B u) []) h)

def P68 : Prim := fun args m K =>
  let F := False
  (seeCons args F fun a1 q2 => (seeAgg a1 F fun vs3 => (seeCons vs3 F fun a4 q5 => (seeI .i64 a4 F fun ok => (seeCons q5 F fun a6 q7 => (seeI .i64 a6 F fun or => (seeCons q7 F fun a8 q9 => (seeI .i64 a8 F fun ob => (seeCons q9 F fun a10 q11 => (seeI .i64 a10 F fun ox => (seeCons q11 F fun a12 q13 => (seeI .i64 a12 F fun os => (seeCons q13 F fun a14 q15 => (seeB a14 F fun op => (seeCons q15 F fun a16 q17 => (seeB a16 F fun of => (seeCons q17 F fun a18 q19 => (seeI .i64 a18 F fun on => (seeCons q19 F fun a20 q21 => (seeS a20 F fun ow => (seeCons q21 F fun a22 q23 => (seeI .i64 a22 F fun om => (seeNil q23 F (seeNil q2 F (seeNil m F (K (.B (regB ok or ob ox os op of on ow om)) []))))))))))))))))))))))))))
set_option maxRecDepth 100000 in
theorem P68_ok : PrimOk Tryd.prog 68 P68 := by
  intro args m K E w cargs hS ha h
  unfold P68 at h
  dsimp only at h
  replace h := seeCons_use h
  rcases h with h | ⟨a1, q2, rfl, h⟩
  · exact h.elim
  replace h := seeAgg_use h
  rcases h with h | ⟨vs3, rfl, h⟩
  · exact h.elim
  replace h := seeCons_use h
  rcases h with h | ⟨a4, q5, rfl, h⟩
  · exact h.elim
  replace h := seeI_use h
  rcases h with h | ⟨ok, rfl, h⟩
  · exact h.elim
  replace h := seeCons_use h
  rcases h with h | ⟨a6, q7, rfl, h⟩
  · exact h.elim
  replace h := seeI_use h
  rcases h with h | ⟨or, rfl, h⟩
  · exact h.elim
  replace h := seeCons_use h
  rcases h with h | ⟨a8, q9, rfl, h⟩
  · exact h.elim
  replace h := seeI_use h
  rcases h with h | ⟨ob, rfl, h⟩
  · exact h.elim
  replace h := seeCons_use h
  rcases h with h | ⟨a10, q11, rfl, h⟩
  · exact h.elim
  replace h := seeI_use h
  rcases h with h | ⟨ox, rfl, h⟩
  · exact h.elim
  replace h := seeCons_use h
  rcases h with h | ⟨a12, q13, rfl, h⟩
  · exact h.elim
  replace h := seeI_use h
  rcases h with h | ⟨os, rfl, h⟩
  · exact h.elim
  replace h := seeCons_use h
  rcases h with h | ⟨a14, q15, rfl, h⟩
  · exact h.elim
  replace h := seeB_use h
  rcases h with h | ⟨op, rfl, h⟩
  · exact h.elim
  replace h := seeCons_use h
  rcases h with h | ⟨a16, q17, rfl, h⟩
  · exact h.elim
  replace h := seeB_use h
  rcases h with h | ⟨of, rfl, h⟩
  · exact h.elim
  replace h := seeCons_use h
  rcases h with h | ⟨a18, q19, rfl, h⟩
  · exact h.elim
  replace h := seeI_use h
  rcases h with h | ⟨on, rfl, h⟩
  · exact h.elim
  replace h := seeCons_use h
  rcases h with h | ⟨a20, q21, rfl, h⟩
  · exact h.elim
  replace h := seeS_use h
  rcases h with h | ⟨ow, rfl, h⟩
  · exact h.elim
  replace h := seeCons_use h
  rcases h with h | ⟨a22, q23, rfl, h⟩
  · exact h.elim
  replace h := seeI_use h
  rcases h with h | ⟨om, rfl, h⟩
  · exact h.elim
  replace h := seeNil_use h
  rcases h with h | ⟨rfl, h⟩
  · exact h.elim
  replace h := seeNil_use h
  rcases h with h | ⟨rfl, h⟩
  · exact h.elim
  replace h := seeNil_use h
  rcases h with h | ⟨rfl, h⟩
  · exact h.elim
  exact H68 ok or ob ox os op of on ow om hS ha h
theorem at56 : Tryd.prog.funcs[56]? = some (fnOf Tryd.prog 56) := by kernel_rfl
def F56  (ok or ob ox os : Int) (op of : Bool) (on : Int) (ow : List Int) (om : Int) (k1 : Bool → Prop) : Prop :=
  (k1 ((ok == (2 : Int)) && ((or == (0 : Int)) && ((ob == (0 : Int)) && ((ox == (0 : Int)) && ((os == (0 : Int)) && ((op == false) && ((of == false) && ((on == on) && ((ow == ([] : List Int)) && ((om == (0 : Int)) && true)))))))))))
theorem F56_ok  (ok or ob ox os : Int) (op of : Bool) (on : Int) (ow : List Int) (om : Int) (K : V → Mem → Prop) : cbody Tryd.prog C1 (fun _ => none) 1000 (fnOf Tryd.prog 56) [(.agg [(.I .i64 ok), (.I .i64 or), (.I .i64 ob), (.I .i64 ox), (.I .i64 os), (.B op), (.B of), (.I .i64 on), (.S ow), (.I .i64 om)])] [] K =
    F56  ok or ob ox os op of on ow om (fun (u0 : Bool) => K (.B u0) []) := by kernel_rfl
def G56 := F56 
set_option maxHeartbeats 4000000 in
theorem h56 (ok or ob ox os : Int) (op of : Bool) (on : Int) (ow : List Int) (om : Int)  (k : Bool → Prop) (h : k (immB ok or ob ox os op of on ow om)) : G56 ok or ob ox os op of on ow om (fun (u0 : Bool) => k u0) := by
  unfold G56 F56
  (repeat' refine cond_ind (fun _ => ?_) (fun _ => ?_)) <;> refine Eq.mp (congrArg k ?_) h <;> rw [Bool.eq_iff_iff] <;> simp_all [immB] <;> grind
theorem H56 (ok or ob ox os : Int) (op of : Bool) (on : Int) (ow : List Int) (om : Int) {E : Wh} {w' : World} {cargs : Array Value} {K : V → Mem → Prop} (hS : Sim E [] w') (ha : VsRel E [(.agg [(.I .i64 ok), (.I .i64 or), (.I .i64 ob), (.I .i64 ox), (.I .i64 os), (.B op), (.B of), (.I .i64 on), (.S ow), (.I .i64 om)])] cargs.toList) (h : K (.B (immB ok or ob ox os op of on ow om)) []) :
    ((∃ fn, Tryd.prog.funcs[56]? = some fn ∧ fn.body.isSome = true) ∧ Calls Tryd.prog 56 cargs w' (Ret K E [] w')) ∨ ∃ cv w1, (callFunc 56 cargs).run Tryd.prog w' = .ok (.value cv) w1 ∧ Ret K E [] w' (.returned cv) w1 :=
  cbody_use named C1_ok at56 (l := 0) rfl (LoopsOk.none _ _) (F56_ok  ok or ob ox os op of on ow om K) hS ha (h56 ok or ob ox os op of on ow om  (fun u => K (.B u) []) h)

def P56 : Prim := fun args m K =>
  let F := False
  (seeCons args F fun a1 q2 => (seeAgg a1 F fun vs3 => (seeCons vs3 F fun a4 q5 => (seeI .i64 a4 F fun ok => (seeCons q5 F fun a6 q7 => (seeI .i64 a6 F fun or => (seeCons q7 F fun a8 q9 => (seeI .i64 a8 F fun ob => (seeCons q9 F fun a10 q11 => (seeI .i64 a10 F fun ox => (seeCons q11 F fun a12 q13 => (seeI .i64 a12 F fun os => (seeCons q13 F fun a14 q15 => (seeB a14 F fun op => (seeCons q15 F fun a16 q17 => (seeB a16 F fun of => (seeCons q17 F fun a18 q19 => (seeI .i64 a18 F fun on => (seeCons q19 F fun a20 q21 => (seeS a20 F fun ow => (seeCons q21 F fun a22 q23 => (seeI .i64 a22 F fun om => (seeNil q23 F (seeNil q2 F (seeNil m F (K (.B (immB ok or ob ox os op of on ow om)) []))))))))))))))))))))))))))
set_option maxRecDepth 100000 in
theorem P56_ok : PrimOk Tryd.prog 56 P56 := by
  intro args m K E w cargs hS ha h
  unfold P56 at h
  dsimp only at h
  replace h := seeCons_use h
  rcases h with h | ⟨a1, q2, rfl, h⟩
  · exact h.elim
  replace h := seeAgg_use h
  rcases h with h | ⟨vs3, rfl, h⟩
  · exact h.elim
  replace h := seeCons_use h
  rcases h with h | ⟨a4, q5, rfl, h⟩
  · exact h.elim
  replace h := seeI_use h
  rcases h with h | ⟨ok, rfl, h⟩
  · exact h.elim
  replace h := seeCons_use h
  rcases h with h | ⟨a6, q7, rfl, h⟩
  · exact h.elim
  replace h := seeI_use h
  rcases h with h | ⟨or, rfl, h⟩
  · exact h.elim
  replace h := seeCons_use h
  rcases h with h | ⟨a8, q9, rfl, h⟩
  · exact h.elim
  replace h := seeI_use h
  rcases h with h | ⟨ob, rfl, h⟩
  · exact h.elim
  replace h := seeCons_use h
  rcases h with h | ⟨a10, q11, rfl, h⟩
  · exact h.elim
  replace h := seeI_use h
  rcases h with h | ⟨ox, rfl, h⟩
  · exact h.elim
  replace h := seeCons_use h
  rcases h with h | ⟨a12, q13, rfl, h⟩
  · exact h.elim
  replace h := seeI_use h
  rcases h with h | ⟨os, rfl, h⟩
  · exact h.elim
  replace h := seeCons_use h
  rcases h with h | ⟨a14, q15, rfl, h⟩
  · exact h.elim
  replace h := seeB_use h
  rcases h with h | ⟨op, rfl, h⟩
  · exact h.elim
  replace h := seeCons_use h
  rcases h with h | ⟨a16, q17, rfl, h⟩
  · exact h.elim
  replace h := seeB_use h
  rcases h with h | ⟨of, rfl, h⟩
  · exact h.elim
  replace h := seeCons_use h
  rcases h with h | ⟨a18, q19, rfl, h⟩
  · exact h.elim
  replace h := seeI_use h
  rcases h with h | ⟨on, rfl, h⟩
  · exact h.elim
  replace h := seeCons_use h
  rcases h with h | ⟨a20, q21, rfl, h⟩
  · exact h.elim
  replace h := seeS_use h
  rcases h with h | ⟨ow, rfl, h⟩
  · exact h.elim
  replace h := seeCons_use h
  rcases h with h | ⟨a22, q23, rfl, h⟩
  · exact h.elim
  replace h := seeI_use h
  rcases h with h | ⟨om, rfl, h⟩
  · exact h.elim
  replace h := seeNil_use h
  rcases h with h | ⟨rfl, h⟩
  · exact h.elim
  replace h := seeNil_use h
  rcases h with h | ⟨rfl, h⟩
  · exact h.elim
  replace h := seeNil_use h
  rcases h with h | ⟨rfl, h⟩
  · exact h.elim
  exact H56 ok or ob ox os op of on ow om hS ha h
theorem at69 : Tryd.prog.funcs[69]? = some (fnOf Tryd.prog 69) := by kernel_rfl
def F69  (ok or ob ox os : Int) (op of : Bool) (on : Int) (ow : List Int) (om : Int) (k1 : Bool → Prop) : Prop :=
  (k1 ((ok == (2 : Int)) && ((or == (0 : Int)) && ((ob == (0 : Int)) && ((ox == (0 : Int)) && ((os == (0 : Int)) && ((op == false) && ((of == false) && ((on == on) && ((ow == ([] : List Int)) && ((om == (0 : Int)) && true)))))))))))
theorem F69_ok  (ok or ob ox os : Int) (op of : Bool) (on : Int) (ow : List Int) (om : Int) (K : V → Mem → Prop) : cbody Tryd.prog C1 (fun _ => none) 1000 (fnOf Tryd.prog 69) [(.agg [(.I .i64 ok), (.I .i64 or), (.I .i64 ob), (.I .i64 ox), (.I .i64 os), (.B op), (.B of), (.I .i64 on), (.S ow), (.I .i64 om)])] [] K =
    F69  ok or ob ox os op of on ow om (fun (u0 : Bool) => K (.B u0) []) := by kernel_rfl
def G69 := F69 
set_option maxHeartbeats 4000000 in
theorem h69 (ok or ob ox os : Int) (op of : Bool) (on : Int) (ow : List Int) (om : Int)  (k : Bool → Prop) (h : k (immB ok or ob ox os op of on ow om)) : G69 ok or ob ox os op of on ow om (fun (u0 : Bool) => k u0) := by
  unfold G69 F69
  (repeat' refine cond_ind (fun _ => ?_) (fun _ => ?_)) <;> refine Eq.mp (congrArg k ?_) h <;> rw [Bool.eq_iff_iff] <;> simp_all [immB] <;> grind
theorem H69 (ok or ob ox os : Int) (op of : Bool) (on : Int) (ow : List Int) (om : Int) {E : Wh} {w' : World} {cargs : Array Value} {K : V → Mem → Prop} (hS : Sim E [] w') (ha : VsRel E [(.agg [(.I .i64 ok), (.I .i64 or), (.I .i64 ob), (.I .i64 ox), (.I .i64 os), (.B op), (.B of), (.I .i64 on), (.S ow), (.I .i64 om)])] cargs.toList) (h : K (.B (immB ok or ob ox os op of on ow om)) []) :
    ((∃ fn, Tryd.prog.funcs[69]? = some fn ∧ fn.body.isSome = true) ∧ Calls Tryd.prog 69 cargs w' (Ret K E [] w')) ∨ ∃ cv w1, (callFunc 69 cargs).run Tryd.prog w' = .ok (.value cv) w1 ∧ Ret K E [] w' (.returned cv) w1 :=
  cbody_use named C1_ok at69 (l := 0) rfl (LoopsOk.none _ _) (F69_ok  ok or ob ox os op of on ow om K) hS ha (h69 ok or ob ox os op of on ow om  (fun u => K (.B u) []) h)

def P69 : Prim := fun args m K =>
  let F := False
  (seeCons args F fun a1 q2 => (seeAgg a1 F fun vs3 => (seeCons vs3 F fun a4 q5 => (seeI .i64 a4 F fun ok => (seeCons q5 F fun a6 q7 => (seeI .i64 a6 F fun or => (seeCons q7 F fun a8 q9 => (seeI .i64 a8 F fun ob => (seeCons q9 F fun a10 q11 => (seeI .i64 a10 F fun ox => (seeCons q11 F fun a12 q13 => (seeI .i64 a12 F fun os => (seeCons q13 F fun a14 q15 => (seeB a14 F fun op => (seeCons q15 F fun a16 q17 => (seeB a16 F fun of => (seeCons q17 F fun a18 q19 => (seeI .i64 a18 F fun on => (seeCons q19 F fun a20 q21 => (seeS a20 F fun ow => (seeCons q21 F fun a22 q23 => (seeI .i64 a22 F fun om => (seeNil q23 F (seeNil q2 F (seeNil m F (K (.B (immB ok or ob ox os op of on ow om)) []))))))))))))))))))))))))))
set_option maxRecDepth 100000 in
theorem P69_ok : PrimOk Tryd.prog 69 P69 := by
  intro args m K E w cargs hS ha h
  unfold P69 at h
  dsimp only at h
  replace h := seeCons_use h
  rcases h with h | ⟨a1, q2, rfl, h⟩
  · exact h.elim
  replace h := seeAgg_use h
  rcases h with h | ⟨vs3, rfl, h⟩
  · exact h.elim
  replace h := seeCons_use h
  rcases h with h | ⟨a4, q5, rfl, h⟩
  · exact h.elim
  replace h := seeI_use h
  rcases h with h | ⟨ok, rfl, h⟩
  · exact h.elim
  replace h := seeCons_use h
  rcases h with h | ⟨a6, q7, rfl, h⟩
  · exact h.elim
  replace h := seeI_use h
  rcases h with h | ⟨or, rfl, h⟩
  · exact h.elim
  replace h := seeCons_use h
  rcases h with h | ⟨a8, q9, rfl, h⟩
  · exact h.elim
  replace h := seeI_use h
  rcases h with h | ⟨ob, rfl, h⟩
  · exact h.elim
  replace h := seeCons_use h
  rcases h with h | ⟨a10, q11, rfl, h⟩
  · exact h.elim
  replace h := seeI_use h
  rcases h with h | ⟨ox, rfl, h⟩
  · exact h.elim
  replace h := seeCons_use h
  rcases h with h | ⟨a12, q13, rfl, h⟩
  · exact h.elim
  replace h := seeI_use h
  rcases h with h | ⟨os, rfl, h⟩
  · exact h.elim
  replace h := seeCons_use h
  rcases h with h | ⟨a14, q15, rfl, h⟩
  · exact h.elim
  replace h := seeB_use h
  rcases h with h | ⟨op, rfl, h⟩
  · exact h.elim
  replace h := seeCons_use h
  rcases h with h | ⟨a16, q17, rfl, h⟩
  · exact h.elim
  replace h := seeB_use h
  rcases h with h | ⟨of, rfl, h⟩
  · exact h.elim
  replace h := seeCons_use h
  rcases h with h | ⟨a18, q19, rfl, h⟩
  · exact h.elim
  replace h := seeI_use h
  rcases h with h | ⟨on, rfl, h⟩
  · exact h.elim
  replace h := seeCons_use h
  rcases h with h | ⟨a20, q21, rfl, h⟩
  · exact h.elim
  replace h := seeS_use h
  rcases h with h | ⟨ow, rfl, h⟩
  · exact h.elim
  replace h := seeCons_use h
  rcases h with h | ⟨a22, q23, rfl, h⟩
  · exact h.elim
  replace h := seeI_use h
  rcases h with h | ⟨om, rfl, h⟩
  · exact h.elim
  replace h := seeNil_use h
  rcases h with h | ⟨rfl, h⟩
  · exact h.elim
  replace h := seeNil_use h
  rcases h with h | ⟨rfl, h⟩
  · exact h.elim
  replace h := seeNil_use h
  rcases h with h | ⟨rfl, h⟩
  · exact h.elim
  exact H69 ok or ob ox os op of on ow om hS ha h
theorem at39 : Tryd.prog.funcs[39]? = some (fnOf Tryd.prog 39) := by kernel_rfl
def F39  (ok or ob ox os : Int) (op of : Bool) (on : Int) (ow : List Int) (om : Int) (k1 : Bool → Prop) : Prop :=
  (k1 ((ok == (0 : Int)) && ((or == (0 : Int)) && ((ob == (0 : Int)) && ((ox == (0 : Int)) && ((os == (0 : Int)) && ((op == false) && ((of == false) && ((on == (0 : Int)) && ((ow == ([] : List Int)) && ((om == (0 : Int)) && true)))))))))))
theorem F39_ok  (ok or ob ox os : Int) (op of : Bool) (on : Int) (ow : List Int) (om : Int) (K : V → Mem → Prop) : cbody Tryd.prog C1 (fun _ => none) 1000 (fnOf Tryd.prog 39) [(.agg [(.I .i64 ok), (.I .i64 or), (.I .i64 ob), (.I .i64 ox), (.I .i64 os), (.B op), (.B of), (.I .i64 on), (.S ow), (.I .i64 om)])] [] K =
    F39  ok or ob ox os op of on ow om (fun (u0 : Bool) => K (.B u0) []) := by kernel_rfl
def G39 := F39 
set_option maxHeartbeats 4000000 in
theorem h39 (ok or ob ox os : Int) (op of : Bool) (on : Int) (ow : List Int) (om : Int)  (k : Bool → Prop) (h : k (noneB ok or ob ox os op of on ow om)) : G39 ok or ob ox os op of on ow om (fun (u0 : Bool) => k u0) := by
  unfold G39 F39
  (repeat' refine cond_ind (fun _ => ?_) (fun _ => ?_)) <;> refine Eq.mp (congrArg k ?_) h <;> rw [Bool.eq_iff_iff] <;> simp_all [noneB] <;> grind
theorem H39 (ok or ob ox os : Int) (op of : Bool) (on : Int) (ow : List Int) (om : Int) {E : Wh} {w' : World} {cargs : Array Value} {K : V → Mem → Prop} (hS : Sim E [] w') (ha : VsRel E [(.agg [(.I .i64 ok), (.I .i64 or), (.I .i64 ob), (.I .i64 ox), (.I .i64 os), (.B op), (.B of), (.I .i64 on), (.S ow), (.I .i64 om)])] cargs.toList) (h : K (.B (noneB ok or ob ox os op of on ow om)) []) :
    ((∃ fn, Tryd.prog.funcs[39]? = some fn ∧ fn.body.isSome = true) ∧ Calls Tryd.prog 39 cargs w' (Ret K E [] w')) ∨ ∃ cv w1, (callFunc 39 cargs).run Tryd.prog w' = .ok (.value cv) w1 ∧ Ret K E [] w' (.returned cv) w1 :=
  cbody_use named C1_ok at39 (l := 0) rfl (LoopsOk.none _ _) (F39_ok  ok or ob ox os op of on ow om K) hS ha (h39 ok or ob ox os op of on ow om  (fun u => K (.B u) []) h)

def P39 : Prim := fun args m K =>
  let F := False
  (seeCons args F fun a1 q2 => (seeAgg a1 F fun vs3 => (seeCons vs3 F fun a4 q5 => (seeI .i64 a4 F fun ok => (seeCons q5 F fun a6 q7 => (seeI .i64 a6 F fun or => (seeCons q7 F fun a8 q9 => (seeI .i64 a8 F fun ob => (seeCons q9 F fun a10 q11 => (seeI .i64 a10 F fun ox => (seeCons q11 F fun a12 q13 => (seeI .i64 a12 F fun os => (seeCons q13 F fun a14 q15 => (seeB a14 F fun op => (seeCons q15 F fun a16 q17 => (seeB a16 F fun of => (seeCons q17 F fun a18 q19 => (seeI .i64 a18 F fun on => (seeCons q19 F fun a20 q21 => (seeS a20 F fun ow => (seeCons q21 F fun a22 q23 => (seeI .i64 a22 F fun om => (seeNil q23 F (seeNil q2 F (seeNil m F (K (.B (noneB ok or ob ox os op of on ow om)) []))))))))))))))))))))))))))
set_option maxRecDepth 100000 in
theorem P39_ok : PrimOk Tryd.prog 39 P39 := by
  intro args m K E w cargs hS ha h
  unfold P39 at h
  dsimp only at h
  replace h := seeCons_use h
  rcases h with h | ⟨a1, q2, rfl, h⟩
  · exact h.elim
  replace h := seeAgg_use h
  rcases h with h | ⟨vs3, rfl, h⟩
  · exact h.elim
  replace h := seeCons_use h
  rcases h with h | ⟨a4, q5, rfl, h⟩
  · exact h.elim
  replace h := seeI_use h
  rcases h with h | ⟨ok, rfl, h⟩
  · exact h.elim
  replace h := seeCons_use h
  rcases h with h | ⟨a6, q7, rfl, h⟩
  · exact h.elim
  replace h := seeI_use h
  rcases h with h | ⟨or, rfl, h⟩
  · exact h.elim
  replace h := seeCons_use h
  rcases h with h | ⟨a8, q9, rfl, h⟩
  · exact h.elim
  replace h := seeI_use h
  rcases h with h | ⟨ob, rfl, h⟩
  · exact h.elim
  replace h := seeCons_use h
  rcases h with h | ⟨a10, q11, rfl, h⟩
  · exact h.elim
  replace h := seeI_use h
  rcases h with h | ⟨ox, rfl, h⟩
  · exact h.elim
  replace h := seeCons_use h
  rcases h with h | ⟨a12, q13, rfl, h⟩
  · exact h.elim
  replace h := seeI_use h
  rcases h with h | ⟨os, rfl, h⟩
  · exact h.elim
  replace h := seeCons_use h
  rcases h with h | ⟨a14, q15, rfl, h⟩
  · exact h.elim
  replace h := seeB_use h
  rcases h with h | ⟨op, rfl, h⟩
  · exact h.elim
  replace h := seeCons_use h
  rcases h with h | ⟨a16, q17, rfl, h⟩
  · exact h.elim
  replace h := seeB_use h
  rcases h with h | ⟨of, rfl, h⟩
  · exact h.elim
  replace h := seeCons_use h
  rcases h with h | ⟨a18, q19, rfl, h⟩
  · exact h.elim
  replace h := seeI_use h
  rcases h with h | ⟨on, rfl, h⟩
  · exact h.elim
  replace h := seeCons_use h
  rcases h with h | ⟨a20, q21, rfl, h⟩
  · exact h.elim
  replace h := seeS_use h
  rcases h with h | ⟨ow, rfl, h⟩
  · exact h.elim
  replace h := seeCons_use h
  rcases h with h | ⟨a22, q23, rfl, h⟩
  · exact h.elim
  replace h := seeI_use h
  rcases h with h | ⟨om, rfl, h⟩
  · exact h.elim
  replace h := seeNil_use h
  rcases h with h | ⟨rfl, h⟩
  · exact h.elim
  replace h := seeNil_use h
  rcases h with h | ⟨rfl, h⟩
  · exact h.elim
  replace h := seeNil_use h
  rcases h with h | ⟨rfl, h⟩
  · exact h.elim
  exact H39 ok or ob ox os op of on ow om hS ha h
theorem at72 : Tryd.prog.funcs[72]? = some (fnOf Tryd.prog 72) := by kernel_rfl
def F72  (ok or ob ox os : Int) (op of : Bool) (on : Int) (ow : List Int) (om : Int) (k1 : Bool → Prop) : Prop :=
  (k1 ((ok == (0 : Int)) && ((or == (0 : Int)) && ((ob == (0 : Int)) && ((ox == (0 : Int)) && ((os == (0 : Int)) && ((op == false) && ((of == false) && ((on == (0 : Int)) && ((ow == ([] : List Int)) && ((om == (0 : Int)) && true)))))))))))
theorem F72_ok  (ok or ob ox os : Int) (op of : Bool) (on : Int) (ow : List Int) (om : Int) (K : V → Mem → Prop) : cbody Tryd.prog C1 (fun _ => none) 1000 (fnOf Tryd.prog 72) [(.agg [(.I .i64 ok), (.I .i64 or), (.I .i64 ob), (.I .i64 ox), (.I .i64 os), (.B op), (.B of), (.I .i64 on), (.S ow), (.I .i64 om)])] [] K =
    F72  ok or ob ox os op of on ow om (fun (u0 : Bool) => K (.B u0) []) := by kernel_rfl
def G72 := F72 
set_option maxHeartbeats 4000000 in
theorem h72 (ok or ob ox os : Int) (op of : Bool) (on : Int) (ow : List Int) (om : Int)  (k : Bool → Prop) (h : k (noneB ok or ob ox os op of on ow om)) : G72 ok or ob ox os op of on ow om (fun (u0 : Bool) => k u0) := by
  unfold G72 F72
  (repeat' refine cond_ind (fun _ => ?_) (fun _ => ?_)) <;> refine Eq.mp (congrArg k ?_) h <;> rw [Bool.eq_iff_iff] <;> simp_all [noneB] <;> grind
theorem H72 (ok or ob ox os : Int) (op of : Bool) (on : Int) (ow : List Int) (om : Int) {E : Wh} {w' : World} {cargs : Array Value} {K : V → Mem → Prop} (hS : Sim E [] w') (ha : VsRel E [(.agg [(.I .i64 ok), (.I .i64 or), (.I .i64 ob), (.I .i64 ox), (.I .i64 os), (.B op), (.B of), (.I .i64 on), (.S ow), (.I .i64 om)])] cargs.toList) (h : K (.B (noneB ok or ob ox os op of on ow om)) []) :
    ((∃ fn, Tryd.prog.funcs[72]? = some fn ∧ fn.body.isSome = true) ∧ Calls Tryd.prog 72 cargs w' (Ret K E [] w')) ∨ ∃ cv w1, (callFunc 72 cargs).run Tryd.prog w' = .ok (.value cv) w1 ∧ Ret K E [] w' (.returned cv) w1 :=
  cbody_use named C1_ok at72 (l := 0) rfl (LoopsOk.none _ _) (F72_ok  ok or ob ox os op of on ow om K) hS ha (h72 ok or ob ox os op of on ow om  (fun u => K (.B u) []) h)

def P72 : Prim := fun args m K =>
  let F := False
  (seeCons args F fun a1 q2 => (seeAgg a1 F fun vs3 => (seeCons vs3 F fun a4 q5 => (seeI .i64 a4 F fun ok => (seeCons q5 F fun a6 q7 => (seeI .i64 a6 F fun or => (seeCons q7 F fun a8 q9 => (seeI .i64 a8 F fun ob => (seeCons q9 F fun a10 q11 => (seeI .i64 a10 F fun ox => (seeCons q11 F fun a12 q13 => (seeI .i64 a12 F fun os => (seeCons q13 F fun a14 q15 => (seeB a14 F fun op => (seeCons q15 F fun a16 q17 => (seeB a16 F fun of => (seeCons q17 F fun a18 q19 => (seeI .i64 a18 F fun on => (seeCons q19 F fun a20 q21 => (seeS a20 F fun ow => (seeCons q21 F fun a22 q23 => (seeI .i64 a22 F fun om => (seeNil q23 F (seeNil q2 F (seeNil m F (K (.B (noneB ok or ob ox os op of on ow om)) []))))))))))))))))))))))))))
set_option maxRecDepth 100000 in
theorem P72_ok : PrimOk Tryd.prog 72 P72 := by
  intro args m K E w cargs hS ha h
  unfold P72 at h
  dsimp only at h
  replace h := seeCons_use h
  rcases h with h | ⟨a1, q2, rfl, h⟩
  · exact h.elim
  replace h := seeAgg_use h
  rcases h with h | ⟨vs3, rfl, h⟩
  · exact h.elim
  replace h := seeCons_use h
  rcases h with h | ⟨a4, q5, rfl, h⟩
  · exact h.elim
  replace h := seeI_use h
  rcases h with h | ⟨ok, rfl, h⟩
  · exact h.elim
  replace h := seeCons_use h
  rcases h with h | ⟨a6, q7, rfl, h⟩
  · exact h.elim
  replace h := seeI_use h
  rcases h with h | ⟨or, rfl, h⟩
  · exact h.elim
  replace h := seeCons_use h
  rcases h with h | ⟨a8, q9, rfl, h⟩
  · exact h.elim
  replace h := seeI_use h
  rcases h with h | ⟨ob, rfl, h⟩
  · exact h.elim
  replace h := seeCons_use h
  rcases h with h | ⟨a10, q11, rfl, h⟩
  · exact h.elim
  replace h := seeI_use h
  rcases h with h | ⟨ox, rfl, h⟩
  · exact h.elim
  replace h := seeCons_use h
  rcases h with h | ⟨a12, q13, rfl, h⟩
  · exact h.elim
  replace h := seeI_use h
  rcases h with h | ⟨os, rfl, h⟩
  · exact h.elim
  replace h := seeCons_use h
  rcases h with h | ⟨a14, q15, rfl, h⟩
  · exact h.elim
  replace h := seeB_use h
  rcases h with h | ⟨op, rfl, h⟩
  · exact h.elim
  replace h := seeCons_use h
  rcases h with h | ⟨a16, q17, rfl, h⟩
  · exact h.elim
  replace h := seeB_use h
  rcases h with h | ⟨of, rfl, h⟩
  · exact h.elim
  replace h := seeCons_use h
  rcases h with h | ⟨a18, q19, rfl, h⟩
  · exact h.elim
  replace h := seeI_use h
  rcases h with h | ⟨on, rfl, h⟩
  · exact h.elim
  replace h := seeCons_use h
  rcases h with h | ⟨a20, q21, rfl, h⟩
  · exact h.elim
  replace h := seeS_use h
  rcases h with h | ⟨ow, rfl, h⟩
  · exact h.elim
  replace h := seeCons_use h
  rcases h with h | ⟨a22, q23, rfl, h⟩
  · exact h.elim
  replace h := seeI_use h
  rcases h with h | ⟨om, rfl, h⟩
  · exact h.elim
  replace h := seeNil_use h
  rcases h with h | ⟨rfl, h⟩
  · exact h.elim
  replace h := seeNil_use h
  rcases h with h | ⟨rfl, h⟩
  · exact h.elim
  replace h := seeNil_use h
  rcases h with h | ⟨rfl, h⟩
  · exact h.elim
  exact H72 ok or ob ox os op of on ow om hS ha h
theorem at82 : Tryd.prog.funcs[82]? = some (fnOf Tryd.prog 82) := by kernel_rfl
def F82  (ok or ob ox os : Int) (op of : Bool) (on : Int) (ow : List Int) (om : Int) (k1 : Prop) (k2 : Bool → Prop) : Prop :=
  (bif (!((ok == (4 : Int)) && ((or == (0 : Int)) && ((ob == (0 : Int)) && ((ox == (0 : Int)) && ((os == (0 : Int)) && ((op == false) && ((of == false) && ((on == on) && ((ow == ow) && ((om == om) && true))))))))))) then k1 else (bif (ow == ([] : List Int)) then (bif (om == (0 : Int)) then (bif (decide (on ≥ (-2147483648 : Int))) then (k2 (decide (on < (2147483648 : Int)))) else k1) else k1) else (bif (on == (0 : Int)) then (bif (ow == ([] : List Int)) then (k2 (om == (0 : Int))) else (bif (om == (0 : Int)) then (k2 (nameB ow)) else (bif (om == (1 : Int)) then (k2 (nameB ow)) else k1))) else k1)))
theorem F82_ok  (ok or ob ox os : Int) (op of : Bool) (on : Int) (ow : List Int) (om : Int) (K : V → Mem → Prop) : cbody Tryd.prog C1 (fun _ => none) 1000 (fnOf Tryd.prog 82) [(.agg [(.I .i64 ok), (.I .i64 or), (.I .i64 ob), (.I .i64 ox), (.I .i64 os), (.B op), (.B of), (.I .i64 on), (.S ow), (.I .i64 om)])] [] K =
    F82  ok or ob ox os op of on ow om (K (.B false) []) (fun (u0 : Bool) => K (.B u0) []) := by kernel_rfl
def G82 := F82 
set_option maxHeartbeats 4000000 in
theorem h82 (ok or ob ox os : Int) (op of : Bool) (on : Int) (ow : List Int) (om : Int)  (k : Bool → Prop) (h : k (tgtB ok or ob ox os op of on ow om)) : G82 ok or ob ox os op of on ow om (k false) (fun (u0 : Bool) => k u0) := by
  unfold G82 F82
  (repeat' refine cond_ind (fun _ => ?_) (fun _ => ?_)) <;> refine Eq.mp (congrArg k ?_) h <;> rw [Bool.eq_iff_iff] <;> simp_all [tgtB, wideB] <;> grind
theorem H82 (ok or ob ox os : Int) (op of : Bool) (on : Int) (ow : List Int) (om : Int) {E : Wh} {w' : World} {cargs : Array Value} {K : V → Mem → Prop} (hS : Sim E [] w') (ha : VsRel E [(.agg [(.I .i64 ok), (.I .i64 or), (.I .i64 ob), (.I .i64 ox), (.I .i64 os), (.B op), (.B of), (.I .i64 on), (.S ow), (.I .i64 om)])] cargs.toList) (h : K (.B (tgtB ok or ob ox os op of on ow om)) []) :
    ((∃ fn, Tryd.prog.funcs[82]? = some fn ∧ fn.body.isSome = true) ∧ Calls Tryd.prog 82 cargs w' (Ret K E [] w')) ∨ ∃ cv w1, (callFunc 82 cargs).run Tryd.prog w' = .ok (.value cv) w1 ∧ Ret K E [] w' (.returned cv) w1 :=
  cbody_use named C1_ok at82 (l := 0) rfl (LoopsOk.none _ _) (F82_ok  ok or ob ox os op of on ow om K) hS ha (h82 ok or ob ox os op of on ow om  (fun u => K (.B u) []) h)

def P82 : Prim := fun args m K =>
  let F := False
  (seeCons args F fun a1 q2 => (seeAgg a1 F fun vs3 => (seeCons vs3 F fun a4 q5 => (seeI .i64 a4 F fun ok => (seeCons q5 F fun a6 q7 => (seeI .i64 a6 F fun or => (seeCons q7 F fun a8 q9 => (seeI .i64 a8 F fun ob => (seeCons q9 F fun a10 q11 => (seeI .i64 a10 F fun ox => (seeCons q11 F fun a12 q13 => (seeI .i64 a12 F fun os => (seeCons q13 F fun a14 q15 => (seeB a14 F fun op => (seeCons q15 F fun a16 q17 => (seeB a16 F fun of => (seeCons q17 F fun a18 q19 => (seeI .i64 a18 F fun on => (seeCons q19 F fun a20 q21 => (seeS a20 F fun ow => (seeCons q21 F fun a22 q23 => (seeI .i64 a22 F fun om => (seeNil q23 F (seeNil q2 F (seeNil m F (K (.B (tgtB ok or ob ox os op of on ow om)) []))))))))))))))))))))))))))
set_option maxRecDepth 100000 in
theorem P82_ok : PrimOk Tryd.prog 82 P82 := by
  intro args m K E w cargs hS ha h
  unfold P82 at h
  dsimp only at h
  replace h := seeCons_use h
  rcases h with h | ⟨a1, q2, rfl, h⟩
  · exact h.elim
  replace h := seeAgg_use h
  rcases h with h | ⟨vs3, rfl, h⟩
  · exact h.elim
  replace h := seeCons_use h
  rcases h with h | ⟨a4, q5, rfl, h⟩
  · exact h.elim
  replace h := seeI_use h
  rcases h with h | ⟨ok, rfl, h⟩
  · exact h.elim
  replace h := seeCons_use h
  rcases h with h | ⟨a6, q7, rfl, h⟩
  · exact h.elim
  replace h := seeI_use h
  rcases h with h | ⟨or, rfl, h⟩
  · exact h.elim
  replace h := seeCons_use h
  rcases h with h | ⟨a8, q9, rfl, h⟩
  · exact h.elim
  replace h := seeI_use h
  rcases h with h | ⟨ob, rfl, h⟩
  · exact h.elim
  replace h := seeCons_use h
  rcases h with h | ⟨a10, q11, rfl, h⟩
  · exact h.elim
  replace h := seeI_use h
  rcases h with h | ⟨ox, rfl, h⟩
  · exact h.elim
  replace h := seeCons_use h
  rcases h with h | ⟨a12, q13, rfl, h⟩
  · exact h.elim
  replace h := seeI_use h
  rcases h with h | ⟨os, rfl, h⟩
  · exact h.elim
  replace h := seeCons_use h
  rcases h with h | ⟨a14, q15, rfl, h⟩
  · exact h.elim
  replace h := seeB_use h
  rcases h with h | ⟨op, rfl, h⟩
  · exact h.elim
  replace h := seeCons_use h
  rcases h with h | ⟨a16, q17, rfl, h⟩
  · exact h.elim
  replace h := seeB_use h
  rcases h with h | ⟨of, rfl, h⟩
  · exact h.elim
  replace h := seeCons_use h
  rcases h with h | ⟨a18, q19, rfl, h⟩
  · exact h.elim
  replace h := seeI_use h
  rcases h with h | ⟨on, rfl, h⟩
  · exact h.elim
  replace h := seeCons_use h
  rcases h with h | ⟨a20, q21, rfl, h⟩
  · exact h.elim
  replace h := seeS_use h
  rcases h with h | ⟨ow, rfl, h⟩
  · exact h.elim
  replace h := seeCons_use h
  rcases h with h | ⟨a22, q23, rfl, h⟩
  · exact h.elim
  replace h := seeI_use h
  rcases h with h | ⟨om, rfl, h⟩
  · exact h.elim
  replace h := seeNil_use h
  rcases h with h | ⟨rfl, h⟩
  · exact h.elim
  replace h := seeNil_use h
  rcases h with h | ⟨rfl, h⟩
  · exact h.elim
  replace h := seeNil_use h
  rcases h with h | ⟨rfl, h⟩
  · exact h.elim
  exact H82 ok or ob ox os op of on ow om hS ha h
theorem at85 : Tryd.prog.funcs[85]? = some (fnOf Tryd.prog 85) := by kernel_rfl
def F85  (ok or ob ox os : Int) (op of : Bool) (on : Int) (ow : List Int) (om : Int) (k1 : Bool → Prop) (k2 : Prop) : Prop :=
  (bif (ow == ([] : List Int)) then (bif (decide (on ≥ (-2147483648 : Int))) then (bif (decide (on < (2147483648 : Int))) then (k1 ((ok == (4 : Int)) && ((or == (0 : Int)) && ((ob == (0 : Int)) && ((ox == (0 : Int)) && ((os == (0 : Int)) && ((op == false) && ((of == false) && ((on == on) && ((ow == ([] : List Int)) && ((om == (0 : Int)) && true))))))))))) else k2) else k2) else (bif (nameB ow) then (bif (om == (0 : Int)) then (k1 ((ok == (4 : Int)) && ((or == (0 : Int)) && ((ob == (0 : Int)) && ((ox == (0 : Int)) && ((os == (0 : Int)) && ((op == false) && ((of == false) && ((on == (0 : Int)) && ((ow == ow) && ((om == om) && true))))))))))) else (bif (om == (1 : Int)) then (k1 ((ok == (4 : Int)) && ((or == (0 : Int)) && ((ob == (0 : Int)) && ((ox == (0 : Int)) && ((os == (0 : Int)) && ((op == false) && ((of == false) && ((on == (0 : Int)) && ((ow == ow) && ((om == om) && true))))))))))) else k2)) else k2))
theorem F85_ok  (ok or ob ox os : Int) (op of : Bool) (on : Int) (ow : List Int) (om : Int) (K : V → Mem → Prop) : cbody Tryd.prog C1 (fun _ => none) 1000 (fnOf Tryd.prog 85) [(.agg [(.I .i64 ok), (.I .i64 or), (.I .i64 ob), (.I .i64 ox), (.I .i64 os), (.B op), (.B of), (.I .i64 on), (.S ow), (.I .i64 om)])] [] K =
    F85  ok or ob ox os op of on ow om (fun (u0 : Bool) => K (.B u0) []) (K (.B false) []) := by kernel_rfl
def G85 := F85 
set_option maxHeartbeats 4000000 in
theorem h85 (ok or ob ox os : Int) (op of : Bool) (on : Int) (ow : List Int) (om : Int)  (k : Bool → Prop) (h : k (tgtB ok or ob ox os op of on ow om)) : G85 ok or ob ox os op of on ow om (fun (u0 : Bool) => k u0) (k false) := by
  unfold G85 F85
  (repeat' refine cond_ind (fun _ => ?_) (fun _ => ?_)) <;> refine Eq.mp (congrArg k ?_) h <;> rw [Bool.eq_iff_iff] <;> simp_all [tgtB, wideB] <;> grind
theorem H85 (ok or ob ox os : Int) (op of : Bool) (on : Int) (ow : List Int) (om : Int) {E : Wh} {w' : World} {cargs : Array Value} {K : V → Mem → Prop} (hS : Sim E [] w') (ha : VsRel E [(.agg [(.I .i64 ok), (.I .i64 or), (.I .i64 ob), (.I .i64 ox), (.I .i64 os), (.B op), (.B of), (.I .i64 on), (.S ow), (.I .i64 om)])] cargs.toList) (h : K (.B (tgtB ok or ob ox os op of on ow om)) []) :
    ((∃ fn, Tryd.prog.funcs[85]? = some fn ∧ fn.body.isSome = true) ∧ Calls Tryd.prog 85 cargs w' (Ret K E [] w')) ∨ ∃ cv w1, (callFunc 85 cargs).run Tryd.prog w' = .ok (.value cv) w1 ∧ Ret K E [] w' (.returned cv) w1 :=
  cbody_use named C1_ok at85 (l := 0) rfl (LoopsOk.none _ _) (F85_ok  ok or ob ox os op of on ow om K) hS ha (h85 ok or ob ox os op of on ow om  (fun u => K (.B u) []) h)

def P85 : Prim := fun args m K =>
  let F := False
  (seeCons args F fun a1 q2 => (seeAgg a1 F fun vs3 => (seeCons vs3 F fun a4 q5 => (seeI .i64 a4 F fun ok => (seeCons q5 F fun a6 q7 => (seeI .i64 a6 F fun or => (seeCons q7 F fun a8 q9 => (seeI .i64 a8 F fun ob => (seeCons q9 F fun a10 q11 => (seeI .i64 a10 F fun ox => (seeCons q11 F fun a12 q13 => (seeI .i64 a12 F fun os => (seeCons q13 F fun a14 q15 => (seeB a14 F fun op => (seeCons q15 F fun a16 q17 => (seeB a16 F fun of => (seeCons q17 F fun a18 q19 => (seeI .i64 a18 F fun on => (seeCons q19 F fun a20 q21 => (seeS a20 F fun ow => (seeCons q21 F fun a22 q23 => (seeI .i64 a22 F fun om => (seeNil q23 F (seeNil q2 F (seeNil m F (K (.B (tgtB ok or ob ox os op of on ow om)) []))))))))))))))))))))))))))
set_option maxRecDepth 100000 in
theorem P85_ok : PrimOk Tryd.prog 85 P85 := by
  intro args m K E w cargs hS ha h
  unfold P85 at h
  dsimp only at h
  replace h := seeCons_use h
  rcases h with h | ⟨a1, q2, rfl, h⟩
  · exact h.elim
  replace h := seeAgg_use h
  rcases h with h | ⟨vs3, rfl, h⟩
  · exact h.elim
  replace h := seeCons_use h
  rcases h with h | ⟨a4, q5, rfl, h⟩
  · exact h.elim
  replace h := seeI_use h
  rcases h with h | ⟨ok, rfl, h⟩
  · exact h.elim
  replace h := seeCons_use h
  rcases h with h | ⟨a6, q7, rfl, h⟩
  · exact h.elim
  replace h := seeI_use h
  rcases h with h | ⟨or, rfl, h⟩
  · exact h.elim
  replace h := seeCons_use h
  rcases h with h | ⟨a8, q9, rfl, h⟩
  · exact h.elim
  replace h := seeI_use h
  rcases h with h | ⟨ob, rfl, h⟩
  · exact h.elim
  replace h := seeCons_use h
  rcases h with h | ⟨a10, q11, rfl, h⟩
  · exact h.elim
  replace h := seeI_use h
  rcases h with h | ⟨ox, rfl, h⟩
  · exact h.elim
  replace h := seeCons_use h
  rcases h with h | ⟨a12, q13, rfl, h⟩
  · exact h.elim
  replace h := seeI_use h
  rcases h with h | ⟨os, rfl, h⟩
  · exact h.elim
  replace h := seeCons_use h
  rcases h with h | ⟨a14, q15, rfl, h⟩
  · exact h.elim
  replace h := seeB_use h
  rcases h with h | ⟨op, rfl, h⟩
  · exact h.elim
  replace h := seeCons_use h
  rcases h with h | ⟨a16, q17, rfl, h⟩
  · exact h.elim
  replace h := seeB_use h
  rcases h with h | ⟨of, rfl, h⟩
  · exact h.elim
  replace h := seeCons_use h
  rcases h with h | ⟨a18, q19, rfl, h⟩
  · exact h.elim
  replace h := seeI_use h
  rcases h with h | ⟨on, rfl, h⟩
  · exact h.elim
  replace h := seeCons_use h
  rcases h with h | ⟨a20, q21, rfl, h⟩
  · exact h.elim
  replace h := seeS_use h
  rcases h with h | ⟨ow, rfl, h⟩
  · exact h.elim
  replace h := seeCons_use h
  rcases h with h | ⟨a22, q23, rfl, h⟩
  · exact h.elim
  replace h := seeI_use h
  rcases h with h | ⟨om, rfl, h⟩
  · exact h.elim
  replace h := seeNil_use h
  rcases h with h | ⟨rfl, h⟩
  · exact h.elim
  replace h := seeNil_use h
  rcases h with h | ⟨rfl, h⟩
  · exact h.elim
  replace h := seeNil_use h
  rcases h with h | ⟨rfl, h⟩
  · exact h.elim
  exact H85 ok or ob ox os op of on ow om hS ha h
end Go.Proofs.YtaajhdkngiemlaaDoor.frm
