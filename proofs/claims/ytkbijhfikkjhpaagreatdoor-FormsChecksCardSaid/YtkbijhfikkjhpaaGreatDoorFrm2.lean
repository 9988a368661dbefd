import Derived.Test.YtkbijhfikkjhpaaGreatDoorFrm1
set_option linter.unusedVariables false
set_option linter.unusedSimpArgs false
set_option maxHeartbeats 4000000
set_option maxRecDepth 100000
namespace Go.Proofs.YtkbijhfikkjhpaaGreatDoor.frm
open Go Go.Ab
theorem at46 : Tryz.prog.funcs[46]? = some (fnOf Tryz.prog 46) := by kernel_rfl
def F46  (ok or ob ox os : Int) (op of : Bool) (on : Int) (ow : List Int) (om : Int) (k1 : Bool → Prop) (k2 : Prop) : Prop :=
  (bif ((ok == 1) && ((or == or) && ((ob == 0) && ((ox == 0) && ((os == 0) && ((op == false) && ((of == false) && ((on == 0) && ((ow == ([] : List Int)) && ((om == 0) && true)))))))))) then (bif (decide (or ≥ 0)) then (k1 (decide (or ≤ 15))) else k2) else k2)
theorem F46_ok  (ok or ob ox os : Int) (op of : Bool) (on : Int) (ow : List Int) (om : Int) (K : V → Mem → Prop) : cbody Tryz.prog C1 (fun _ => none) 1000 (fnOf Tryz.prog 46) [(.agg [(.I .i64 ok), (.I .i64 or), (.I .i64 ob), (.I .i64 ox), (.I .i64 os), (.B op), (.B of), (.I .i64 on), (.S ow), (.I .i64 om)])] [] K =
    F46  ok or ob ox os op of on ow om (fun (u0 : Bool) => K (.B u0) []) (K (.B false) []) := by kernel_rfl
def G46 := F46 
set_option maxHeartbeats 4000000 in
theorem h46 (ok or ob ox os : Int) (op of : Bool) (on : Int) (ow : List Int) (om : Int)  (k : Bool → Prop) (h : k (regB ok or ob ox os op of on ow om)) : G46 ok or ob ox os op of on ow om (fun (u0 : Bool) => k u0) (k false) := by
  unfold G46 F46
  (repeat' refine cond_ind (fun _ => ?_) (fun _ => ?_)) <;> refine Eq.mp (congrArg k ?_) h <;> rw [Bool.eq_iff_iff] <;> simp_all [regB] <;> grind
theorem H46 (ok or ob ox os : Int) (op of : Bool) (on : Int) (ow : List Int) (om : Int) {E : Wh} {w' : World} {cargs : Array Value} {K : V → Mem → Prop} (hS : Sim E [] w') (ha : VsRel E [(.agg [(.I .i64 ok), (.I .i64 or), (.I .i64 ob), (.I .i64 ox), (.I .i64 os), (.B op), (.B of), (.I .i64 on), (.S ow), (.I .i64 om)])] cargs.toList) (h : K (.B (regB ok or ob ox os op of on ow om)) []) :
    ((∃ fn, Tryz.prog.funcs[46]? = some fn ∧ fn.body.isSome = true) ∧ Calls Tryz.prog 46 cargs w' (Ret K E [] w')) ∨ ∃ cv w1, (callFunc 46 cargs).run Tryz.prog w' = .ok (.value cv) w1 ∧ Ret K E [] w' (.returned cv) w1 :=
  cbody_use named C1_ok at46 (l := 0) rfl (LoopsOk.none _ _) (F46_ok  ok or ob ox os op of on ow om K) hS ha (h46 ok or ob ox os op of on ow om  (fun u => K (.B u) []) h)

def P46 : Prim := fun args m K =>
  let F := False
  (seeCons args F fun a1 q2 => (seeAgg a1 F fun vs3 => (seeCons vs3 F fun a4 q5 => (seeI .i64 a4 F fun ok => (seeCons q5 F fun a6 q7 => (seeI .i64 a6 F fun or => (seeCons q7 F fun a8 q9 => (seeI .i64 a8 F fun ob => (seeCons q9 F fun a10 q11 => (seeI .i64 a10 F fun ox => (seeCons q11 F fun a12 q13 => (seeI .i64 a12 F fun os => (seeCons q13 F fun a14 q15 => (seeB a14 F fun op => (seeCons q15 F fun a16 q17 => (seeB a16 F fun of => (seeCons q17 F fun a18 q19 => (seeI .i64 a18 F fun on => (seeCons q19 F fun a20 q21 => (seeS a20 F fun ow => (seeCons q21 F fun a22 q23 => (seeI .i64 a22 F fun om => (seeNil q23 F (seeNil q2 F (seeNil m F (K (.B (regB ok or ob ox os op of on ow om)) []))))))))))))))))))))))))))
set_option maxRecDepth 100000 in
theorem P46_ok : PrimOk Tryz.prog 46 P46 := by
  intro args m K E w cargs hS ha h
  unfold P46 at h
  dsimp only at h
  replace h := seeCons_use h
  rcases h with h | ⟨a1, q2, rfl, h⟩
  · exact h.elim
  replace h := seeAgg_use h
  rcases h with h | ⟨vs3, rfl, h⟩
  · exact h.elim
  replace h := seeCons_use h
  rcases h with h | ⟨a4, q5, rfl, h⟩
  · exact h.elim
  replace h := seeI_use h
  rcases h with h | ⟨ok, rfl, h⟩
  · exact h.elim
  replace h := seeCons_use h
  rcases h with h | ⟨a6, q7, rfl, h⟩
  · exact h.elim
  replace h := seeI_use h
  rcases h with h | ⟨or, rfl, h⟩
  · exact h.elim
  replace h := seeCons_use h
  rcases h with h | ⟨a8, q9, rfl, h⟩
  · exact h.elim
  replace h := seeI_use h
  rcases h with h | ⟨ob, rfl, h⟩
  · exact h.elim
  replace h := seeCons_use h
  rcases h with h | ⟨a10, q11, rfl, h⟩
  · exact h.elim
  replace h := seeI_use h
  rcases h with h | ⟨ox, rfl, h⟩
  · exact h.elim
  replace h := seeCons_use h
  rcases h with h | ⟨a12, q13, rfl, h⟩
  · exact h.elim
  replace h := seeI_use h
  rcases h with h | ⟨os, rfl, h⟩
  · exact h.elim
  replace h := seeCons_use h
  rcases h with h | ⟨a14, q15, rfl, h⟩
  · exact h.elim
  replace h := seeB_use h
  rcases h with h | ⟨op, rfl, h⟩
  · exact h.elim
  replace h := seeCons_use h
  rcases h with h | ⟨a16, q17, rfl, h⟩
  · exact h.elim
  replace h := seeB_use h
  rcases h with h | ⟨of, rfl, h⟩
  · exact h.elim
  replace h := seeCons_use h
  rcases h with h | ⟨a18, q19, rfl, h⟩
  · exact h.elim
  replace h := seeI_use h
  rcases h with h | ⟨on, rfl, h⟩
  · exact h.elim
  replace h := seeCons_use h
  rcases h with h | ⟨a20, q21, rfl, h⟩
  · exact h.elim
  replace h := seeS_use h
  rcases h with h | ⟨ow, rfl, h⟩
  · exact h.elim
  replace h := seeCons_use h
  rcases h with h | ⟨a22, q23, rfl, h⟩
  · exact h.elim
  replace h := seeI_use h
  rcases h with h | ⟨om, rfl, h⟩
  · exact h.elim
  replace h := seeNil_use h
  rcases h with h | ⟨rfl, h⟩
  · exact h.elim
  replace h := seeNil_use h
  rcases h with h | ⟨rfl, h⟩
  · exact h.elim
  replace h := seeNil_use h
  rcases h with h | ⟨rfl, h⟩
  · exact h.elim
  exact H46 ok or ob ox os op of on ow om hS ha h
theorem at62 : Tryz.prog.funcs[62]? = some (fnOf Tryz.prog 62) := by kernel_rfl
def F62  (ok or ob ox os : Int) (op of : Bool) (on : Int) (ow : List Int) (om : Int) (k1 : Bool → Prop) (k2 : Prop) : Prop :=
  (bif (decide (or ≥ 0)) then (bif (decide (or < 16)) then (k1 ((ok == 1) && ((or == or) && ((ob == 0) && ((ox == 0) && ((os == 0) && ((op == false) && ((of == false) && ((on == 0) && ((ow == ([] : List Int)) && ((om == 0) && true))))))))))) else k2) else k2)
theorem F62_ok  (ok or ob ox os : Int) (op of : Bool) (on : Int) (ow : List Int) (om : Int) (K : V → Mem → Prop) : cbody Tryz.prog C1 (fun _ => none) 1000 (fnOf Tryz.prog 62) [(.agg [(.I .i64 ok), (.I .i64 or), (.I .i64 ob), (.I .i64 ox), (.I .i64 os), (.B op), (.B of), (.I .i64 on), (.S ow), (.I .i64 om)])] [] K =
    F62  ok or ob ox os op of on ow om (fun (u0 : Bool) => K (.B u0) []) (K (.B false) []) := by kernel_rfl
def G62 := F62 
set_option maxHeartbeats 4000000 in
theorem h62 (ok or ob ox os : Int) (op of : Bool) (on : Int) (ow : List Int) (om : Int)  (k : Bool → Prop) (h : k (regB ok or ob ox os op of on ow om)) : G62 ok or ob ox os op of on ow om (fun (u0 : Bool) => k u0) (k false) := by
  unfold G62 F62
  (repeat' refine cond_ind (fun _ => ?_) (fun _ => ?_)) <;> refine Eq.mp (congrArg k ?_) h <;> rw [Bool.eq_iff_iff] <;> simp_all [regB] <;> grind
theorem H62 (ok or ob ox os : Int) (op of : Bool) (on : Int) (ow : List Int) (om : Int) {E : Wh} {w' : World} {cargs : Array Value} {K : V → Mem → Prop} (hS : Sim E [] w') (ha : VsRel E [(.agg [(.I .i64 ok), (.I .i64 or), (.I .i64 ob), (.I .i64 ox), (.I .i64 os), (.B op), (.B of), (.I .i64 on), (.S ow), (.I .i64 om)])] cargs.toList) (h : K (.B (regB ok or ob ox os op of on ow om)) []) :
    ((∃ fn, Tryz.prog.funcs[62]? = some fn ∧ fn.body.isSome = true) ∧ Calls Tryz.prog 62 cargs w' (Ret K E [] w')) ∨ ∃ cv w1, (callFunc 62 cargs).run Tryz.prog w' = .ok (.value cv) w1 ∧ Ret K E [] w' (.returned cv) w1 :=
  cbody_use named C1_ok at62 (l := 0) rfl (LoopsOk.none _ _) (F62_ok  ok or ob ox os op of on ow om K) hS ha (h62 ok or ob ox os op of on ow om  (fun u => K (.B u) []) h)

def P62 : Prim := fun args m K =>
  let F := False
  (seeCons args F fun a1 q2 => (seeAgg a1 F fun vs3 => (seeCons vs3 F fun a4 q5 => (seeI .i64 a4 F fun ok => (seeCons q5 F fun a6 q7 => (seeI .i64 a6 F fun or => (seeCons q7 F fun a8 q9 => (seeI .i64 a8 F fun ob => (seeCons q9 F fun a10 q11 => (seeI .i64 a10 F fun ox => (seeCons q11 F fun a12 q13 => (seeI .i64 a12 F fun os => (seeCons q13 F fun a14 q15 => (seeB a14 F fun op => (seeCons q15 F fun a16 q17 => (seeB a16 F fun of => (seeCons q17 F fun a18 q19 => (seeI .i64 a18 F fun on => (seeCons q19 F fun a20 q21 => (seeS a20 F fun ow => (seeCons q21 F fun a22 q23 => (seeI .i64 a22 F fun om => (seeNil q23 F (seeNil q2 F (seeNil m F (K (.B (regB ok or ob ox os op of on ow om)) []))))))))))))))))))))))))))
set_option maxRecDepth 100000 in
theorem P62_ok : PrimOk Tryz.prog 62 P62 := by
  intro args m K E w cargs hS ha h
  unfold P62 at h
  dsimp only at h
  replace h := seeCons_use h
  rcases h with h | ⟨a1, q2, rfl, h⟩
  · exact h.elim
  replace h := seeAgg_use h
  rcases h with h | ⟨vs3, rfl, h⟩
  · exact h.elim
  replace h := seeCons_use h
  rcases h with h | ⟨a4, q5, rfl, h⟩
  · exact h.elim
  replace h := seeI_use h
  rcases h with h | ⟨ok, rfl, h⟩
  · exact h.elim
  replace h := seeCons_use h
  rcases h with h | ⟨a6, q7, rfl, h⟩
  · exact h.elim
  replace h := seeI_use h
  rcases h with h | ⟨or, rfl, h⟩
  · exact h.elim
  replace h := seeCons_use h
  rcases h with h | ⟨a8, q9, rfl, h⟩
  · exact h.elim
  replace h := seeI_use h
  rcases h with h | ⟨ob, rfl, h⟩
  · exact h.elim
  replace h := seeCons_use h
  rcases h with h | ⟨a10, q11, rfl, h⟩
  · exact h.elim
  replace h := seeI_use h
  rcases h with h | ⟨ox, rfl, h⟩
  · exact h.elim
  replace h := seeCons_use h
  rcases h with h | ⟨a12, q13, rfl, h⟩
  · exact h.elim
  replace h := seeI_use h
  rcases h with h | ⟨os, rfl, h⟩
  · exact h.elim
  replace h := seeCons_use h
  rcases h with h | ⟨a14, q15, rfl, h⟩
  · exact h.elim
  replace h := seeB_use h
  rcases h with h | ⟨op, rfl, h⟩
  · exact h.elim
  replace h := seeCons_use h
  rcases h with h | ⟨a16, q17, rfl, h⟩
  · exact h.elim
  replace h := seeB_use h
  rcases h with h | ⟨of, rfl, h⟩
  · exact h.elim
  replace h := seeCons_use h
  rcases h with h | ⟨a18, q19, rfl, h⟩
  · exact h.elim
  replace h := seeI_use h
  rcases h with h | ⟨on, rfl, h⟩
  · exact h.elim
  replace h := seeCons_use h
  rcases h with h | ⟨a20, q21, rfl, h⟩
  · exact h.elim
  replace h := seeS_use h
  rcases h with h | ⟨ow, rfl, h⟩
  · exact h.elim
  replace h := seeCons_use h
  rcases h with h | ⟨a22, q23, rfl, h⟩
  · exact h.elim
  replace h := seeI_use h
  rcases h with h | ⟨om, rfl, h⟩
  · exact h.elim
  replace h := seeNil_use h
  rcases h with h | ⟨rfl, h⟩
  · exact h.elim
  replace h := seeNil_use h
  rcases h with h | ⟨rfl, h⟩
  · exact h.elim
  replace h := seeNil_use h
  rcases h with h | ⟨rfl, h⟩
  · exact h.elim
  exact H62 ok or ob ox os op of on ow om hS ha h
theorem at53 : Tryz.prog.funcs[53]? = some (fnOf Tryz.prog 53) := by kernel_rfl
def F53  (ok or ob ox os : Int) (op of : Bool) (on : Int) (ow : List Int) (om : Int) (k1 : Bool → Prop) : Prop :=
  (k1 ((ok == 2) && ((or == 0) && ((ob == 0) && ((ox == 0) && ((os == 0) && ((op == false) && ((of == false) && ((on == on) && ((ow == ([] : List Int)) && ((om == 0) && true)))))))))))
theorem F53_ok  (ok or ob ox os : Int) (op of : Bool) (on : Int) (ow : List Int) (om : Int) (K : V → Mem → Prop) : cbody Tryz.prog C1 (fun _ => none) 1000 (fnOf Tryz.prog 53) [(.agg [(.I .i64 ok), (.I .i64 or), (.I .i64 ob), (.I .i64 ox), (.I .i64 os), (.B op), (.B of), (.I .i64 on), (.S ow), (.I .i64 om)])] [] K =
    F53  ok or ob ox os op of on ow om (fun (u0 : Bool) => K (.B u0) []) := by kernel_rfl
def G53 := F53 
set_option maxHeartbeats 4000000 in
theorem h53 (ok or ob ox os : Int) (op of : Bool) (on : Int) (ow : List Int) (om : Int)  (k : Bool → Prop) (h : k (immB ok or ob ox os op of on ow om)) : G53 ok or ob ox os op of on ow om (fun (u0 : Bool) => k u0) := by
  unfold G53 F53
  (repeat' refine cond_ind (fun _ => ?_) (fun _ => ?_)) <;> refine Eq.mp (congrArg k ?_) h <;> rw [Bool.eq_iff_iff] <;> simp_all [immB] <;> grind
theorem H53 (ok or ob ox os : Int) (op of : Bool) (on : Int) (ow : List Int) (om : Int) {E : Wh} {w' : World} {cargs : Array Value} {K : V → Mem → Prop} (hS : Sim E [] w') (ha : VsRel E [(.agg [(.I .i64 ok), (.I .i64 or), (.I .i64 ob), (.I .i64 ox), (.I .i64 os), (.B op), (.B of), (.I .i64 on), (.S ow), (.I .i64 om)])] cargs.toList) (h : K (.B (immB ok or ob ox os op of on ow om)) []) :
    ((∃ fn, Tryz.prog.funcs[53]? = some fn ∧ fn.body.isSome = true) ∧ Calls Tryz.prog 53 cargs w' (Ret K E [] w')) ∨ ∃ cv w1, (callFunc 53 cargs).run Tryz.prog w' = .ok (.value cv) w1 ∧ Ret K E [] w' (.returned cv) w1 :=
  cbody_use named C1_ok at53 (l := 0) rfl (LoopsOk.none _ _) (F53_ok  ok or ob ox os op of on ow om K) hS ha (h53 ok or ob ox os op of on ow om  (fun u => K (.B u) []) h)

def P53 : Prim := fun args m K =>
  let F := False
  (seeCons args F fun a1 q2 => (seeAgg a1 F fun vs3 => (seeCons vs3 F fun a4 q5 => (seeI .i64 a4 F fun ok => (seeCons q5 F fun a6 q7 => (seeI .i64 a6 F fun or => (seeCons q7 F fun a8 q9 => (seeI .i64 a8 F fun ob => (seeCons q9 F fun a10 q11 => (seeI .i64 a10 F fun ox => (seeCons q11 F fun a12 q13 => (seeI .i64 a12 F fun os => (seeCons q13 F fun a14 q15 => (seeB a14 F fun op => (seeCons q15 F fun a16 q17 => (seeB a16 F fun of => (seeCons q17 F fun a18 q19 => (seeI .i64 a18 F fun on => (seeCons q19 F fun a20 q21 => (seeS a20 F fun ow => (seeCons q21 F fun a22 q23 => (seeI .i64 a22 F fun om => (seeNil q23 F (seeNil q2 F (seeNil m F (K (.B (immB ok or ob ox os op of on ow om)) []))))))))))))))))))))))))))
set_option maxRecDepth 100000 in
theorem P53_ok : PrimOk Tryz.prog 53 P53 := by
  intro args m K E w cargs hS ha h
  unfold P53 at h
  dsimp only at h
  replace h := seeCons_use h
  rcases h with h | ⟨a1, q2, rfl, h⟩
  · exact h.elim
  replace h := seeAgg_use h
  rcases h with h | ⟨vs3, rfl, h⟩
  · exact h.elim
  replace h := seeCons_use h
  rcases h with h | ⟨a4, q5, rfl, h⟩
  · exact h.elim
  replace h := seeI_use h
  rcases h with h | ⟨ok, rfl, h⟩
  · exact h.elim
  replace h := seeCons_use h
  rcases h with h | ⟨a6, q7, rfl, h⟩
  · exact h.elim
  replace h := seeI_use h
  rcases h with h | ⟨or, rfl, h⟩
  · exact h.elim
  replace h := seeCons_use h
  rcases h with h | ⟨a8, q9, rfl, h⟩
  · exact h.elim
  replace h := seeI_use h
  rcases h with h | ⟨ob, rfl, h⟩
  · exact h.elim
  replace h := seeCons_use h
  rcases h with h | ⟨a10, q11, rfl, h⟩
  · exact h.elim
  replace h := seeI_use h
  rcases h with h | ⟨ox, rfl, h⟩
  · exact h.elim
  replace h := seeCons_use h
  rcases h with h | ⟨a12, q13, rfl, h⟩
  · exact h.elim
  replace h := seeI_use h
  rcases h with h | ⟨os, rfl, h⟩
  · exact h.elim
  replace h := seeCons_use h
  rcases h with h | ⟨a14, q15, rfl, h⟩
  · exact h.elim
  replace h := seeB_use h
  rcases h with h | ⟨op, rfl, h⟩
  · exact h.elim
  replace h := seeCons_use h
  rcases h with h | ⟨a16, q17, rfl, h⟩
  · exact h.elim
  replace h := seeB_use h
  rcases h with h | ⟨of, rfl, h⟩
  · exact h.elim
  replace h := seeCons_use h
  rcases h with h | ⟨a18, q19, rfl, h⟩
  · exact h.elim
  replace h := seeI_use h
  rcases h with h | ⟨on, rfl, h⟩
  · exact h.elim
  replace h := seeCons_use h
  rcases h with h | ⟨a20, q21, rfl, h⟩
  · exact h.elim
  replace h := seeS_use h
  rcases h with h | ⟨ow, rfl, h⟩
  · exact h.elim
  replace h := seeCons_use h
  rcases h with h | ⟨a22, q23, rfl, h⟩
  · exact h.elim
  replace h := seeI_use h
  rcases h with h | ⟨om, rfl, h⟩
  · exact h.elim
  replace h := seeNil_use h
  rcases h with h | ⟨rfl, h⟩
  · exact h.elim
  replace h := seeNil_use h
  rcases h with h | ⟨rfl, h⟩
  · exact h.elim
  replace h := seeNil_use h
  rcases h with h | ⟨rfl, h⟩
  · exact h.elim
  exact H53 ok or ob ox os op of on ow om hS ha h
theorem at63 : Tryz.prog.funcs[63]? = some (fnOf Tryz.prog 63) := by kernel_rfl
def F63  (ok or ob ox os : Int) (op of : Bool) (on : Int) (ow : List Int) (om : Int) (k1 : Bool → Prop) : Prop :=
  (k1 ((ok == 2) && ((or == 0) && ((ob == 0) && ((ox == 0) && ((os == 0) && ((op == false) && ((of == false) && ((on == on) && ((ow == ([] : List Int)) && ((om == 0) && true)))))))))))
theorem F63_ok  (ok or ob ox os : Int) (op of : Bool) (on : Int) (ow : List Int) (om : Int) (K : V → Mem → Prop) : cbody Tryz.prog C1 (fun _ => none) 1000 (fnOf Tryz.prog 63) [(.agg [(.I .i64 ok), (.I .i64 or), (.I .i64 ob), (.I .i64 ox), (.I .i64 os), (.B op), (.B of), (.I .i64 on), (.S ow), (.I .i64 om)])] [] K =
    F63  ok or ob ox os op of on ow om (fun (u0 : Bool) => K (.B u0) []) := by kernel_rfl
def G63 := F63 
set_option maxHeartbeats 4000000 in
theorem h63 (ok or ob ox os : Int) (op of : Bool) (on : Int) (ow : List Int) (om : Int)  (k : Bool → Prop) (h : k (immB ok or ob ox os op of on ow om)) : G63 ok or ob ox os op of on ow om (fun (u0 : Bool) => k u0) := by
  unfold G63 F63
  (repeat' refine cond_ind (fun _ => ?_) (fun _ => ?_)) <;> refine Eq.mp (congrArg k ?_) h <;> rw [Bool.eq_iff_iff] <;> simp_all [immB] <;> grind
theorem H63 (ok or ob ox os : Int) (op of : Bool) (on : Int) (ow : List Int) (om : Int) {E : Wh} {w' : World} {cargs : Array Value} {K : V → Mem → Prop} (hS : Sim E [] w') (ha : VsRel E [(.agg [(.I .i64 ok), (.I .i64 or), (.I .i64 ob), (.I .i64 ox), (.I .i64 os), (.B op), (.B of), (.I .i64 on), (.S ow), (.I .i64 om)])] cargs.toList) (h : K (.B (immB ok or ob ox os op of on ow om)) []) :
    ((∃ fn, Tryz.prog.funcs[63]? = some fn ∧ fn.body.isSome = true) ∧ Calls Tryz.prog 63 cargs w' (Ret K E [] w')) ∨ ∃ cv w1, (callFunc 63 cargs).run Tryz.prog w' = .ok (.value cv) w1 ∧ Ret K E [] w' (.returned cv) w1 :=
  cbody_use named C1_ok at63 (l := 0) rfl (LoopsOk.none _ _) (F63_ok  ok or ob ox os op of on ow om K) hS ha (h63 ok or ob ox os op of on ow om  (fun u => K (.B u) []) h)

def P63 : Prim := fun args m K =>
  let F := False
  (seeCons args F fun a1 q2 => (seeAgg a1 F fun vs3 => (seeCons vs3 F fun a4 q5 => (seeI .i64 a4 F fun ok => (seeCons q5 F fun a6 q7 => (seeI .i64 a6 F fun or => (seeCons q7 F fun a8 q9 => (seeI .i64 a8 F fun ob => (seeCons q9 F fun a10 q11 => (seeI .i64 a10 F fun ox => (seeCons q11 F fun a12 q13 => (seeI .i64 a12 F fun os => (seeCons q13 F fun a14 q15 => (seeB a14 F fun op => (seeCons q15 F fun a16 q17 => (seeB a16 F fun of => (seeCons q17 F fun a18 q19 => (seeI .i64 a18 F fun on => (seeCons q19 F fun a20 q21 => (seeS a20 F fun ow => (seeCons q21 F fun a22 q23 => (seeI .i64 a22 F fun om => (seeNil q23 F (seeNil q2 F (seeNil m F (K (.B (immB ok or ob ox os op of on ow om)) []))))))))))))))))))))))))))
set_option maxRecDepth 100000 in
theorem P63_ok : PrimOk Tryz.prog 63 P63 := by
  intro args m K E w cargs hS ha h
  unfold P63 at h
  dsimp only at h
  replace h := seeCons_use h
  rcases h with h | ⟨a1, q2, rfl, h⟩
  · exact h.elim
  replace h := seeAgg_use h
  rcases h with h | ⟨vs3, rfl, h⟩
  · exact h.elim
  replace h := seeCons_use h
  rcases h with h | ⟨a4, q5, rfl, h⟩
  · exact h.elim
  replace h := seeI_use h
  rcases h with h | ⟨ok, rfl, h⟩
  · exact h.elim
  replace h := seeCons_use h
  rcases h with h | ⟨a6, q7, rfl, h⟩
  · exact h.elim
  replace h := seeI_use h
  rcases h with h | ⟨or, rfl, h⟩
  · exact h.elim
  replace h := seeCons_use h
  rcases h with h | ⟨a8, q9, rfl, h⟩
  · exact h.elim
  replace h := seeI_use h
  rcases h with h | ⟨ob, rfl, h⟩
  · exact h.elim
  replace h := seeCons_use h
  rcases h with h | ⟨a10, q11, rfl, h⟩
  · exact h.elim
  replace h := seeI_use h
  rcases h with h | ⟨ox, rfl, h⟩
  · exact h.elim
  replace h := seeCons_use h
  rcases h with h | ⟨a12, q13, rfl, h⟩
  · exact h.elim
  replace h := seeI_use h
  rcases h with h | ⟨os, rfl, h⟩
  · exact h.elim
  replace h := seeCons_use h
  rcases h with h | ⟨a14, q15, rfl, h⟩
  · exact h.elim
  replace h := seeB_use h
  rcases h with h | ⟨op, rfl, h⟩
  · exact h.elim
  replace h := seeCons_use h
  rcases h with h | ⟨a16, q17, rfl, h⟩
  · exact h.elim
  replace h := seeB_use h
  rcases h with h | ⟨of, rfl, h⟩
  · exact h.elim
  replace h := seeCons_use h
  rcases h with h | ⟨a18, q19, rfl, h⟩
  · exact h.elim
  replace h := seeI_use h
  rcases h with h | ⟨on, rfl, h⟩
  · exact h.elim
  replace h := seeCons_use h
  rcases h with h | ⟨a20, q21, rfl, h⟩
  · exact h.elim
  replace h := seeS_use h
  rcases h with h | ⟨ow, rfl, h⟩
  · exact h.elim
  replace h := seeCons_use h
  rcases h with h | ⟨a22, q23, rfl, h⟩
  · exact h.elim
  replace h := seeI_use h
  rcases h with h | ⟨om, rfl, h⟩
  · exact h.elim
  replace h := seeNil_use h
  rcases h with h | ⟨rfl, h⟩
  · exact h.elim
  replace h := seeNil_use h
  rcases h with h | ⟨rfl, h⟩
  · exact h.elim
  replace h := seeNil_use h
  rcases h with h | ⟨rfl, h⟩
  · exact h.elim
  exact H63 ok or ob ox os op of on ow om hS ha h
theorem at11 : Tryz.prog.funcs[11]? = some (fnOf Tryz.prog 11) := by kernel_rfl
def F11  (ok or ob ox os : Int) (op of : Bool) (on : Int) (ow : List Int) (om : Int) (k1 : Bool → Prop) : Prop :=
  (k1 ((ok == 0) && ((or == 0) && ((ob == 0) && ((ox == 0) && ((os == 0) && ((op == false) && ((of == false) && ((on == 0) && ((ow == ([] : List Int)) && ((om == 0) && true)))))))))))
theorem F11_ok  (ok or ob ox os : Int) (op of : Bool) (on : Int) (ow : List Int) (om : Int) (K : V → Mem → Prop) : cbody Tryz.prog C1 (fun _ => none) 1000 (fnOf Tryz.prog 11) [(.agg [(.I .i64 ok), (.I .i64 or), (.I .i64 ob), (.I .i64 ox), (.I .i64 os), (.B op), (.B of), (.I .i64 on), (.S ow), (.I .i64 om)])] [] K =
    F11  ok or ob ox os op of on ow om (fun (u0 : Bool) => K (.B u0) []) := by kernel_rfl
def G11 := F11 
set_option maxHeartbeats 4000000 in
theorem h11 (ok or ob ox os : Int) (op of : Bool) (on : Int) (ow : List Int) (om : Int)  (k : Bool → Prop) (h : k (noneB ok or ob ox os op of on ow om)) : G11 ok or ob ox os op of on ow om (fun (u0 : Bool) => k u0) := by
  unfold G11 F11
  (repeat' refine cond_ind (fun _ => ?_) (fun _ => ?_)) <;> refine Eq.mp (congrArg k ?_) h <;> rw [Bool.eq_iff_iff] <;> simp_all [noneB] <;> grind
theorem H11 (ok or ob ox os : Int) (op of : Bool) (on : Int) (ow : List Int) (om : Int) {E : Wh} {w' : World} {cargs : Array Value} {K : V → Mem → Prop} (hS : Sim E [] w') (ha : VsRel E [(.agg [(.I .i64 ok), (.I .i64 or), (.I .i64 ob), (.I .i64 ox), (.I .i64 os), (.B op), (.B of), (.I .i64 on), (.S ow), (.I .i64 om)])] cargs.toList) (h : K (.B (noneB ok or ob ox os op of on ow om)) []) :
    ((∃ fn, Tryz.prog.funcs[11]? = some fn ∧ fn.body.isSome = true) ∧ Calls Tryz.prog 11 cargs w' (Ret K E [] w')) ∨ ∃ cv w1, (callFunc 11 cargs).run Tryz.prog w' = .ok (.value cv) w1 ∧ Ret K E [] w' (.returned cv) w1 :=
  cbody_use named C1_ok at11 (l := 0) rfl (LoopsOk.none _ _) (F11_ok  ok or ob ox os op of on ow om K) hS ha (h11 ok or ob ox os op of on ow om  (fun u => K (.B u) []) h)

def P11 : Prim := fun args m K =>
  let F := False
  (seeCons args F fun a1 q2 => (seeAgg a1 F fun vs3 => (seeCons vs3 F fun a4 q5 => (seeI .i64 a4 F fun ok => (seeCons q5 F fun a6 q7 => (seeI .i64 a6 F fun or => (seeCons q7 F fun a8 q9 => (seeI .i64 a8 F fun ob => (seeCons q9 F fun a10 q11 => (seeI .i64 a10 F fun ox => (seeCons q11 F fun a12 q13 => (seeI .i64 a12 F fun os => (seeCons q13 F fun a14 q15 => (seeB a14 F fun op => (seeCons q15 F fun a16 q17 => (seeB a16 F fun of => (seeCons q17 F fun a18 q19 => (seeI .i64 a18 F fun on => (seeCons q19 F fun a20 q21 => (seeS a20 F fun ow => (seeCons q21 F fun a22 q23 => (seeI .i64 a22 F fun om => (seeNil q23 F (seeNil q2 F (seeNil m F (K (.B (noneB ok or ob ox os op of on ow om)) []))))))))))))))))))))))))))
set_option maxRecDepth 100000 in
theorem P11_ok : PrimOk Tryz.prog 11 P11 := by
  intro args m K E w cargs hS ha h
  unfold P11 at h
  dsimp only at h
  replace h := seeCons_use h
  rcases h with h | ⟨a1, q2, rfl, h⟩
  · exact h.elim
  replace h := seeAgg_use h
  rcases h with h | ⟨vs3, rfl, h⟩
  · exact h.elim
  replace h := seeCons_use h
  rcases h with h | ⟨a4, q5, rfl, h⟩
  · exact h.elim
  replace h := seeI_use h
  rcases h with h | ⟨ok, rfl, h⟩
  · exact h.elim
  replace h := seeCons_use h
  rcases h with h | ⟨a6, q7, rfl, h⟩
  · exact h.elim
  replace h := seeI_use h
  rcases h with h | ⟨or, rfl, h⟩
  · exact h.elim
  replace h := seeCons_use h
  rcases h with h | ⟨a8, q9, rfl, h⟩
  · exact h.elim
  replace h := seeI_use h
  rcases h with h | ⟨ob, rfl, h⟩
  · exact h.elim
  replace h := seeCons_use h
  rcases h with h | ⟨a10, q11, rfl, h⟩
  · exact h.elim
  replace h := seeI_use h
  rcases h with h | ⟨ox, rfl, h⟩
  · exact h.elim
  replace h := seeCons_use h
  rcases h with h | ⟨a12, q13, rfl, h⟩
  · exact h.elim
  replace h := seeI_use h
  rcases h with h | ⟨os, rfl, h⟩
  · exact h.elim
  replace h := seeCons_use h
  rcases h with h | ⟨a14, q15, rfl, h⟩
  · exact h.elim
  replace h := seeB_use h
  rcases h with h | ⟨op, rfl, h⟩
  · exact h.elim
  replace h := seeCons_use h
  rcases h with h | ⟨a16, q17, rfl, h⟩
  · exact h.elim
  replace h := seeB_use h
  rcases h with h | ⟨of, rfl, h⟩
  · exact h.elim
  replace h := seeCons_use h
  rcases h with h | ⟨a18, q19, rfl, h⟩
  · exact h.elim
  replace h := seeI_use h
  rcases h with h | ⟨on, rfl, h⟩
  · exact h.elim
  replace h := seeCons_use h
  rcases h with h | ⟨a20, q21, rfl, h⟩
  · exact h.elim
  replace h := seeS_use h
  rcases h with h | ⟨ow, rfl, h⟩
  · exact h.elim
  replace h := seeCons_use h
  rcases h with h | ⟨a22, q23, rfl, h⟩
  · exact h.elim
  replace h := seeI_use h
  rcases h with h | ⟨om, rfl, h⟩
  · exact h.elim
  replace h := seeNil_use h
  rcases h with h | ⟨rfl, h⟩
  · exact h.elim
  replace h := seeNil_use h
  rcases h with h | ⟨rfl, h⟩
  · exact h.elim
  replace h := seeNil_use h
  rcases h with h | ⟨rfl, h⟩
  · exact h.elim
  exact H11 ok or ob ox os op of on ow om hS ha h
theorem at15 : Tryz.prog.funcs[15]? = some (fnOf Tryz.prog 15) := by kernel_rfl
def F15  (ok or ob ox os : Int) (op of : Bool) (on : Int) (ow : List Int) (om : Int) (k1 : Bool → Prop) : Prop :=
  (k1 ((ok == 0) && ((or == 0) && ((ob == 0) && ((ox == 0) && ((os == 0) && ((op == false) && ((of == false) && ((on == 0) && ((ow == ([] : List Int)) && ((om == 0) && true)))))))))))
theorem F15_ok  (ok or ob ox os : Int) (op of : Bool) (on : Int) (ow : List Int) (om : Int) (K : V → Mem → Prop) : cbody Tryz.prog C1 (fun _ => none) 1000 (fnOf Tryz.prog 15) [(.agg [(.I .i64 ok), (.I .i64 or), (.I .i64 ob), (.I .i64 ox), (.I .i64 os), (.B op), (.B of), (.I .i64 on), (.S ow), (.I .i64 om)])] [] K =
    F15  ok or ob ox os op of on ow om (fun (u0 : Bool) => K (.B u0) []) := by kernel_rfl
def G15 := F15 
set_option maxHeartbeats 4000000 in
theorem h15 (ok or ob ox os : Int) (op of : Bool) (on : Int) (ow : List Int) (om : Int)  (k : Bool → Prop) (h : k (noneB ok or ob ox os op of on ow om)) : G15 ok or ob ox os op of on ow om (fun (u0 : Bool) => k u0) := by
  unfold G15 F15
  (repeat' refine cond_ind (fun _ => ?_) (fun _ => ?_)) <;> refine Eq.mp (congrArg k ?_) h <;> rw [Bool.eq_iff_iff] <;> simp_all [noneB] <;> grind
theorem H15 (ok or ob ox os : Int) (op of : Bool) (on : Int) (ow : List Int) (om : Int) {E : Wh} {w' : World} {cargs : Array Value} {K : V → Mem → Prop} (hS : Sim E [] w') (ha : VsRel E [(.agg [(.I .i64 ok), (.I .i64 or), (.I .i64 ob), (.I .i64 ox), (.I .i64 os), (.B op), (.B of), (.I .i64 on), (.S ow), (.I .i64 om)])] cargs.toList) (h : K (.B (noneB ok or ob ox os op of on ow om)) []) :
    ((∃ fn, Tryz.prog.funcs[15]? = some fn ∧ fn.body.isSome = true) ∧ Calls Tryz.prog 15 cargs w' (Ret K E [] w')) ∨ ∃ cv w1, (callFunc 15 cargs).run Tryz.prog w' = .ok (.value cv) w1 ∧ Ret K E [] w' (.returned cv) w1 :=
  cbody_use named C1_ok at15 (l := 0) rfl (LoopsOk.none _ _) (F15_ok  ok or ob ox os op of on ow om K) hS ha (h15 ok or ob ox os op of on ow om  (fun u => K (.B u) []) h)

def P15 : Prim := fun args m K =>
  let F := False
  (seeCons args F fun a1 q2 => (seeAgg a1 F fun vs3 => (seeCons vs3 F fun a4 q5 => (seeI .i64 a4 F fun ok => (seeCons q5 F fun a6 q7 => (seeI .i64 a6 F fun or => (seeCons q7 F fun a8 q9 => (seeI .i64 a8 F fun ob => (seeCons q9 F fun a10 q11 => (seeI .i64 a10 F fun ox => (seeCons q11 F fun a12 q13 => (seeI .i64 a12 F fun os => (seeCons q13 F fun a14 q15 => (seeB a14 F fun op => (seeCons q15 F fun a16 q17 => (seeB a16 F fun of => (seeCons q17 F fun a18 q19 => (seeI .i64 a18 F fun on => (seeCons q19 F fun a20 q21 => (seeS a20 F fun ow => (seeCons q21 F fun a22 q23 => (seeI .i64 a22 F fun om => (seeNil q23 F (seeNil q2 F (seeNil m F (K (.B (noneB ok or ob ox os op of on ow om)) []))))))))))))))))))))))))))
set_option maxRecDepth 100000 in
theorem P15_ok : PrimOk Tryz.prog 15 P15 := by
  intro args m K E w cargs hS ha h
  unfold P15 at h
  dsimp only at h
  replace h := seeCons_use h
  rcases h with h | ⟨a1, q2, rfl, h⟩
  · exact h.elim
  replace h := seeAgg_use h
  rcases h with h | ⟨vs3, rfl, h⟩
  · exact h.elim
  replace h := seeCons_use h
  rcases h with h | ⟨a4, q5, rfl, h⟩
  · exact h.elim
  replace h := seeI_use h
  rcases h with h | ⟨ok, rfl, h⟩
  · exact h.elim
  replace h := seeCons_use h
  rcases h with h | ⟨a6, q7, rfl, h⟩
  · exact h.elim
  replace h := seeI_use h
  rcases h with h | ⟨or, rfl, h⟩
  · exact h.elim
  replace h := seeCons_use h
  rcases h with h | ⟨a8, q9, rfl, h⟩
  · exact h.elim
  replace h := seeI_use h
  rcases h with h | ⟨ob, rfl, h⟩
  · exact h.elim
  replace h := seeCons_use h
  rcases h with h | ⟨a10, q11, rfl, h⟩
  · exact h.elim
  replace h := seeI_use h
  rcases h with h | ⟨ox, rfl, h⟩
  · exact h.elim
  replace h := seeCons_use h
  rcases h with h | ⟨a12, q13, rfl, h⟩
  · exact h.elim
  replace h := seeI_use h
  rcases h with h | ⟨os, rfl, h⟩
  · exact h.elim
  replace h := seeCons_use h
  rcases h with h | ⟨a14, q15, rfl, h⟩
  · exact h.elim
  replace h := seeB_use h
  rcases h with h | ⟨op, rfl, h⟩
  · exact h.elim
  replace h := seeCons_use h
  rcases h with h | ⟨a16, q17, rfl, h⟩
  · exact h.elim
  replace h := seeB_use h
  rcases h with h | ⟨of, rfl, h⟩
  · exact h.elim
  replace h := seeCons_use h
  rcases h with h | ⟨a18, q19, rfl, h⟩
  · exact h.elim
  replace h := seeI_use h
  rcases h with h | ⟨on, rfl, h⟩
  · exact h.elim
  replace h := seeCons_use h
  rcases h with h | ⟨a20, q21, rfl, h⟩
  · exact h.elim
  replace h := seeS_use h
  rcases h with h | ⟨ow, rfl, h⟩
  · exact h.elim
  replace h := seeCons_use h
  rcases h with h | ⟨a22, q23, rfl, h⟩
  · exact h.elim
  replace h := seeI_use h
  rcases h with h | ⟨om, rfl, h⟩
  · exact h.elim
  replace h := seeNil_use h
  rcases h with h | ⟨rfl, h⟩
  · exact h.elim
  replace h := seeNil_use h
  rcases h with h | ⟨rfl, h⟩
  · exact h.elim
  replace h := seeNil_use h
  rcases h with h | ⟨rfl, h⟩
  · exact h.elim
  exact H15 ok or ob ox os op of on ow om hS ha h
theorem at77 : Tryz.prog.funcs[77]? = some (fnOf Tryz.prog 77) := by kernel_rfl
def F77  (ok or ob ox os : Int) (op of : Bool) (on : Int) (ow : List Int) (om : Int) (k1 : Prop) (k2 : Bool → Prop) : Prop :=
  (bif (!((ok == 4) && ((or == 0) && ((ob == 0) && ((ox == 0) && ((os == 0) && ((op == false) && ((of == false) && ((on == on) && ((ow == ow) && ((om == om) && true))))))))))) then k1 else (bif (ow == ([] : List Int)) then (bif (om == 0) then (bif (decide (on ≥ (-2147483648))) then (k2 (decide (on < 2147483648))) else k1) else k1) else (bif (on == 0) then (bif (ow == ([] : List Int)) then (k2 (om == 0)) else (bif (om == 0) then (k2 (nameB ow)) else (bif (om == 1) then (k2 (nameB ow)) else k1))) else k1)))
theorem F77_ok  (ok or ob ox os : Int) (op of : Bool) (on : Int) (ow : List Int) (om : Int) (K : V → Mem → Prop) : cbody Tryz.prog C1 (fun _ => none) 1000 (fnOf Tryz.prog 77) [(.agg [(.I .i64 ok), (.I .i64 or), (.I .i64 ob), (.I .i64 ox), (.I .i64 os), (.B op), (.B of), (.I .i64 on), (.S ow), (.I .i64 om)])] [] K =
    F77  ok or ob ox os op of on ow om (K (.B false) []) (fun (u0 : Bool) => K (.B u0) []) := by kernel_rfl
def G77 := F77 
set_option maxHeartbeats 4000000 in
theorem h77 (ok or ob ox os : Int) (op of : Bool) (on : Int) (ow : List Int) (om : Int)  (k : Bool → Prop) (h : k (tgtB ok or ob ox os op of on ow om)) : G77 ok or ob ox os op of on ow om (k false) (fun (u0 : Bool) => k u0) := by
  unfold G77 F77
  (repeat' refine cond_ind (fun _ => ?_) (fun _ => ?_)) <;> refine Eq.mp (congrArg k ?_) h <;> rw [Bool.eq_iff_iff] <;> simp_all [tgtB, wideB] <;> grind
theorem H77 (ok or ob ox os : Int) (op of : Bool) (on : Int) (ow : List Int) (om : Int) {E : Wh} {w' : World} {cargs : Array Value} {K : V → Mem → Prop} (hS : Sim E [] w') (ha : VsRel E [(.agg [(.I .i64 ok), (.I .i64 or), (.I .i64 ob), (.I .i64 ox), (.I .i64 os), (.B op), (.B of), (.I .i64 on), (.S ow), (.I .i64 om)])] cargs.toList) (h : K (.B (tgtB ok or ob ox os op of on ow om)) []) :
    ((∃ fn, Tryz.prog.funcs[77]? = some fn ∧ fn.body.isSome = true) ∧ Calls Tryz.prog 77 cargs w' (Ret K E [] w')) ∨ ∃ cv w1, (callFunc 77 cargs).run Tryz.prog w' = .ok (.value cv) w1 ∧ Ret K E [] w' (.returned cv) w1 :=
  cbody_use named C1_ok at77 (l := 0) rfl (LoopsOk.none _ _) (F77_ok  ok or ob ox os op of on ow om K) hS ha (h77 ok or ob ox os op of on ow om  (fun u => K (.B u) []) h)

def P77 : Prim := fun args m K =>
  let F := False
  (seeCons args F fun a1 q2 => (seeAgg a1 F fun vs3 => (seeCons vs3 F fun a4 q5 => (seeI .i64 a4 F fun ok => (seeCons q5 F fun a6 q7 => (seeI .i64 a6 F fun or => (seeCons q7 F fun a8 q9 => (seeI .i64 a8 F fun ob => (seeCons q9 F fun a10 q11 => (seeI .i64 a10 F fun ox => (seeCons q11 F fun a12 q13 => (seeI .i64 a12 F fun os => (seeCons q13 F fun a14 q15 => (seeB a14 F fun op => (seeCons q15 F fun a16 q17 => (seeB a16 F fun of => (seeCons q17 F fun a18 q19 => (seeI .i64 a18 F fun on => (seeCons q19 F fun a20 q21 => (seeS a20 F fun ow => (seeCons q21 F fun a22 q23 => (seeI .i64 a22 F fun om => (seeNil q23 F (seeNil q2 F (seeNil m F (K (.B (tgtB ok or ob ox os op of on ow om)) []))))))))))))))))))))))))))
set_option maxRecDepth 100000 in
theorem P77_ok : PrimOk Tryz.prog 77 P77 := by
  intro args m K E w cargs hS ha h
  unfold P77 at h
  dsimp only at h
  replace h := seeCons_use h
  rcases h with h | ⟨a1, q2, rfl, h⟩
  · exact h.elim
  replace h := seeAgg_use h
  rcases h with h | ⟨vs3, rfl, h⟩
  · exact h.elim
  replace h := seeCons_use h
  rcases h with h | ⟨a4, q5, rfl, h⟩
  · exact h.elim
  replace h := seeI_use h
  rcases h with h | ⟨ok, rfl, h⟩
  · exact h.elim
  replace h := seeCons_use h
  rcases h with h | ⟨a6, q7, rfl, h⟩
  · exact h.elim
  replace h := seeI_use h
  rcases h with h | ⟨or, rfl, h⟩
  · exact h.elim
  replace h := seeCons_use h
  rcases h with h | ⟨a8, q9, rfl, h⟩
  · exact h.elim
  replace h := seeI_use h
  rcases h with h | ⟨ob, rfl, h⟩
  · exact h.elim
  replace h := seeCons_use h
  rcases h with h | ⟨a10, q11, rfl, h⟩
  · exact h.elim
  replace h := seeI_use h
  rcases h with h | ⟨ox, rfl, h⟩
  · exact h.elim
  replace h := seeCons_use h
  rcases h with h | ⟨a12, q13, rfl, h⟩
  · exact h.elim
  replace h := seeI_use h
  rcases h with h | ⟨os, rfl, h⟩
  · exact h.elim
  replace h := seeCons_use h
  rcases h with h | ⟨a14, q15, rfl, h⟩
  · exact h.elim
  replace h := seeB_use h
  rcases h with h | ⟨op, rfl, h⟩
  · exact h.elim
  replace h := seeCons_use h
  rcases h with h | ⟨a16, q17, rfl, h⟩
  · exact h.elim
  replace h := seeB_use h
  rcases h with h | ⟨of, rfl, h⟩
  · exact h.elim
  replace h := seeCons_use h
  rcases h with h | ⟨a18, q19, rfl, h⟩
  · exact h.elim
  replace h := seeI_use h
  rcases h with h | ⟨on, rfl, h⟩
  · exact h.elim
  replace h := seeCons_use h
  rcases h with h | ⟨a20, q21, rfl, h⟩
  · exact h.elim
  replace h := seeS_use h
  rcases h with h | ⟨ow, rfl, h⟩
  · exact h.elim
  replace h := seeCons_use h
  rcases h with h | ⟨a22, q23, rfl, h⟩
  · exact h.elim
  replace h := seeI_use h
  rcases h with h | ⟨om, rfl, h⟩
  · exact h.elim
  replace h := seeNil_use h
  rcases h with h | ⟨rfl, h⟩
  · exact h.elim
  replace h := seeNil_use h
  rcases h with h | ⟨rfl, h⟩
  · exact h.elim
  replace h := seeNil_use h
  rcases h with h | ⟨rfl, h⟩
  · exact h.elim
  exact H77 ok or ob ox os op of on ow om hS ha h
theorem at79 : Tryz.prog.funcs[79]? = some (fnOf Tryz.prog 79) := by kernel_rfl
def F79  (ok or ob ox os : Int) (op of : Bool) (on : Int) (ow : List Int) (om : Int) (k1 : Bool → Prop) (k2 : Prop) : Prop :=
  (bif (ow == ([] : List Int)) then (bif (decide (on ≥ (-2147483648))) then (bif (decide (on < 2147483648)) then (k1 ((ok == 4) && ((or == 0) && ((ob == 0) && ((ox == 0) && ((os == 0) && ((op == false) && ((of == false) && ((on == on) && ((ow == ([] : List Int)) && ((om == 0) && true))))))))))) else k2) else k2) else (bif (nameB ow) then (bif (om == 0) then (k1 ((ok == 4) && ((or == 0) && ((ob == 0) && ((ox == 0) && ((os == 0) && ((op == false) && ((of == false) && ((on == 0) && ((ow == ow) && ((om == om) && true))))))))))) else (bif (om == 1) then (k1 ((ok == 4) && ((or == 0) && ((ob == 0) && ((ox == 0) && ((os == 0) && ((op == false) && ((of == false) && ((on == 0) && ((ow == ow) && ((om == om) && true))))))))))) else k2)) else k2))
theorem F79_ok  (ok or ob ox os : Int) (op of : Bool) (on : Int) (ow : List Int) (om : Int) (K : V → Mem → Prop) : cbody Tryz.prog C1 (fun _ => none) 1000 (fnOf Tryz.prog 79) [(.agg [(.I .i64 ok), (.I .i64 or), (.I .i64 ob), (.I .i64 ox), (.I .i64 os), (.B op), (.B of), (.I .i64 on), (.S ow), (.I .i64 om)])] [] K =
    F79  ok or ob ox os op of on ow om (fun (u0 : Bool) => K (.B u0) []) (K (.B false) []) := by kernel_rfl
def G79 := F79 
set_option maxHeartbeats 4000000 in
theorem h79 (ok or ob ox os : Int) (op of : Bool) (on : Int) (ow : List Int) (om : Int)  (k : Bool → Prop) (h : k (tgtB ok or ob ox os op of on ow om)) : G79 ok or ob ox os op of on ow om (fun (u0 : Bool) => k u0) (k false) := by
  unfold G79 F79
  (repeat' refine cond_ind (fun _ => ?_) (fun _ => ?_)) <;> refine Eq.mp (congrArg k ?_) h <;> rw [Bool.eq_iff_iff] <;> simp_all [tgtB, wideB] <;> grind
theorem H79 (ok or ob ox os : Int) (op of : Bool) (on : Int) (ow : List Int) (om : Int) {E : Wh} {w' : World} {cargs : Array Value} {K : V → Mem → Prop} (hS : Sim E [] w') (ha : VsRel E [(.agg [(.I .i64 ok), (.I .i64 or), (.I .i64 ob), (.I .i64 ox), (.I .i64 os), (.B op), (.B of), (.I .i64 on), (.S ow), (.I .i64 om)])] cargs.toList) (h : K (.B (tgtB ok or ob ox os op of on ow om)) []) :
    ((∃ fn, Tryz.prog.funcs[79]? = some fn ∧ fn.body.isSome = true) ∧ Calls Tryz.prog 79 cargs w' (Ret K E [] w')) ∨ ∃ cv w1, (callFunc 79 cargs).run Tryz.prog w' = .ok (.value cv) w1 ∧ Ret K E [] w' (.returned cv) w1 :=
  cbody_use named C1_ok at79 (l := 0) rfl (LoopsOk.none _ _) (F79_ok  ok or ob ox os op of on ow om K) hS ha (h79 ok or ob ox os op of on ow om  (fun u => K (.B u) []) h)

def P79 : Prim := fun args m K =>
  let F := False
  (seeCons args F fun a1 q2 => (seeAgg a1 F fun vs3 => (seeCons vs3 F fun a4 q5 => (seeI .i64 a4 F fun ok => (seeCons q5 F fun a6 q7 => (seeI .i64 a6 F fun or => (seeCons q7 F fun a8 q9 => (seeI .i64 a8 F fun ob => (seeCons q9 F fun a10 q11 => (seeI .i64 a10 F fun ox => (seeCons q11 F fun a12 q13 => (seeI .i64 a12 F fun os => (seeCons q13 F fun a14 q15 => (seeB a14 F fun op => (seeCons q15 F fun a16 q17 => (seeB a16 F fun of => (seeCons q17 F fun a18 q19 => (seeI .i64 a18 F fun on => (seeCons q19 F fun a20 q21 => (seeS a20 F fun ow => (seeCons q21 F fun a22 q23 => (seeI .i64 a22 F fun om => (seeNil q23 F (seeNil q2 F (seeNil m F (K (.B (tgtB ok or ob ox os op of on ow om)) []))))))))))))))))))))))))))
set_option maxRecDepth 100000 in
theorem P79_ok : PrimOk Tryz.prog 79 P79 := by
  intro args m K E w cargs hS ha h
  unfold P79 at h
  dsimp only at h
  replace h := seeCons_use h
  rcases h with h | ⟨a1, q2, rfl, h⟩
  · exact h.elim
  replace h := seeAgg_use h
  rcases h with h | ⟨vs3, rfl, h⟩
  · exact h.elim
  replace h := seeCons_use h
  rcases h with h | ⟨a4, q5, rfl, h⟩
  · exact h.elim
  replace h := seeI_use h
  rcases h with h | ⟨ok, rfl, h⟩
  · exact h.elim
  replace h := seeCons_use h
  rcases h with h | ⟨a6, q7, rfl, h⟩
  · exact h.elim
  replace h := seeI_use h
  rcases h with h | ⟨or, rfl, h⟩
  · exact h.elim
  replace h := seeCons_use h
  rcases h with h | ⟨a8, q9, rfl, h⟩
  · exact h.elim
  replace h := seeI_use h
  rcases h with h | ⟨ob, rfl, h⟩
  · exact h.elim
  replace h := seeCons_use h
  rcases h with h | ⟨a10, q11, rfl, h⟩
  · exact h.elim
  replace h := seeI_use h
  rcases h with h | ⟨ox, rfl, h⟩
  · exact h.elim
  replace h := seeCons_use h
  rcases h with h | ⟨a12, q13, rfl, h⟩
  · exact h.elim
  replace h := seeI_use h
  rcases h with h | ⟨os, rfl, h⟩
  · exact h.elim
  replace h := seeCons_use h
  rcases h with h | ⟨a14, q15, rfl, h⟩
  · exact h.elim
  replace h := seeB_use h
  rcases h with h | ⟨op, rfl, h⟩
  · exact h.elim
  replace h := seeCons_use h
  rcases h with h | ⟨a16, q17, rfl, h⟩
  · exact h.elim
  replace h := seeB_use h
  rcases h with h | ⟨of, rfl, h⟩
  · exact h.elim
  replace h := seeCons_use h
  rcases h with h | ⟨a18, q19, rfl, h⟩
  · exact h.elim
  replace h := seeI_use h
  rcases h with h | ⟨on, rfl, h⟩
  · exact h.elim
  replace h := seeCons_use h
  rcases h with h | ⟨a20, q21, rfl, h⟩
  · exact h.elim
  replace h := seeS_use h
  rcases h with h | ⟨ow, rfl, h⟩
  · exact h.elim
  replace h := seeCons_use h
  rcases h with h | ⟨a22, q23, rfl, h⟩
  · exact h.elim
  replace h := seeI_use h
  rcases h with h | ⟨om, rfl, h⟩
  · exact h.elim
  replace h := seeNil_use h
  rcases h with h | ⟨rfl, h⟩
  · exact h.elim
  replace h := seeNil_use h
  rcases h with h | ⟨rfl, h⟩
  · exact h.elim
  replace h := seeNil_use h
  rcases h with h | ⟨rfl, h⟩
  · exact h.elim
  exact H79 ok or ob ox os op of on ow om hS ha h
end Go.Proofs.YtkbijhfikkjhpaaGreatDoor.frm
