import Derived.Test.YtkbijhfikkjhpaaGreatDoorFrm1
set_option linter.unusedVariables false
set_option linter.unusedSimpArgs false
set_option maxHeartbeats 4000000
set_option maxRecDepth 100000
namespace Go.Proofs.YtkbijhfikkjhpaaGreatDoor.frm
open Go Go.Ab
theorem at64 : Tryz.prog.funcs[64]? = some (fnOf Tryz.prog 64) := by kernel_rfl
def F64  (ok or ob ox os : Int) (op of : Bool) (on : Int) (ow : List Int) (om : Int) (k1 : Bool → Prop) (k2 k3 : Prop) : Prop :=
  let q1 := (k1 ((ok == 3) && ((or == 0) && ((ob == ob) && ((ox == ox) && ((os == os) && ((op == false) && ((of == false) && true))))))))
  let q0 := (bif (ox == (-1)) then (k1 ((ok == 3) && ((or == 0) && ((ob == ob) && ((ox == (-1)) && ((os == 0) && ((op == false) && ((of == false) && true)))))))) else (bif (decide (ox < 0)) then k2 else (bif (decide (ox > 15)) then k2 else (bif (ox == 4) then k2 else (bif (os != 1) then (bif (os != 2) then (bif (os != 4) then (bif (os != 8) then k2 else q1) else q1) else q1) else q1)))))
  let q2 := (bif (om != 2) then (bif (om != 3) then k3 else (k1 (on == 0))) else (k1 (on == 0)))
  let q3 := (decide (on ≥ (-2147483648)))
  let q4 := (bif (om != 2) then (bif (om != 3) then q0 else (bif (!(on == 0)) then k2 else q0)) else (bif (!(on == 0)) then k2 else q0))
  let q5 := (decide (on < 2147483648))
  (bif op then (bif ((ok == 3) && ((or == 0) && ((ob == (-1)) && ((ox == (-1)) && ((os == 0) && ((op == true) && ((of == false) && true))))))) then (bif (ow == ([] : List Int)) then (bif (om == 0) then (bif q3 then (k1 q5) else k2) else k2) else (bif (!(nameB ow)) then k2 else (bif q3 then (bif (!q5) then k2 else (bif (0 == om) then q2 else (bif (2 == om) then q2 else (bif (3 == om) then q2 else k2)))) else k2))) else k2) else (bif of then (bif ((ok == 3) && ((or == 0) && ((ob == (-1)) && ((ox == (-1)) && ((os == 0) && ((op == false) && ((of == true) && true))))))) then (bif (ow == ([] : List Int)) then (bif (om == 0) then (bif q3 then (k1 q5) else k2) else k2) else (bif (!(nameB ow)) then k2 else (bif q3 then (bif (!q5) then k2 else (bif (4 == om) then q2 else k2)) else k2))) else k2) else (bif (decide (ob < 0)) then k2 else (bif (decide (ob > 15)) then k2 else (bif (ow == ([] : List Int)) then (bif (om == 0) then (bif q3 then (bif (!q5) then k2 else q0) else k2) else k2) else (bif (!(nameB ow)) then k2 else (bif q3 then (bif (!q5) then k2 else (bif (4 == om) then q4 else (bif (5 == om) then q4 else k2))) else k2)))))))
theorem F64_ok  (ok or ob ox os : Int) (op of : Bool) (on : Int) (ow : List Int) (om : Int) (K : V → Mem → Prop) : cbody Tryz.prog C1 (fun _ => none) 1000 (fnOf Tryz.prog 64) [(.agg [(.I .i64 ok), (.I .i64 or), (.I .i64 ob), (.I .i64 ox), (.I .i64 os), (.B op), (.B of), (.I .i64 on), (.S ow), (.I .i64 om)])] [] K =
    F64  ok or ob ox os op of on ow om (fun (u0 : Bool) => K (.B u0) []) (K (.B false) []) (K (.B true) []) := by kernel_rfl
def G64 := F64 
set_option maxHeartbeats 4000000 in
theorem h64 (ok or ob ox os : Int) (op of : Bool) (on : Int) (ow : List Int) (om : Int)  (k : Bool → Prop) (h : k (memB ok or ob ox os op of on ow om)) : G64 ok or ob ox os op of on ow om (fun (u0 : Bool) => k u0) (k false) (k true) := by
  unfold G64 F64
  (repeat' refine cond_ind (fun _ => ?_) (fun _ => ?_)) <;> refine Eq.mp (congrArg k ?_) h <;> rw [Bool.eq_iff_iff] <;> simp_all [memB, wideB] <;> grind
theorem H64 (ok or ob ox os : Int) (op of : Bool) (on : Int) (ow : List Int) (om : Int) {E : Wh} {w' : World} {cargs : Array Value} {K : V → Mem → Prop} (hS : Sim E [] w') (ha : VsRel E [(.agg [(.I .i64 ok), (.I .i64 or), (.I .i64 ob), (.I .i64 ox), (.I .i64 os), (.B op), (.B of), (.I .i64 on), (.S ow), (.I .i64 om)])] cargs.toList) (h : K (.B (memB ok or ob ox os op of on ow om)) []) :
    ((∃ fn, Tryz.prog.funcs[64]? = some fn ∧ fn.body.isSome = true) ∧ Calls Tryz.prog 64 cargs w' (Ret K E [] w')) ∨ ∃ cv w1, (callFunc 64 cargs).run Tryz.prog w' = .ok (.value cv) w1 ∧ Ret K E [] w' (.returned cv) w1 :=
  cbody_use named C1_ok at64 (l := 0) rfl (LoopsOk.none _ _) (F64_ok  ok or ob ox os op of on ow om K) hS ha (h64 ok or ob ox os op of on ow om  (fun u => K (.B u) []) h)

def P64 : Prim := fun args m K =>
  let F := False
  (seeCons args F fun a1 q2 => (seeAgg a1 F fun vs3 => (seeCons vs3 F fun a4 q5 => (seeI .i64 a4 F fun ok => (seeCons q5 F fun a6 q7 => (seeI .i64 a6 F fun or => (seeCons q7 F fun a8 q9 => (seeI .i64 a8 F fun ob => (seeCons q9 F fun a10 q11 => (seeI .i64 a10 F fun ox => (seeCons q11 F fun a12 q13 => (seeI .i64 a12 F fun os => (seeCons q13 F fun a14 q15 => (seeB a14 F fun op => (seeCons q15 F fun a16 q17 => (seeB a16 F fun of => (seeCons q17 F fun a18 q19 => (seeI .i64 a18 F fun on => (seeCons q19 F fun a20 q21 => (seeS a20 F fun ow => (seeCons q21 F fun a22 q23 => (seeI .i64 a22 F fun om => (seeNil q23 F (seeNil q2 F (seeNil m F (K (.B (memB ok or ob ox os op of on ow om)) []))))))))))))))))))))))))))
set_option maxRecDepth 100000 in
theorem P64_ok : PrimOk Tryz.prog 64 P64 := by
  intro args m K E w cargs hS ha h
  unfold P64 at h
  dsimp only at h
  replace h := seeCons_use h
  rcases h with h | ⟨a1, q2, rfl, h⟩
  · exact h.elim
  replace h := seeAgg_use h
  rcases h with h | ⟨vs3, rfl, h⟩
  · exact h.elim
  replace h := seeCons_use h
  rcases h with h | ⟨a4, q5, rfl, h⟩
  · exact h.elim
  replace h := seeI_use h
  rcases h with h | ⟨ok, rfl, h⟩
  · exact h.elim
  replace h := seeCons_use h
  rcases h with h | ⟨a6, q7, rfl, h⟩
  · exact h.elim
  replace h := seeI_use h
  rcases h with h | ⟨or, rfl, h⟩
  · exact h.elim
  replace h := seeCons_use h
  rcases h with h | ⟨a8, q9, rfl, h⟩
  · exact h.elim
  replace h := seeI_use h
  rcases h with h | ⟨ob, rfl, h⟩
  · exact h.elim
  replace h := seeCons_use h
  rcases h with h | ⟨a10, q11, rfl, h⟩
  · exact h.elim
  replace h := seeI_use h
  rcases h with h | ⟨ox, rfl, h⟩
  · exact h.elim
  replace h := seeCons_use h
  rcases h with h | ⟨a12, q13, rfl, h⟩
  · exact h.elim
  replace h := seeI_use h
  rcases h with h | ⟨os, rfl, h⟩
  · exact h.elim
  replace h := seeCons_use h
  rcases h with h | ⟨a14, q15, rfl, h⟩
  · exact h.elim
  replace h := seeB_use h
  rcases h with h | ⟨op, rfl, h⟩
  · exact h.elim
  replace h := seeCons_use h
  rcases h with h | ⟨a16, q17, rfl, h⟩
  · exact h.elim
  replace h := seeB_use h
  rcases h with h | ⟨of, rfl, h⟩
  · exact h.elim
  replace h := seeCons_use h
  rcases h with h | ⟨a18, q19, rfl, h⟩
  · exact h.elim
  replace h := seeI_use h
  rcases h with h | ⟨on, rfl, h⟩
  · exact h.elim
  replace h := seeCons_use h
  rcases h with h | ⟨a20, q21, rfl, h⟩
  · exact h.elim
  replace h := seeS_use h
  rcases h with h | ⟨ow, rfl, h⟩
  · exact h.elim
  replace h := seeCons_use h
  rcases h with h | ⟨a22, q23, rfl, h⟩
  · exact h.elim
  replace h := seeI_use h
  rcases h with h | ⟨om, rfl, h⟩
  · exact h.elim
  replace h := seeNil_use h
  rcases h with h | ⟨rfl, h⟩
  · exact h.elim
  replace h := seeNil_use h
  rcases h with h | ⟨rfl, h⟩
  · exact h.elim
  replace h := seeNil_use h
  rcases h with h | ⟨rfl, h⟩
  · exact h.elim
  exact H64 ok or ob ox os op of on ow om hS ha h
end Go.Proofs.YtkbijhfikkjhpaaGreatDoor.frm
