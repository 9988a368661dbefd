import Derived.Test.YtaajhdkngiemlaaDoorFrmE
import Derived.Test.YtaajhdkngiemlaaDoorFrmI
set_option linter.unusedVariables false
set_option linter.unusedSimpArgs false
set_option maxHeartbeats 4000000
set_option maxRecDepth 100000
namespace Go.Proofs.YtaajhdkngiemlaaDoor.frm
open Go Go.Ab
theorem at22 : Tryd.prog.funcs[22]? = some (fnOf Tryd.prog 22) := by kernel_rfl
def F22  (ok or ob ox os : Int) (op of : Bool) (on : Int) (ow : List Int) (om : Int) (k1 : Int → Prop) (k2 : Prop) : Prop :=
  (bif (ok == (3 : Int)) then (bif (decide (ob ≥ (0 : Int))) then (bif (decide ((0 : Int) ≤ ob)) then (bif (decide (ox ≥ (0 : Int))) then (bif (decide ((0 : Int) ≤ ox)) then (k1 (ibits .or .i64 (ibits .or .i64 (0 : Int) (IntKind.wrap .i64 ((1 : Int) * 2 ^ (min (Int.toNat ob) (IntKind.bits .i64))))) (IntKind.wrap .i64 ((1 : Int) * 2 ^ (min (Int.toNat ox) (IntKind.bits .i64)))))) else False) else (k1 (ibits .or .i64 (0 : Int) (IntKind.wrap .i64 ((1 : Int) * 2 ^ (min (Int.toNat ob) (IntKind.bits .i64))))))) else False) else (bif (decide (ox ≥ (0 : Int))) then (bif (decide ((0 : Int) ≤ ox)) then (k1 (ibits .or .i64 (0 : Int) (IntKind.wrap .i64 ((1 : Int) * 2 ^ (min (Int.toNat ox) (IntKind.bits .i64)))))) else False) else k2)) else k2)
theorem F22_ok  (ok or ob ox os : Int) (op of : Bool) (on : Int) (ow : List Int) (om : Int) (K : V → Mem → Prop) : cbody Tryd.prog C4 (fun _ => none) 1000 (fnOf Tryd.prog 22) [(.agg [(.I .i64 ok), (.I .i64 or), (.I .i64 ob), (.I .i64 ox), (.I .i64 os), (.B op), (.B of), (.I .i64 on), (.S ow), (.I .i64 om)])] [] K =
    F22  ok or ob ox os op of on ow om (fun (u0 : Int) => K (.I .i64 u0) []) (K (.I .i64 (0 : Int)) []) := by kernel_rfl
def G22 := F22 
set_option maxHeartbeats 4000000 in
theorem h22 (ok or ob ox os : Int) (op of : Bool) (on : Int) (ow : List Int) (om : Int)  (k : Int → Prop) (h : k (insI ok ob ox)) : G22 ok or ob ox os op of on ow om (fun (u0 : Int) => k u0) (k (0 : Int)) := by
  unfold G22 F22
  (repeat' refine cond_ind (fun _ => ?_) (fun _ => ?_)) <;> first
    | (refine Eq.mp (congrArg k ?_) h; simp only [insI, bitI, *, cond_true, cond_false]; done)
    | (exfalso; simp only [decide_eq_true_eq, decide_eq_false_iff_not] at *; omega)
theorem H22 (ok or ob ox os : Int) (op of : Bool) (on : Int) (ow : List Int) (om : Int) {E : Wh} {w' : World} {cargs : Array Value} {K : V → Mem → Prop} (hS : Sim E [] w') (ha : VsRel E [(.agg [(.I .i64 ok), (.I .i64 or), (.I .i64 ob), (.I .i64 ox), (.I .i64 os), (.B op), (.B of), (.I .i64 on), (.S ow), (.I .i64 om)])] cargs.toList) (h : K (.I .i64 (insI ok ob ox)) []) :
    ((∃ fn, Tryd.prog.funcs[22]? = some fn ∧ fn.body.isSome = true) ∧ Calls Tryd.prog 22 cargs w' (Ret K E [] w')) ∨ ∃ cv w1, (callFunc 22 cargs).run Tryd.prog w' = .ok (.value cv) w1 ∧ Ret K E [] w' (.returned cv) w1 :=
  cbody_use named C4_ok at22 (l := 0) rfl (LoopsOk.none _ _) (F22_ok  ok or ob ox os op of on ow om K) hS ha (h22 ok or ob ox os op of on ow om  (fun u => K (.I .i64 u) []) h)

def P22 : Prim := fun args m K =>
  let F := False
  (seeCons args F fun a1 q2 => (seeAgg a1 F fun vs3 => (seeCons vs3 F fun a4 q5 => (seeI .i64 a4 F fun ok => (seeCons q5 F fun a6 q7 => (seeI .i64 a6 F fun or => (seeCons q7 F fun a8 q9 => (seeI .i64 a8 F fun ob => (seeCons q9 F fun a10 q11 => (seeI .i64 a10 F fun ox => (seeCons q11 F fun a12 q13 => (seeI .i64 a12 F fun os => (seeCons q13 F fun a14 q15 => (seeB a14 F fun op => (seeCons q15 F fun a16 q17 => (seeB a16 F fun of => (seeCons q17 F fun a18 q19 => (seeI .i64 a18 F fun on => (seeCons q19 F fun a20 q21 => (seeS a20 F fun ow => (seeCons q21 F fun a22 q23 => (seeI .i64 a22 F fun om => (seeNil q23 F (seeNil q2 F (seeNil m F (K (.I .i64 (insI ok ob ox)) []))))))))))))))))))))))))))
set_option maxRecDepth 100000 in
theorem P22_ok : PrimOk Tryd.prog 22 P22 := by
  intro args m K E w cargs hS ha h
  unfold P22 at h
  dsimp only at h
  replace h := seeCons_use h
  rcases h with h | ⟨a1, q2, rfl, h⟩
  · exact h.elim
  replace h := seeAgg_use h
  rcases h with h | ⟨vs3, rfl, h⟩
  · exact h.elim
  replace h := seeCons_use h
  rcases h with h | ⟨a4, q5, rfl, h⟩
  · exact h.elim
  replace h := seeI_use h
  rcases h with h | ⟨ok, rfl, h⟩
  · exact h.elim
  replace h := seeCons_use h
  rcases h with h | ⟨a6, q7, rfl, h⟩
  · exact h.elim
  replace h := seeI_use h
  rcases h with h | ⟨or, rfl, h⟩
  · exact h.elim
  replace h := seeCons_use h
  rcases h with h | ⟨a8, q9, rfl, h⟩
  · exact h.elim
  replace h := seeI_use h
  rcases h with h | ⟨ob, rfl, h⟩
  · exact h.elim
  replace h := seeCons_use h
  rcases h with h | ⟨a10, q11, rfl, h⟩
  · exact h.elim
  replace h := seeI_use h
  rcases h with h | ⟨ox, rfl, h⟩
  · exact h.elim
  replace h := seeCons_use h
  rcases h with h | ⟨a12, q13, rfl, h⟩
  · exact h.elim
  replace h := seeI_use h
  rcases h with h | ⟨os, rfl, h⟩
  · exact h.elim
  replace h := seeCons_use h
  rcases h with h | ⟨a14, q15, rfl, h⟩
  · exact h.elim
  replace h := seeB_use h
  rcases h with h | ⟨op, rfl, h⟩
  · exact h.elim
  replace h := seeCons_use h
  rcases h with h | ⟨a16, q17, rfl, h⟩
  · exact h.elim
  replace h := seeB_use h
  rcases h with h | ⟨of, rfl, h⟩
  · exact h.elim
  replace h := seeCons_use h
  rcases h with h | ⟨a18, q19, rfl, h⟩
  · exact h.elim
  replace h := seeI_use h
  rcases h with h | ⟨on, rfl, h⟩
  · exact h.elim
  replace h := seeCons_use h
  rcases h with h | ⟨a20, q21, rfl, h⟩
  · exact h.elim
  replace h := seeS_use h
  rcases h with h | ⟨ow, rfl, h⟩
  · exact h.elim
  replace h := seeCons_use h
  rcases h with h | ⟨a22, q23, rfl, h⟩
  · exact h.elim
  replace h := seeI_use h
  rcases h with h | ⟨om, rfl, h⟩
  · exact h.elim
  replace h := seeNil_use h
  rcases h with h | ⟨rfl, h⟩
  · exact h.elim
  replace h := seeNil_use h
  rcases h with h | ⟨rfl, h⟩
  · exact h.elim
  replace h := seeNil_use h
  rcases h with h | ⟨rfl, h⟩
  · exact h.elim
  exact H22 ok or ob ox os op of on ow om hS ha h
theorem at25 : Tryd.prog.funcs[25]? = some (fnOf Tryd.prog 25) := by kernel_rfl
def F25  (ok or ob ox os : Int) (op of : Bool) (on : Int) (ow : List Int) (om : Int) (rd : Bool) (k1 : Int → Prop) (k2 : Prop) : Prop :=
  (bif (ok == (1 : Int)) then (bif rd then (bif (decide ((0 : Int) ≤ (IntKind.wrap .u64 or))) then (k1 (IntKind.wrap .i64 ((1 : Int) * 2 ^ (min (Int.toNat (IntKind.wrap .u64 or)) (IntKind.bits .i64))))) else False) else k2) else (bif (ok == (3 : Int)) then (bif (decide (ob ≥ (0 : Int))) then (bif (decide ((0 : Int) ≤ (IntKind.wrap .u64 ob))) then (bif (decide (ox ≥ (0 : Int))) then (bif (decide ((0 : Int) ≤ (IntKind.wrap .u64 ox))) then (k1 (ibits .or .i64 (IntKind.wrap .i64 ((1 : Int) * 2 ^ (min (Int.toNat (IntKind.wrap .u64 ob)) (IntKind.bits .i64)))) (IntKind.wrap .i64 ((1 : Int) * 2 ^ (min (Int.toNat (IntKind.wrap .u64 ox)) (IntKind.bits .i64)))))) else False) else (k1 (IntKind.wrap .i64 ((1 : Int) * 2 ^ (min (Int.toNat (IntKind.wrap .u64 ob)) (IntKind.bits .i64)))))) else False) else (bif (decide (ox ≥ (0 : Int))) then (bif (decide ((0 : Int) ≤ (IntKind.wrap .u64 ox))) then (k1 (ibits .or .i64 (0 : Int) (IntKind.wrap .i64 ((1 : Int) * 2 ^ (min (Int.toNat (IntKind.wrap .u64 ox)) (IntKind.bits .i64)))))) else False) else k2)) else k2))
theorem F25_ok  (ok or ob ox os : Int) (op of : Bool) (on : Int) (ow : List Int) (om : Int) (rd : Bool) (K : V → Mem → Prop) : cbody Tryd.prog C4 (fun _ => none) 1000 (fnOf Tryd.prog 25) [(.agg [(.I .i64 ok), (.I .i64 or), (.I .i64 ob), (.I .i64 ox), (.I .i64 os), (.B op), (.B of), (.I .i64 on), (.S ow), (.I .i64 om)]), (.B rd)] [] K =
    F25  ok or ob ox os op of on ow om rd (fun (u0 : Int) => K (.I .i64 u0) []) (K (.I .i64 (0 : Int)) []) := by kernel_rfl
def G25 := F25 
set_option maxHeartbeats 4000000 in
theorem h25 (ok or ob ox os : Int) (op of : Bool) (on : Int) (ow : List Int) (om : Int) (rd : Bool)  (k : Int → Prop) (h : k (insR ok or ob ox rd)) : G25 ok or ob ox os op of on ow om rd (fun (u0 : Int) => k u0) (k (0 : Int)) := by
  have w1 := wrapU or
  have w2 := wrapU ob
  have w3 := wrapU ox
  unfold G25 F25
  (repeat' refine cond_ind (fun _ => ?_) (fun _ => ?_)) <;> first
    | (refine Eq.mp (congrArg k ?_) h; simp only [insR, bitR, *, cond_true, cond_false]; done)
    | (exfalso; simp only [decide_eq_true_eq, decide_eq_false_iff_not] at *; omega)
theorem H25 (ok or ob ox os : Int) (op of : Bool) (on : Int) (ow : List Int) (om : Int) (rd : Bool) {E : Wh} {w' : World} {cargs : Array Value} {K : V → Mem → Prop} (hS : Sim E [] w') (ha : VsRel E [(.agg [(.I .i64 ok), (.I .i64 or), (.I .i64 ob), (.I .i64 ox), (.I .i64 os), (.B op), (.B of), (.I .i64 on), (.S ow), (.I .i64 om)]), (.B rd)] cargs.toList) (h : K (.I .i64 (insR ok or ob ox rd)) []) :
    ((∃ fn, Tryd.prog.funcs[25]? = some fn ∧ fn.body.isSome = true) ∧ Calls Tryd.prog 25 cargs w' (Ret K E [] w')) ∨ ∃ cv w1, (callFunc 25 cargs).run Tryd.prog w' = .ok (.value cv) w1 ∧ Ret K E [] w' (.returned cv) w1 :=
  cbody_use named C4_ok at25 (l := 0) rfl (LoopsOk.none _ _) (F25_ok  ok or ob ox os op of on ow om rd K) hS ha (h25 ok or ob ox os op of on ow om rd  (fun u => K (.I .i64 u) []) h)

def P25 : Prim := fun args m K =>
  let F := False
  (seeCons args F fun a1 q2 => (seeAgg a1 F fun vs3 => (seeCons vs3 F fun a4 q5 => (seeI .i64 a4 F fun ok => (seeCons q5 F fun a6 q7 => (seeI .i64 a6 F fun or => (seeCons q7 F fun a8 q9 => (seeI .i64 a8 F fun ob => (seeCons q9 F fun a10 q11 => (seeI .i64 a10 F fun ox => (seeCons q11 F fun a12 q13 => (seeI .i64 a12 F fun os => (seeCons q13 F fun a14 q15 => (seeB a14 F fun op => (seeCons q15 F fun a16 q17 => (seeB a16 F fun of => (seeCons q17 F fun a18 q19 => (seeI .i64 a18 F fun on => (seeCons q19 F fun a20 q21 => (seeS a20 F fun ow => (seeCons q21 F fun a22 q23 => (seeI .i64 a22 F fun om => (seeNil q23 F (seeCons q2 F fun a24 q25 => (seeB a24 F fun rd => (seeNil q25 F (seeNil m F (K (.I .i64 (insR ok or ob ox rd)) []))))))))))))))))))))))))))))
set_option maxRecDepth 100000 in
theorem P25_ok : PrimOk Tryd.prog 25 P25 := by
  intro args m K E w cargs hS ha h
  unfold P25 at h
  dsimp only at h
  replace h := seeCons_use h
  rcases h with h | ⟨a1, q2, rfl, h⟩
  · exact h.elim
  replace h := seeAgg_use h
  rcases h with h | ⟨vs3, rfl, h⟩
  · exact h.elim
  replace h := seeCons_use h
  rcases h with h | ⟨a4, q5, rfl, h⟩
  · exact h.elim
  replace h := seeI_use h
  rcases h with h | ⟨ok, rfl, h⟩
  · exact h.elim
  replace h := seeCons_use h
  rcases h with h | ⟨a6, q7, rfl, h⟩
  · exact h.elim
  replace h := seeI_use h
  rcases h with h | ⟨or, rfl, h⟩
  · exact h.elim
  replace h := seeCons_use h
  rcases h with h | ⟨a8, q9, rfl, h⟩
  · exact h.elim
  replace h := seeI_use h
  rcases h with h | ⟨ob, rfl, h⟩
  · exact h.elim
  replace h := seeCons_use h
  rcases h with h | ⟨a10, q11, rfl, h⟩
  · exact h.elim
  replace h := seeI_use h
  rcases h with h | ⟨ox, rfl, h⟩
  · exact h.elim
  replace h := seeCons_use h
  rcases h with h | ⟨a12, q13, rfl, h⟩
  · exact h.elim
  replace h := seeI_use h
  rcases h with h | ⟨os, rfl, h⟩
  · exact h.elim
  replace h := seeCons_use h
  rcases h with h | ⟨a14, q15, rfl, h⟩
  · exact h.elim
  replace h := seeB_use h
  rcases h with h | ⟨op, rfl, h⟩
  · exact h.elim
  replace h := seeCons_use h
  rcases h with h | ⟨a16, q17, rfl, h⟩
  · exact h.elim
  replace h := seeB_use h
  rcases h with h | ⟨of, rfl, h⟩
  · exact h.elim
  replace h := seeCons_use h
  rcases h with h | ⟨a18, q19, rfl, h⟩
  · exact h.elim
  replace h := seeI_use h
  rcases h with h | ⟨on, rfl, h⟩
  · exact h.elim
  replace h := seeCons_use h
  rcases h with h | ⟨a20, q21, rfl, h⟩
  · exact h.elim
  replace h := seeS_use h
  rcases h with h | ⟨ow, rfl, h⟩
  · exact h.elim
  replace h := seeCons_use h
  rcases h with h | ⟨a22, q23, rfl, h⟩
  · exact h.elim
  replace h := seeI_use h
  rcases h with h | ⟨om, rfl, h⟩
  · exact h.elim
  replace h := seeNil_use h
  rcases h with h | ⟨rfl, h⟩
  · exact h.elim
  replace h := seeCons_use h
  rcases h with h | ⟨a24, q25, rfl, h⟩
  · exact h.elim
  replace h := seeB_use h
  rcases h with h | ⟨rd, rfl, h⟩
  · exact h.elim
  replace h := seeNil_use h
  rcases h with h | ⟨rfl, h⟩
  · exact h.elim
  replace h := seeNil_use h
  rcases h with h | ⟨rfl, h⟩
  · exact h.elim
  exact H25 ok or ob ox os op of on ow om rd hS ha h
def prims5 : Prims := fun f =>
  match Nat.beq f 22 with
  | true => some P22
  | false =>   match Nat.beq f 25 with
  | true => some P25
  | false => prims4 f
theorem prims5_ok : PrimsOk Tryd.prog prims5 := by
  intro f g hg
  unfold prims5 at hg
  split at hg
  · rename_i hf
    obtain rfl := Nat.eq_of_beq_eq_true hf
    cases hg
    exact P22_ok
  · skip
    split at hg
    · rename_i hf
      obtain rfl := Nat.eq_of_beq_eq_true hf
      cases hg
      exact P25_ok
    · skip
      exact prims4_ok f g hg
def C5 : CC := call Tryd.prog prims5 1000
theorem C5_ok : CallsOk Tryd.prog C5 := call_sound named prims5_ok 1000

end Go.Proofs.YtaajhdkngiemlaaDoor.frm
