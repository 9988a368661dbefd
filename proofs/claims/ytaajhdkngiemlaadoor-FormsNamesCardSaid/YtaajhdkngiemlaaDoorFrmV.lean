import Derived.Test.YtaajhdkngiemlaaDoorFrm1
set_option linter.unusedVariables false
set_option maxHeartbeats 4000000
set_option maxRecDepth 100000
namespace Go.Proofs.YtaajhdkngiemlaaDoor.frm
open Go Go.Ab
def regT : List (List Int × Int × Int) := [([97, 108], 0, 1),
  ([101, 97, 120], 0, 4),
  ([114, 97, 120], 0, 8),
  ([99, 108], 1, 1),
  ([101, 99, 120], 1, 4),
  ([114, 99, 120], 1, 8),
  ([100, 108], 2, 1),
  ([101, 100, 120], 2, 4),
  ([114, 100, 120], 2, 8),
  ([98, 108], 3, 1),
  ([101, 98, 120], 3, 4),
  ([114, 98, 120], 3, 8),
  ([115, 112, 108], 4, 1),
  ([101, 115, 112], 4, 4),
  ([114, 115, 112], 4, 8),
  ([98, 112, 108], 5, 1),
  ([101, 98, 112], 5, 4),
  ([114, 98, 112], 5, 8),
  ([115, 105, 108], 6, 1),
  ([101, 115, 105], 6, 4),
  ([114, 115, 105], 6, 8),
  ([100, 105, 108], 7, 1),
  ([101, 100, 105], 7, 4),
  ([114, 100, 105], 7, 8),
  ([114, 56, 98], 8, 1),
  ([114, 56, 100], 8, 4),
  ([114, 56], 8, 8),
  ([114, 57, 98], 9, 1),
  ([114, 57, 100], 9, 4),
  ([114, 57], 9, 8),
  ([114, 49, 48, 98], 10, 1),
  ([114, 49, 48, 100], 10, 4),
  ([114, 49, 48], 10, 8),
  ([114, 49, 49, 98], 11, 1),
  ([114, 49, 49, 100], 11, 4),
  ([114, 49, 49], 11, 8),
  ([114, 49, 50, 98], 12, 1),
  ([114, 49, 50, 100], 12, 4),
  ([114, 49, 50], 12, 8),
  ([114, 49, 51, 98], 13, 1),
  ([114, 49, 51, 100], 13, 4),
  ([114, 49, 51], 13, 8),
  ([114, 49, 52, 98], 14, 1),
  ([114, 49, 52, 100], 14, 4),
  ([114, 49, 52], 14, 8),
  ([114, 49, 53, 98], 15, 1),
  ([114, 49, 53, 100], 15, 4),
  ([114, 49, 53], 15, 8)]
def numK (K : V → Mem → Prop) (w : List Int) : List (List Int × Int × Int) → Prop
  | [] => K (.tup [.I .i64 0, .I .i64 0, .B false]) []
  | e :: es => bif (e.1 == w) then K (.tup [.I .i64 e.2.1, .I .i64 e.2.2, .B true]) [] else numK K w es
theorem number_any (w : List Int) (K : V → Mem → Prop) : cbody Tryd.prog C0 (fun _ => none) 1000 (fnOf Tryd.prog 16) [.S w] [] K = numK K w regT := by kernel_rfl
def getN : List (List Int × Int × Int) → List Int → Int × Int × Bool
  | [], _ => (0, 0, false)
  | e :: es, w => bif e.1 == w then (e.2.1, e.2.2, true) else getN es w
def tupN (x : Int × Int × Bool) : V := .tup [.I .i64 x.1, .I .i64 x.2.1, .B x.2.2]
theorem num_of {w : List Int} {K : V → Mem → Prop} : ∀ {es : List (List Int × Int × Int)}, K (tupN (getN es w)) [] → numK K w es
  | [], h => h
  | e :: es, h => by
    unfold getN at h
    unfold numK
    cases hb : e.1 == w with
    | true => rw [hb] at h; exact h
    | false => rw [hb] at h; exact num_of h
theorem at16 : Tryd.prog.funcs[16]? = some (fnOf Tryd.prog 16) := by kernel_rfl
theorem H16 (w : List Int) {E : Wh} {w' : World} {cargs : Array Value} {K : V → Mem → Prop} (hS : Sim E [] w') (ha : VsRel E [.S w] cargs.toList) (h : K (tupN (getN regT w)) []) :
    ((∃ fn, Tryd.prog.funcs[16]? = some fn ∧ fn.body.isSome = true) ∧ Calls Tryd.prog 16 cargs w' (Ret K E [] w')) ∨ ∃ cv w1, (callFunc 16 cargs).run Tryd.prog w' = .ok (.value cv) w1 ∧ Ret K E [] w' (.returned cv) w1 :=
  cbody_use named C0_ok at16 (l := 0) rfl (LoopsOk.none _ _) (number_any w K) hS ha (num_of h)
def P16 : Prim := fun args m K =>
  let F := False
  (seeCons args F fun a1 q2 => (seeS a1 F fun w => (seeNil q2 F (seeNil m F (K (tupN (getN regT w)) [])))))
theorem P16_ok : PrimOk Tryd.prog 16 P16 := by
  intro args m K E w cargs hS ha h
  unfold P16 at h
  dsimp only at h
  replace h := seeCons_use h
  rcases h with h | ⟨a1, q2, rfl, h⟩
  · exact h.elim
  replace h := seeS_use h
  rcases h with h | ⟨w, rfl, h⟩
  · exact h.elim
  replace h := seeNil_use h
  rcases h with h | ⟨rfl, h⟩
  · exact h.elim
  replace h := seeNil_use h
  rcases h with h | ⟨rfl, h⟩
  · exact h.elim
  exact H16 w hS ha h
end Go.Proofs.YtaajhdkngiemlaaDoor.frm
