import Derived.Test.YtaajhdkngiemlaaDoorFrmT
import Derived.Test.YtaajhdkngiemlaaDoorFrda
import Derived.Test.YtaajhdkngiemlaaDoorFrdc
import Derived.Test.YtaajhdkngiemlaaDoorFrdd
import Derived.Test.YtaajhdkngiemlaaDoorFrdi
import Derived.Test.YtaajhdkngiemlaaDoorFrdj
import Derived.Test.YtaajhdkngiemlaaDoorFrdl
import Derived.Test.YtaajhdkngiemlaaDoorFrdm
import Derived.Test.YtaajhdkngiemlaaDoorFrdn
import Derived.Test.YtaajhdkngiemlaaDoorFrdo
import Derived.Test.YtaajhdkngiemlaaDoorFrdp
import Derived.Test.YtaajhdkngiemlaaDoorFrdr
import Derived.Test.YtaajhdkngiemlaaDoorFrds
import Derived.Test.YtaajhdkngiemlaaDoorFrdt
import Derived.Test.YtaajhdkngiemlaaDoorFrdu
import Derived.Test.YtaajhdkngiemlaaDoorFrdx
set_option linter.unusedVariables false
set_option maxHeartbeats 4000000
set_option maxRecDepth 100000
namespace Go.Proofs.YtaajhdkngiemlaaDoor.frm
open Go Go.Ab
abbrev Ent := List Int × Int × Int × Int
def tab : List Ent := [([109, 111, 118, 98], 1, 1, 0),
  ([109, 111, 118, 108], 1, 4, 0),
  ([109, 111, 118, 113], 1, 8, 0),
  ([108, 101, 97, 108], 2, 4, 0),
  ([108, 101, 97, 113], 2, 8, 0),
  ([97, 100, 100, 98], 3, 1, 0),
  ([97, 100, 100, 108], 3, 4, 0),
  ([97, 100, 100, 113], 3, 8, 0),
  ([111, 114, 98], 4, 1, 0),
  ([111, 114, 108], 4, 4, 0),
  ([111, 114, 113], 4, 8, 0),
  ([97, 100, 99, 98], 5, 1, 0),
  ([97, 100, 99, 108], 5, 4, 0),
  ([97, 100, 99, 113], 5, 8, 0),
  ([115, 98, 98, 98], 6, 1, 0),
  ([115, 98, 98, 108], 6, 4, 0),
  ([115, 98, 98, 113], 6, 8, 0),
  ([97, 110, 100, 98], 7, 1, 0),
  ([97, 110, 100, 108], 7, 4, 0),
  ([97, 110, 100, 113], 7, 8, 0),
  ([115, 117, 98, 98], 8, 1, 0),
  ([115, 117, 98, 108], 8, 4, 0),
  ([115, 117, 98, 113], 8, 8, 0),
  ([120, 111, 114, 98], 9, 1, 0),
  ([120, 111, 114, 108], 9, 4, 0),
  ([120, 111, 114, 113], 9, 8, 0),
  ([99, 109, 112, 98], 10, 1, 0),
  ([99, 109, 112, 108], 10, 4, 0),
  ([99, 109, 112, 113], 10, 8, 0),
  ([116, 101, 115, 116, 98], 11, 1, 0),
  ([116, 101, 115, 116, 108], 11, 4, 0),
  ([116, 101, 115, 116, 113], 11, 8, 0),
  ([105, 109, 117, 108, 108], 12, 4, 0),
  ([105, 109, 117, 108, 113], 12, 8, 0),
  ([110, 101, 103, 98], 13, 1, 0),
  ([110, 101, 103, 108], 13, 4, 0),
  ([110, 101, 103, 113], 13, 8, 0),
  ([110, 111, 116, 98], 14, 1, 0),
  ([110, 111, 116, 108], 14, 4, 0),
  ([110, 111, 116, 113], 14, 8, 0),
  ([105, 110, 99, 98], 15, 1, 0),
  ([105, 110, 99, 108], 15, 4, 0),
  ([105, 110, 99, 113], 15, 8, 0),
  ([100, 101, 99, 98], 16, 1, 0),
  ([100, 101, 99, 108], 16, 4, 0),
  ([100, 101, 99, 113], 16, 8, 0),
  ([115, 104, 108, 98], 17, 1, 0),
  ([115, 104, 108, 108], 17, 4, 0),
  ([115, 104, 108, 113], 17, 8, 0),
  ([115, 104, 114, 98], 18, 1, 0),
  ([115, 104, 114, 108], 18, 4, 0),
  ([115, 104, 114, 113], 18, 8, 0),
  ([115, 97, 114, 98], 19, 1, 0),
  ([115, 97, 114, 108], 19, 4, 0),
  ([115, 97, 114, 113], 19, 8, 0),
  ([112, 117, 115, 104, 113], 20, 8, 0),
  ([112, 111, 112, 113], 21, 8, 0),
  ([99, 97, 108, 108], 22, 8, 0),
  ([106, 109, 112], 23, 8, 0),
  ([106, 111], 24, 8, 0),
  ([106, 110, 111], 24, 8, 1),
  ([106, 98], 24, 8, 2),
  ([106, 97, 101], 24, 8, 3),
  ([106, 101], 24, 8, 4),
  ([106, 110, 101], 24, 8, 5),
  ([106, 98, 101], 24, 8, 6),
  ([106, 97], 24, 8, 7),
  ([106, 115], 24, 8, 8),
  ([106, 110, 115], 24, 8, 9),
  ([106, 112], 24, 8, 10),
  ([106, 110, 112], 24, 8, 11),
  ([106, 108], 24, 8, 12),
  ([106, 103, 101], 24, 8, 13),
  ([106, 108, 101], 24, 8, 14),
  ([106, 103], 24, 8, 15),
  ([114, 101, 116], 25, 0, 0),
  ([108, 101, 97, 118, 101], 26, 0, 0),
  ([115, 101, 116, 111], 27, 1, 0),
  ([115, 101, 116, 110, 111], 27, 1, 1),
  ([115, 101, 116, 98], 27, 1, 2),
  ([115, 101, 116, 97, 101], 27, 1, 3),
  ([115, 101, 116, 101], 27, 1, 4),
  ([115, 101, 116, 110, 101], 27, 1, 5),
  ([115, 101, 116, 98, 101], 27, 1, 6),
  ([115, 101, 116, 97], 27, 1, 7),
  ([115, 101, 116, 115], 27, 1, 8),
  ([115, 101, 116, 110, 115], 27, 1, 9),
  ([115, 101, 116, 112], 27, 1, 10),
  ([115, 101, 116, 110, 112], 27, 1, 11),
  ([115, 101, 116, 108], 27, 1, 12),
  ([115, 101, 116, 103, 101], 27, 1, 13),
  ([115, 101, 116, 108, 101], 27, 1, 14),
  ([115, 101, 116, 103], 27, 1, 15),
  ([99, 109, 111, 118, 111, 108], 28, 4, 0),
  ([99, 109, 111, 118, 110, 111, 108], 28, 4, 1),
  ([99, 109, 111, 118, 98, 108], 28, 4, 2),
  ([99, 109, 111, 118, 97, 101, 108], 28, 4, 3),
  ([99, 109, 111, 118, 101, 108], 28, 4, 4),
  ([99, 109, 111, 118, 110, 101, 108], 28, 4, 5),
  ([99, 109, 111, 118, 98, 101, 108], 28, 4, 6),
  ([99, 109, 111, 118, 97, 108], 28, 4, 7),
  ([99, 109, 111, 118, 115, 108], 28, 4, 8),
  ([99, 109, 111, 118, 110, 115, 108], 28, 4, 9),
  ([99, 109, 111, 118, 112, 108], 28, 4, 10),
  ([99, 109, 111, 118, 110, 112, 108], 28, 4, 11),
  ([99, 109, 111, 118, 108, 108], 28, 4, 12),
  ([99, 109, 111, 118, 103, 101, 108], 28, 4, 13),
  ([99, 109, 111, 118, 108, 101, 108], 28, 4, 14),
  ([99, 109, 111, 118, 103, 108], 28, 4, 15),
  ([99, 109, 111, 118, 111, 113], 28, 8, 0),
  ([99, 109, 111, 118, 110, 111, 113], 28, 8, 1),
  ([99, 109, 111, 118, 98, 113], 28, 8, 2),
  ([99, 109, 111, 118, 97, 101, 113], 28, 8, 3),
  ([99, 109, 111, 118, 101, 113], 28, 8, 4),
  ([99, 109, 111, 118, 110, 101, 113], 28, 8, 5),
  ([99, 109, 111, 118, 98, 101, 113], 28, 8, 6),
  ([99, 109, 111, 118, 97, 113], 28, 8, 7),
  ([99, 109, 111, 118, 115, 113], 28, 8, 8),
  ([99, 109, 111, 118, 110, 115, 113], 28, 8, 9),
  ([99, 109, 111, 118, 112, 113], 28, 8, 10),
  ([99, 109, 111, 118, 110, 112, 113], 28, 8, 11),
  ([99, 109, 111, 118, 108, 113], 28, 8, 12),
  ([99, 109, 111, 118, 103, 101, 113], 28, 8, 13),
  ([99, 109, 111, 118, 108, 101, 113], 28, 8, 14),
  ([99, 109, 111, 118, 103, 113], 28, 8, 15),
  ([109, 111, 118, 122, 98, 108], 29, 4, 0),
  ([109, 111, 118, 122, 98, 113], 29, 8, 0),
  ([109, 111, 118, 115, 98, 108], 30, 4, 0),
  ([109, 111, 118, 115, 98, 113], 30, 8, 0),
  ([120, 99, 104, 103, 108], 31, 4, 0),
  ([120, 99, 104, 103, 113], 31, 8, 0),
  ([99, 113, 116, 111], 32, 0, 0),
  ([110, 111, 112], 33, 0, 0),
  ([117, 100, 50], 34, 0, 0),
  ([115, 121, 115, 99, 97, 108, 108], 35, 0, 0)]
def getT : List Ent → List Int → Int × Int × Int × Bool
  | [], _ => (0, 0, 0, false)
  | e :: es, w => bif w == e.1 then (e.2.1, e.2.2.1, e.2.2.2, true) else getT es w
def toE (e : Ent) : V × V := (.S e.1, .agg [.I .i64 e.2.1, .I .i64 e.2.2.1, .I .i64 e.2.2.2])
def tupT (x : Int × Int × Int × Bool) : V := .tup [.I .i64 x.1, .I .i64 x.2.1, .I .i64 x.2.2.1, .B x.2.2.2]
theorem look_of {w : List Int} {K : V → Mem → Prop} : ∀ {es : List Ent}, K (tupT (getT es w)) [] → lookK (fun v b => K (resV v b) []) (.S w) (.agg [.I .i64 0, .I .i64 0, .I .i64 0]) (es.map toE)
  | [], h => h
  | e :: es, h => by
    simp only [List.map_cons, lookK, toE, sameV]
    unfold getT at h
    cases hb : w == e.1 with
    | true => rw [hb] at h; exact h
    | false => rw [hb] at h; exact look_of h
def headB (c : Int) (e : Ent) : Bool := match e.1 with | [] => false | x :: _ => x == c
theorem getT_head {c : Int} {r : List Int} : ∀ {es : List Ent}, getT (es.filter (headB c)) (c :: r) = getT es (c :: r)
  | [] => rfl
  | e :: es => by
    obtain ⟨k, o⟩ := e
    cases hb : headB c (k, o) with
    | true =>
      rw [List.filter_cons_of_pos (by rw [hb])]
      simp only [getT, getT_head]
    | false =>
      rw [List.filter_cons_of_neg (by rw [hb]; simp)]
      have hne : ((c :: r) == k) = false := by
        cases k with
        | nil => rfl
        | cons x k' =>
          rw [beq_eq_false_iff_ne]
          intro hh
          injection hh with h1 _
          subst h1
          simp [headB] at hb
      rw [getT_head]
      show _ = cond _ _ _
      simp only [hne, cond_false]
theorem getT_no {w : List Int} (h : noL w = true) : ∀ {es : List Ent}, es.all (fun e => match e.1 with | [] => false | x :: _ => lettersL.contains x) = true → getT es w = (0, 0, 0, false)
  | [], _ => rfl
  | e :: es, ha => by
    rw [List.all_cons, Bool.and_eq_true] at ha
    obtain ⟨h1, h2⟩ := ha
    unfold getT
    have hne : (w == e.1) = false := by
      rw [beq_eq_false_iff_ne]
      intro hh
      subst hh
      split at h1
      · cases h1
      · rename_i x l hx
        have hm : x ∈ lettersL := by simpa using h1
        have := List.all_eq_true.1 h x hm
        rw [hx] at this
        simp [hasI] at this
    rw [hne]
    exact getT_no h h2
theorem tab_letters : tab.all (fun e => match e.1 with | [] => false | x :: _ => lettersL.contains x) = true := by kernel_rfl
theorem tab_a : esF_a = (tab.filter (headB 97)).map toE := by kernel_rfl
theorem tab_c : esF_c = (tab.filter (headB 99)).map toE := by kernel_rfl
theorem tab_d : esF_d = (tab.filter (headB 100)).map toE := by kernel_rfl
theorem tab_i : esF_i = (tab.filter (headB 105)).map toE := by kernel_rfl
theorem tab_j : esF_j = (tab.filter (headB 106)).map toE := by kernel_rfl
theorem tab_l : esF_l = (tab.filter (headB 108)).map toE := by kernel_rfl
theorem tab_m : esF_m = (tab.filter (headB 109)).map toE := by kernel_rfl
theorem tab_n : esF_n = (tab.filter (headB 110)).map toE := by kernel_rfl
theorem tab_o : esF_o = (tab.filter (headB 111)).map toE := by kernel_rfl
theorem tab_p : esF_p = (tab.filter (headB 112)).map toE := by kernel_rfl
theorem tab_r : esF_r = (tab.filter (headB 114)).map toE := by kernel_rfl
theorem tab_s : esF_s = (tab.filter (headB 115)).map toE := by kernel_rfl
theorem tab_t : esF_t = (tab.filter (headB 116)).map toE := by kernel_rfl
theorem tab_u : esF_u = (tab.filter (headB 117)).map toE := by kernel_rfl
theorem tab_x : esF_x = (tab.filter (headB 120)).map toE := by kernel_rfl
theorem at14 : Tryd.prog.funcs[14]? = some (fnOf Tryd.prog 14) := by kernel_rfl
theorem H14_a {r : List Int} {E : Wh} {w' : World} {cargs : Array Value} {K : V → Mem → Prop} (hS : Sim E [] w') (ha : VsRel E [.S (97 :: r)] cargs.toList) (h : K (tupT (getT tab (97 :: r))) []) :
    ((∃ fn, Tryd.prog.funcs[14]? = some fn ∧ fn.body.isSome = true) ∧ Calls Tryd.prog 14 cargs w' (Ret K E [] w')) ∨ ∃ cv w1, (callFunc 14 cargs).run Tryd.prog w' = .ok (.value cv) w1 ∧ Ret K E [] w' (.returned cv) w1 :=
  cbody_use named Ci_ok at14 (l := 0) rfl (LoopsOk.none _ _) (find_a r K) hS ha (by rw [tab_a]; exact look_of (by rw [getT_head]; exact h))
theorem H14_c {r : List Int} {E : Wh} {w' : World} {cargs : Array Value} {K : V → Mem → Prop} (hS : Sim E [] w') (ha : VsRel E [.S (99 :: r)] cargs.toList) (h : K (tupT (getT tab (99 :: r))) []) :
    ((∃ fn, Tryd.prog.funcs[14]? = some fn ∧ fn.body.isSome = true) ∧ Calls Tryd.prog 14 cargs w' (Ret K E [] w')) ∨ ∃ cv w1, (callFunc 14 cargs).run Tryd.prog w' = .ok (.value cv) w1 ∧ Ret K E [] w' (.returned cv) w1 :=
  cbody_use named Ci_ok at14 (l := 0) rfl (LoopsOk.none _ _) (find_c r K) hS ha (by rw [tab_c]; exact look_of (by rw [getT_head]; exact h))
theorem H14_d {r : List Int} {E : Wh} {w' : World} {cargs : Array Value} {K : V → Mem → Prop} (hS : Sim E [] w') (ha : VsRel E [.S (100 :: r)] cargs.toList) (h : K (tupT (getT tab (100 :: r))) []) :
    ((∃ fn, Tryd.prog.funcs[14]? = some fn ∧ fn.body.isSome = true) ∧ Calls Tryd.prog 14 cargs w' (Ret K E [] w')) ∨ ∃ cv w1, (callFunc 14 cargs).run Tryd.prog w' = .ok (.value cv) w1 ∧ Ret K E [] w' (.returned cv) w1 :=
  cbody_use named Ci_ok at14 (l := 0) rfl (LoopsOk.none _ _) (find_d r K) hS ha (by rw [tab_d]; exact look_of (by rw [getT_head]; exact h))
theorem H14_i {r : List Int} {E : Wh} {w' : World} {cargs : Array Value} {K : V → Mem → Prop} (hS : Sim E [] w') (ha : VsRel E [.S (105 :: r)] cargs.toList) (h : K (tupT (getT tab (105 :: r))) []) :
    ((∃ fn, Tryd.prog.funcs[14]? = some fn ∧ fn.body.isSome = true) ∧ Calls Tryd.prog 14 cargs w' (Ret K E [] w')) ∨ ∃ cv w1, (callFunc 14 cargs).run Tryd.prog w' = .ok (.value cv) w1 ∧ Ret K E [] w' (.returned cv) w1 :=
  cbody_use named Ci_ok at14 (l := 0) rfl (LoopsOk.none _ _) (find_i r K) hS ha (by rw [tab_i]; exact look_of (by rw [getT_head]; exact h))
theorem H14_j {r : List Int} {E : Wh} {w' : World} {cargs : Array Value} {K : V → Mem → Prop} (hS : Sim E [] w') (ha : VsRel E [.S (106 :: r)] cargs.toList) (h : K (tupT (getT tab (106 :: r))) []) :
    ((∃ fn, Tryd.prog.funcs[14]? = some fn ∧ fn.body.isSome = true) ∧ Calls Tryd.prog 14 cargs w' (Ret K E [] w')) ∨ ∃ cv w1, (callFunc 14 cargs).run Tryd.prog w' = .ok (.value cv) w1 ∧ Ret K E [] w' (.returned cv) w1 :=
  cbody_use named Ci_ok at14 (l := 0) rfl (LoopsOk.none _ _) (find_j r K) hS ha (by rw [tab_j]; exact look_of (by rw [getT_head]; exact h))
theorem H14_l {r : List Int} {E : Wh} {w' : World} {cargs : Array Value} {K : V → Mem → Prop} (hS : Sim E [] w') (ha : VsRel E [.S (108 :: r)] cargs.toList) (h : K (tupT (getT tab (108 :: r))) []) :
    ((∃ fn, Tryd.prog.funcs[14]? = some fn ∧ fn.body.isSome = true) ∧ Calls Tryd.prog 14 cargs w' (Ret K E [] w')) ∨ ∃ cv w1, (callFunc 14 cargs).run Tryd.prog w' = .ok (.value cv) w1 ∧ Ret K E [] w' (.returned cv) w1 :=
  cbody_use named Ci_ok at14 (l := 0) rfl (LoopsOk.none _ _) (find_l r K) hS ha (by rw [tab_l]; exact look_of (by rw [getT_head]; exact h))
theorem H14_m {r : List Int} {E : Wh} {w' : World} {cargs : Array Value} {K : V → Mem → Prop} (hS : Sim E [] w') (ha : VsRel E [.S (109 :: r)] cargs.toList) (h : K (tupT (getT tab (109 :: r))) []) :
    ((∃ fn, Tryd.prog.funcs[14]? = some fn ∧ fn.body.isSome = true) ∧ Calls Tryd.prog 14 cargs w' (Ret K E [] w')) ∨ ∃ cv w1, (callFunc 14 cargs).run Tryd.prog w' = .ok (.value cv) w1 ∧ Ret K E [] w' (.returned cv) w1 :=
  cbody_use named Ci_ok at14 (l := 0) rfl (LoopsOk.none _ _) (find_m r K) hS ha (by rw [tab_m]; exact look_of (by rw [getT_head]; exact h))
theorem H14_n {r : List Int} {E : Wh} {w' : World} {cargs : Array Value} {K : V → Mem → Prop} (hS : Sim E [] w') (ha : VsRel E [.S (110 :: r)] cargs.toList) (h : K (tupT (getT tab (110 :: r))) []) :
    ((∃ fn, Tryd.prog.funcs[14]? = some fn ∧ fn.body.isSome = true) ∧ Calls Tryd.prog 14 cargs w' (Ret K E [] w')) ∨ ∃ cv w1, (callFunc 14 cargs).run Tryd.prog w' = .ok (.value cv) w1 ∧ Ret K E [] w' (.returned cv) w1 :=
  cbody_use named Ci_ok at14 (l := 0) rfl (LoopsOk.none _ _) (find_n r K) hS ha (by rw [tab_n]; exact look_of (by rw [getT_head]; exact h))
theorem H14_o {r : List Int} {E : Wh} {w' : World} {cargs : Array Value} {K : V → Mem → Prop} (hS : Sim E [] w') (ha : VsRel E [.S (111 :: r)] cargs.toList) (h : K (tupT (getT tab (111 :: r))) []) :
    ((∃ fn, Tryd.prog.funcs[14]? = some fn ∧ fn.body.isSome = true) ∧ Calls Tryd.prog 14 cargs w' (Ret K E [] w')) ∨ ∃ cv w1, (callFunc 14 cargs).run Tryd.prog w' = .ok (.value cv) w1 ∧ Ret K E [] w' (.returned cv) w1 :=
  cbody_use named Ci_ok at14 (l := 0) rfl (LoopsOk.none _ _) (find_o r K) hS ha (by rw [tab_o]; exact look_of (by rw [getT_head]; exact h))
theorem H14_p {r : List Int} {E : Wh} {w' : World} {cargs : Array Value} {K : V → Mem → Prop} (hS : Sim E [] w') (ha : VsRel E [.S (112 :: r)] cargs.toList) (h : K (tupT (getT tab (112 :: r))) []) :
    ((∃ fn, Tryd.prog.funcs[14]? = some fn ∧ fn.body.isSome = true) ∧ Calls Tryd.prog 14 cargs w' (Ret K E [] w')) ∨ ∃ cv w1, (callFunc 14 cargs).run Tryd.prog w' = .ok (.value cv) w1 ∧ Ret K E [] w' (.returned cv) w1 :=
  cbody_use named Ci_ok at14 (l := 0) rfl (LoopsOk.none _ _) (find_p r K) hS ha (by rw [tab_p]; exact look_of (by rw [getT_head]; exact h))
theorem H14_r {r : List Int} {E : Wh} {w' : World} {cargs : Array Value} {K : V → Mem → Prop} (hS : Sim E [] w') (ha : VsRel E [.S (114 :: r)] cargs.toList) (h : K (tupT (getT tab (114 :: r))) []) :
    ((∃ fn, Tryd.prog.funcs[14]? = some fn ∧ fn.body.isSome = true) ∧ Calls Tryd.prog 14 cargs w' (Ret K E [] w')) ∨ ∃ cv w1, (callFunc 14 cargs).run Tryd.prog w' = .ok (.value cv) w1 ∧ Ret K E [] w' (.returned cv) w1 :=
  cbody_use named Ci_ok at14 (l := 0) rfl (LoopsOk.none _ _) (find_r r K) hS ha (by rw [tab_r]; exact look_of (by rw [getT_head]; exact h))
theorem H14_s {r : List Int} {E : Wh} {w' : World} {cargs : Array Value} {K : V → Mem → Prop} (hS : Sim E [] w') (ha : VsRel E [.S (115 :: r)] cargs.toList) (h : K (tupT (getT tab (115 :: r))) []) :
    ((∃ fn, Tryd.prog.funcs[14]? = some fn ∧ fn.body.isSome = true) ∧ Calls Tryd.prog 14 cargs w' (Ret K E [] w')) ∨ ∃ cv w1, (callFunc 14 cargs).run Tryd.prog w' = .ok (.value cv) w1 ∧ Ret K E [] w' (.returned cv) w1 :=
  cbody_use named Ci_ok at14 (l := 0) rfl (LoopsOk.none _ _) (find_s r K) hS ha (by rw [tab_s]; exact look_of (by rw [getT_head]; exact h))
theorem H14_t {r : List Int} {E : Wh} {w' : World} {cargs : Array Value} {K : V → Mem → Prop} (hS : Sim E [] w') (ha : VsRel E [.S (116 :: r)] cargs.toList) (h : K (tupT (getT tab (116 :: r))) []) :
    ((∃ fn, Tryd.prog.funcs[14]? = some fn ∧ fn.body.isSome = true) ∧ Calls Tryd.prog 14 cargs w' (Ret K E [] w')) ∨ ∃ cv w1, (callFunc 14 cargs).run Tryd.prog w' = .ok (.value cv) w1 ∧ Ret K E [] w' (.returned cv) w1 :=
  cbody_use named Ci_ok at14 (l := 0) rfl (LoopsOk.none _ _) (find_t r K) hS ha (by rw [tab_t]; exact look_of (by rw [getT_head]; exact h))
theorem H14_u {r : List Int} {E : Wh} {w' : World} {cargs : Array Value} {K : V → Mem → Prop} (hS : Sim E [] w') (ha : VsRel E [.S (117 :: r)] cargs.toList) (h : K (tupT (getT tab (117 :: r))) []) :
    ((∃ fn, Tryd.prog.funcs[14]? = some fn ∧ fn.body.isSome = true) ∧ Calls Tryd.prog 14 cargs w' (Ret K E [] w')) ∨ ∃ cv w1, (callFunc 14 cargs).run Tryd.prog w' = .ok (.value cv) w1 ∧ Ret K E [] w' (.returned cv) w1 :=
  cbody_use named Ci_ok at14 (l := 0) rfl (LoopsOk.none _ _) (find_u r K) hS ha (by rw [tab_u]; exact look_of (by rw [getT_head]; exact h))
theorem H14_x {r : List Int} {E : Wh} {w' : World} {cargs : Array Value} {K : V → Mem → Prop} (hS : Sim E [] w') (ha : VsRel E [.S (120 :: r)] cargs.toList) (h : K (tupT (getT tab (120 :: r))) []) :
    ((∃ fn, Tryd.prog.funcs[14]? = some fn ∧ fn.body.isSome = true) ∧ Calls Tryd.prog 14 cargs w' (Ret K E [] w')) ∨ ∃ cv w1, (callFunc 14 cargs).run Tryd.prog w' = .ok (.value cv) w1 ∧ Ret K E [] w' (.returned cv) w1 :=
  cbody_use named Ci_ok at14 (l := 0) rfl (LoopsOk.none _ _) (find_x r K) hS ha (by rw [tab_x]; exact look_of (by rw [getT_head]; exact h))
theorem H14_no {w : List Int} {E : Wh} {w' : World} {cargs : Array Value} {K : V → Mem → Prop} (hS : Sim E [] w') (ha : VsRel E [.S w] cargs.toList) (hn : noL w = true) (h : K (tupT (getT tab w)) []) :
    ((∃ fn, Tryd.prog.funcs[14]? = some fn ∧ fn.body.isSome = true) ∧ Calls Tryd.prog 14 cargs w' (Ret K E [] w')) ∨ ∃ cv w1, (callFunc 14 cargs).run Tryd.prog w' = .ok (.value cv) w1 ∧ Ret K E [] w' (.returned cv) w1 :=
  cbody_use named Cn_ok at14 (l := 0) rfl (LoopsOk.none _ _) (find_no w K) hS ha (nest_of hn (by rw [getT_no hn tab_letters] at h; exact h) 135)
theorem H14 (w : List Int) {E : Wh} {w' : World} {cargs : Array Value} {K : V → Mem → Prop} (hS : Sim E [] w') (ha : VsRel E [.S w] cargs.toList) (h : K (tupT (getT tab w)) []) :
    ((∃ fn, Tryd.prog.funcs[14]? = some fn ∧ fn.body.isSome = true) ∧ Calls Tryd.prog 14 cargs w' (Ret K E [] w')) ∨ ∃ cv w1, (callFunc 14 cargs).run Tryd.prog w' = .ok (.value cv) w1 ∧ Ret K E [] w' (.returned cv) w1 := by
  cases hn : noL w with
  | true => exact H14_no hS ha hn h
  | false =>
    obtain ⟨c, hc, hh⟩ := List.all_eq_false.1 hn
    have hw : ∃ r, w = c :: r := by
      have h1 : hasI w [c] = true := by simpa using hh
      unfold hasI at h1
      obtain ⟨r, hr⟩ := List.isPrefixOf_iff_prefix.1 h1
      exact ⟨r, by simpa using hr.symm⟩
    obtain ⟨r, rfl⟩ := hw
    simp only [lettersL, List.mem_cons, List.not_mem_nil, or_false] at hc
    rcases hc with rfl | rfl | rfl | rfl | rfl | rfl | rfl | rfl | rfl | rfl | rfl | rfl | rfl | rfl | rfl
    · exact H14_a hS ha h
    · exact H14_c hS ha h
    · exact H14_d hS ha h
    · exact H14_i hS ha h
    · exact H14_j hS ha h
    · exact H14_l hS ha h
    · exact H14_m hS ha h
    · exact H14_n hS ha h
    · exact H14_o hS ha h
    · exact H14_p hS ha h
    · exact H14_r hS ha h
    · exact H14_s hS ha h
    · exact H14_t hS ha h
    · exact H14_u hS ha h
    · exact H14_x hS ha h
def P14 : Prim := fun args m K =>
  let F := False
  (seeCons args F fun a1 q2 => (seeS a1 F fun w => (seeNil q2 F (seeNil m F (K (tupT (getT tab w)) [])))))
theorem P14_ok : PrimOk Tryd.prog 14 P14 := by
  intro args m K E w cargs hS ha h
  unfold P14 at h
  dsimp only at h
  replace h := seeCons_use h
  rcases h with h | ⟨a1, q2, rfl, h⟩
  · exact h.elim
  replace h := seeS_use h
  rcases h with h | ⟨w, rfl, h⟩
  · exact h.elim
  replace h := seeNil_use h
  rcases h with h | ⟨rfl, h⟩
  · exact h.elim
  replace h := seeNil_use h
  rcases h with h | ⟨rfl, h⟩
  · exact h.elim
  exact H14 w hS ha h
end Go.Proofs.YtaajhdkngiemlaaDoor.frm
