import Derived.Test.YtaajhdkngiemlaaDoorFrm1
set_option linter.unusedVariables false
set_option linter.unusedSimpArgs false
set_option maxHeartbeats 4000000
set_option maxRecDepth 100000
namespace Go.Proofs.YtaajhdkngiemlaaDoor.frm
open Go Go.Ab
def resV (v : V) (b : Bool) : V := match v with | .agg [x, y, z] => .tup [x, y, z, .B b] | _ => .undef
def hasI (w p : List Int) : Bool := p.isPrefixOf w
theorem at64 : Tryd.prog.funcs[64]? = some (fnOf Tryd.prog 64) := by kernel_rfl
def F64  (w p : List Int) (k1 : Bool → Prop) (k2 : Prop) : Prop :=
  (bif (decide ((((List.length w) : Nat) : Int) ≥ (((List.length p) : Nat) : Int))) then (bif ((decide ((0 : Int) ≤ (((List.length p) : Nat) : Int))) && (decide ((Int.toNat (((List.length p) : Nat) : Int)) ≤ (List.length w)))) then (k1 ((List.take (Int.toNat (((List.length p) : Nat) : Int)) w) == p)) else False) else k2)
theorem F64_ok  (w p : List Int) (K : V → Mem → Prop) : cbody Tryd.prog C0 (fun _ => none) 1000 (fnOf Tryd.prog 64) [(.S w), (.S p)] [] K =
    F64  w p (fun (u0 : Bool) => K (.B u0) []) (K (.B false) []) := by kernel_rfl
def G64 := F64 
set_option maxHeartbeats 4000000 in
theorem h64 (w p : List Int)  (k : Bool → Prop) (h : k (hasI w p)) : G64 w p (fun (u0 : Bool) => k u0) (k false) := by
  unfold G64 F64
  refine cond_ind (fun c1 => ?_) (fun c1 => ?_)
  · refine cond_ind (fun c2 => ?_) (fun c2 => ?_)
    · refine Eq.mp (congrArg k ?_) h
      unfold hasI
      rw [Bool.eq_iff_iff, List.isPrefixOf_iff_prefix, List.prefix_iff_eq_take, beq_iff_eq, Int.toNat_natCast]
      exact eq_comm
    · exfalso
      simp at c1 c2
      omega
  · refine Eq.mp (congrArg k ?_) h
    unfold hasI
    rw [Bool.eq_false_iff]
    intro hh
    have := (List.isPrefixOf_iff_prefix.1 hh).length_le
    simp at c1
    omega
theorem H64 (w p : List Int) {E : Wh} {w' : World} {cargs : Array Value} {K : V → Mem → Prop} (hS : Sim E [] w') (ha : VsRel E [(.S w), (.S p)] cargs.toList) (h : K (.B (hasI w p)) []) :
    ((∃ fn, Tryd.prog.funcs[64]? = some fn ∧ fn.body.isSome = true) ∧ Calls Tryd.prog 64 cargs w' (Ret K E [] w')) ∨ ∃ cv w1, (callFunc 64 cargs).run Tryd.prog w' = .ok (.value cv) w1 ∧ Ret K E [] w' (.returned cv) w1 :=
  cbody_use named C0_ok at64 (l := 0) rfl (LoopsOk.none _ _) (F64_ok  w p K) hS ha (h64 w p  (fun u => K (.B u) []) h)

def P64 : Prim := fun args m K =>
  let F := False
  (seeCons args F fun a1 q2 => (seeS a1 F fun w => (seeCons q2 F fun a3 q4 => (seeS a3 F fun p => (seeNil q4 F (seeNil m F (K (.B (hasI w p)) [])))))))
set_option maxRecDepth 100000 in
theorem P64_ok : PrimOk Tryd.prog 64 P64 := by
  intro args m K E w cargs hS ha h
  unfold P64 at h
  dsimp only at h
  replace h := seeCons_use h
  rcases h with h | ⟨a1, q2, rfl, h⟩
  · exact h.elim
  replace h := seeS_use h
  rcases h with h | ⟨w, rfl, h⟩
  · exact h.elim
  replace h := seeCons_use h
  rcases h with h | ⟨a3, q4, rfl, h⟩
  · exact h.elim
  replace h := seeS_use h
  rcases h with h | ⟨p, rfl, h⟩
  · exact h.elim
  replace h := seeNil_use h
  rcases h with h | ⟨rfl, h⟩
  · exact h.elim
  replace h := seeNil_use h
  rcases h with h | ⟨rfl, h⟩
  · exact h.elim
  exact H64 w p hS ha h
def primsh : Prims := fun f =>
  match Nat.beq f 64 with
  | true => some P64
  | false => prims0 f
theorem primsh_ok : PrimsOk Tryd.prog primsh := by
  intro f g hg
  unfold primsh at hg
  split at hg
  · rename_i hf
    obtain rfl := Nat.eq_of_beq_eq_true hf
    cases hg
    exact P64_ok
  · skip
    exact prims0_ok f g hg
def Ch : CC := call Tryd.prog primsh 1000
theorem Ch_ok : CallsOk Tryd.prog Ch := call_sound named primsh_ok 1000

theorem at31 : Tryd.prog.funcs[31]? = some (fnOf Tryd.prog 31) := by kernel_rfl
def F31  (w p : List Int) (k1 : Bool → Prop) : Prop :=
  (k1 (hasI w p))
theorem F31_ok  (w p : List Int) (K : V → Mem → Prop) : cbody Tryd.prog Ch (fun _ => none) 1000 (fnOf Tryd.prog 31) [(.S w), (.S p)] [] K =
    F31  w p (fun (u0 : Bool) => K (.B u0) []) := by kernel_rfl
def G31 := F31 
set_option maxHeartbeats 4000000 in
theorem h31 (w p : List Int)  (k : Bool → Prop) (h : k (hasI w p)) : G31 w p (fun (u0 : Bool) => k u0) := by
  exact h
theorem H31 (w p : List Int) {E : Wh} {w' : World} {cargs : Array Value} {K : V → Mem → Prop} (hS : Sim E [] w') (ha : VsRel E [(.S w), (.S p)] cargs.toList) (h : K (.B (hasI w p)) []) :
    ((∃ fn, Tryd.prog.funcs[31]? = some fn ∧ fn.body.isSome = true) ∧ Calls Tryd.prog 31 cargs w' (Ret K E [] w')) ∨ ∃ cv w1, (callFunc 31 cargs).run Tryd.prog w' = .ok (.value cv) w1 ∧ Ret K E [] w' (.returned cv) w1 :=
  cbody_use named Ch_ok at31 (l := 0) rfl (LoopsOk.none _ _) (F31_ok  w p K) hS ha (h31 w p  (fun u => K (.B u) []) h)

def P31 : Prim := fun args m K =>
  let F := False
  (seeCons args F fun a1 q2 => (seeS a1 F fun w => (seeCons q2 F fun a3 q4 => (seeS a3 F fun p => (seeNil q4 F (seeNil m F (K (.B (hasI w p)) [])))))))
set_option maxRecDepth 100000 in
theorem P31_ok : PrimOk Tryd.prog 31 P31 := by
  intro args m K E w cargs hS ha h
  unfold P31 at h
  dsimp only at h
  replace h := seeCons_use h
  rcases h with h | ⟨a1, q2, rfl, h⟩
  · exact h.elim
  replace h := seeS_use h
  rcases h with h | ⟨w, rfl, h⟩
  · exact h.elim
  replace h := seeCons_use h
  rcases h with h | ⟨a3, q4, rfl, h⟩
  · exact h.elim
  replace h := seeS_use h
  rcases h with h | ⟨p, rfl, h⟩
  · exact h.elim
  replace h := seeNil_use h
  rcases h with h | ⟨rfl, h⟩
  · exact h.elim
  replace h := seeNil_use h
  rcases h with h | ⟨rfl, h⟩
  · exact h.elim
  exact H31 w p hS ha h
def primsi : Prims := fun f =>
  match Nat.beq f 31 with
  | true => some P31
  | false => primsh f
theorem primsi_ok : PrimsOk Tryd.prog primsi := by
  intro f g hg
  unfold primsi at hg
  split at hg
  · rename_i hf
    obtain rfl := Nat.eq_of_beq_eq_true hf
    cases hg
    exact P31_ok
  · skip
    exact primsh_ok f g hg
def Ci : CC := call Tryd.prog primsi 1000
theorem Ci_ok : CallsOk Tryd.prog Ci := call_sound named primsi_ok 1000

end Go.Proofs.YtaajhdkngiemlaaDoor.frm
