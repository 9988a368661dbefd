import Derived.Test.YtaajhdkngiemlaaDoorFrmR
set_option linter.unusedVariables false
set_option maxHeartbeats 4000000
set_option maxRecDepth 100000
namespace Go.Proofs.YtaajhdkngiemlaaDoor.frm
open Go Go.Ab
def lettersL : List Int := [97, 99, 100, 105, 106, 108, 109, 110, 111, 112, 114, 115, 116, 117, 120]
def noL (w : List Int) : Bool := lettersL.all fun c => !hasI w [c]
def isL (p : List Int) : Bool := match p with | [c] => lettersL.contains c | _ => false
theorem hasI_no {w p : List Int} (h1 : noL w = true) (h2 : isL p = true) : hasI w p = false := by
  unfold isL at h2
  split at h2
  · rename_i c
    have hm : c ∈ lettersL := by simpa using h2
    have := List.all_eq_true.1 h1 c hm
    simpa using this
  · cases h2
def P31n : Prim := fun args m K =>
  let F := False
  (seeCons args F fun a1 q2 => (seeS a1 F fun w => (seeCons q2 F fun a3 q4 => (seeS a3 F fun p => (seeNil q4 F (seeNil m F (noL w = true ∧ (isL p = true ∧ K (.B false) []))))))))
set_option maxRecDepth 100000 in
theorem P31n_ok : PrimOk Tryd.prog 31 P31n := by
  intro args m K E w cargs hS ha h
  unfold P31n at h
  dsimp only at h
  replace h := seeCons_use h
  rcases h with h | ⟨a1, q2, rfl, h⟩
  · exact h.elim
  replace h := seeS_use h
  rcases h with h | ⟨w, rfl, h⟩
  · exact h.elim
  replace h := seeCons_use h
  rcases h with h | ⟨a3, q4, rfl, h⟩
  · exact h.elim
  replace h := seeS_use h
  rcases h with h | ⟨p, rfl, h⟩
  · exact h.elim
  replace h := seeNil_use h
  rcases h with h | ⟨rfl, h⟩
  · exact h.elim
  replace h := seeNil_use h
  rcases h with h | ⟨rfl, h⟩
  · exact h.elim
  obtain ⟨h1, h2, h⟩ := h
  exact H31 w p hS ha (by rw [hasI_no h1 h2]; exact h)
def primsn : Prims := fun f =>
  match Nat.beq f 31 with
  | true => some P31n
  | false => primsh f
theorem primsn_ok : PrimsOk Tryd.prog primsn := by
  intro f g hg
  unfold primsn at hg
  split at hg
  · rename_i hf
    obtain rfl := Nat.eq_of_beq_eq_true hf
    cases hg
    exact P31n_ok
  · skip
    exact primsh_ok f g hg
def Cn : CC := call Tryd.prog primsn 1000
theorem Cn_ok : CallsOk Tryd.prog Cn := call_sound named primsn_ok 1000
def nest : Nat → Prop → Prop → Prop
  | 0, _, b => b
  | n + 1, a, b => a ∧ (true = true ∧ nest n a b)
theorem nest_of {a b : Prop} (ha : a) (hb : b) : ∀ n, nest n a b
  | 0 => hb
  | n + 1 => ⟨ha, rfl, nest_of ha hb n⟩
theorem find_no (w : List Int) (K : V → Mem → Prop) : cbody Tryd.prog Cn (fun _ => none) 1000 (fnOf Tryd.prog 14) [.S w] [] K = nest 135 (noL w = true) (K (.tup [.I .i64 0, .I .i64 0, .I .i64 0, .B false]) []) := by kernel_rfl
end Go.Proofs.YtaajhdkngiemlaaDoor.frm
