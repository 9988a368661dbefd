/- A law's call: what the evaluator says of a law gives what a row asks. -/
import Derived.Test.YtnndiicpiolddaaAbBody
import Derived.RowKit3
import Derived.ReadAgain
import Derived.ChangeOld
set_option linter.unusedVariables false
namespace Go.Ab
open Go

/-- What a law must come to: true, and nothing that was there has changed. -/
def Held (W : World) : Ending → World → Prop := fun e w' => e = .returned (.bool true) ∧ Go.RowKit.Grown W w' ∧ ∀ j, j < W.heap.size → w'.heap[j]? = W.heap[j]?
theorem Ret.held {E : Wh} {m : Mem} {W : World} (hro : ∀ b ∈ m, b.ro = true) {e : Ending} {w' : World} (h : Ret (fun v _ => v = .B true) E m W e w') : Held W e w' := by
  cases e with
  | panicked c => exact h.elim
  | outgrown => exact h.elim
  | returned c =>
    obtain ⟨v, m', E', rfl, hst, hv⟩ := h
    simp only [VRel] at hv
    have hold : ∀ j, j < W.heap.size → w'.heap[j]? = W.heap[j]? := fun j hj => hst.old j hj fun ⟨k, e, b, h1, h2, h3, _⟩ => by
      rw [hro b (List.mem_of_getElem? h2)] at h3
      cases h3
    refine ⟨by rw [hv], ⟨⟨hst.os, hst.output, fun i hi => ?_⟩, hst.froz, hst.size⟩, hold⟩
    rw [hold i hi]
    cases W.heap[i]? with
    | none => rfl
    | some o =>
      cases o with
      | cells c t fr => exact ⟨rfl, rfl, rfl, fun _ _ => rfl⟩
      | map es cl => exact .inr ⟨rfl, rfl⟩
      | _ => rfl
section
variable {H : Type} {enc : TypeId × Value → H} {P : Program} {W W' : World}
/-- What was read reads the same where nothing that was there has changed. -/
theorem trodAll_grown (hold : ∀ j, j < W.heap.size → W'.heap[j]? = W.heap[j]?) {base : Nat} {sp : Nat → Bool} {held : Bool} : ∀ {ts : List TypeId} {vs : List Value} {ds : List (DataW H)} {ps : List MemPlace},
    DataW.TrodAll enc P W base sp held ts vs ds ps → (∀ p ∈ ps, p.block < W.heap.size) → DataW.TrodAll enc P W' base sp held ts vs ds ps
  | [], [], [], _, h, _ => h
  | _ :: _, _ :: _, _ :: _, _, ⟨p, q, ⟨n, hn⟩, hs, e⟩, hl => by
    refine ⟨p, q, ⟨n, DataW.trod_carry n _ _ _ hn fun x hx => ?_⟩, trodAll_grown hold hs fun x hx => hl x (by rw [e]; exact List.mem_append_right _ hx), e⟩
    have hb := hold _ (hl x (by rw [e]; exact List.mem_append_left _ hx))
    cases x with
    | cell b off => exact World.cell?_of_block (w := W) hb
    | map b => exact hb
end
end Go.Ab
