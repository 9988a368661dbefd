import Derived.Test.YtaajhdkngiemlaaDoorFrmNm
set_option linter.unusedVariables false
set_option linter.unusedSimpArgs false
set_option maxHeartbeats 4000000
set_option maxRecDepth 100000
namespace Go.Proofs.YtaajhdkngiemlaaDoor.frm
open Go Go.Ab
def primsz : Prims := fun f =>
  match Nat.beq f 28 with
  | true => some (fun _ _ _ => False)
  | false =>   match Nat.beq f 36 with
  | true => some (fun _ _ _ => False)
  | false =>   match Nat.beq f 37 with
  | true => some (fun _ _ _ => False)
  | false => prims0 f
theorem primsz_ok : PrimsOk Tryd.prog primsz := by
  intro f g hg
  unfold primsz at hg
  split at hg
  · cases hg
    intro args m K E w cargs hS ha h
    exact h.elim
  · skip
    split at hg
    · cases hg
      intro args m K E w cargs hS ha h
      exact h.elim
    · skip
      split at hg
      · cases hg
        intro args m K E w cargs hS ha h
        exact h.elim
      · skip
        exact prims0_ok f g hg
def Cz : CC := call Tryd.prog primsz 1000
theorem Cz_ok : CallsOk Tryd.prog Cz := call_sound named primsz_ok 1000
theorem nm_out {c : Int} (hc : ¬ (0 ≤ c ∧ c ≤ 15)) : ∀ {es : List (List Int × Int × Int)} {s : Int}, es.all (fun e => decide (0 ≤ e.2.2) && decide (e.2.2 ≤ 15)) = true → nmR es s c = []
  | [], _, _ => rfl
  | e :: es, s, h => by
    rw [List.all_cons, Bool.and_eq_true] at h
    obtain ⟨h1, h2⟩ := h
    simp only [Bool.and_eq_true, decide_eq_true_eq] at h1
    have : (s == e.2.1 && c == e.2.2) = false := by
      have : (c == e.2.2) = false := by rw [beq_eq_false_iff_ne]; intro hh; subst hh; exact hc h1
      rw [this, Bool.and_false]
    simp only [nmR, this, cond_false]
    exact nm_out hc h2
theorem nmO_all : nmO.all (fun es => es.all (fun e => decide (0 ≤ e.2.2) && decide (e.2.2 ≤ 15))) = true := by kernel_rfl
theorem nmO_len : nmO.length = 36 := by kernel_rfl
theorem nameI_out {op s c : Int} (h : op < 1 ∨ op > 35 ∨ c < 0 ∨ c > 15) : nameI op s c = [] := by
  unfold nameI
  have hall : ∀ j, (nmO.getD j []).all (fun e => decide (0 ≤ e.2.2) && decide (e.2.2 ≤ 15)) = true := by
    intro j
    rw [List.getD_eq_getElem?_getD]
    cases hj : nmO[j]? with
    | none => rfl
    | some es => exact List.all_eq_true.1 nmO_all es (List.mem_of_getElem? hj)
  rcases h with h | h | h | h
  · have : op.toNat = 0 := by omega
    rw [this]; rfl
  · have : nmO.getD op.toNat [] = [] := by
      rw [List.getD_eq_getElem?_getD, List.getElem?_eq_none (by rw [nmO_len]; omega)]; rfl
    rw [this]; rfl
  · exact nm_out (by omega) (hall _)
  · exact nm_out (by omega) (hall _)
theorem rgO_len : rgO.length = 17 := by kernel_rfl
theorem regI_out {r s : Int} (h : r < 0 ∨ r > 15) : regI r s = [] := by
  unfold regI
  rcases h with h | h
  · have : (r + 1).toNat = 0 := by omega
    rw [this]; rfl
  · have : rgO.getD (r + 1).toNat [] = [] := by
      rw [List.getD_eq_getElem?_getD, List.getElem?_eq_none (by rw [rgO_len]; omega)]; rfl
    rw [this]; rfl
end Go.Proofs.YtaajhdkngiemlaaDoor.frm
