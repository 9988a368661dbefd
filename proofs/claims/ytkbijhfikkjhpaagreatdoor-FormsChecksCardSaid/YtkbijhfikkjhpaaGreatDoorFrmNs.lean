import Derived.Test.YtkbijhfikkjhpaaGreatDoorFrm1
set_option linter.unusedVariables false
set_option linter.unusedSimpArgs false
set_option maxHeartbeats 4000000
set_option maxRecDepth 100000
namespace Go.Proofs.YtkbijhfikkjhpaaGreatDoor.frm
open Go Go.Ab
def condT : List (List Int) := ([([(111 : Int)] : List Int), ([(110 : Int), (111 : Int)] : List Int), ([(98 : Int)] : List Int), ([(97 : Int), (101 : Int)] : List Int), ([(101 : Int)] : List Int), ([(110 : Int), (101 : Int)] : List Int), ([(98 : Int), (101 : Int)] : List Int), ([(97 : Int)] : List Int), ([(115 : Int)] : List Int), ([(110 : Int), (115 : Int)] : List Int), ([(112 : Int)] : List Int), ([(110 : Int), (112 : Int)] : List Int), ([(108 : Int)] : List Int), ([(103 : Int), (101 : Int)] : List Int), ([(108 : Int), (101 : Int)] : List Int), ([(103 : Int)] : List Int)] : List (List Int))
def nmO : List (List (List Int × Int × Int)) := [[],
  [([109, 111, 118, 98], 1, 0), ([109, 111, 118, 108], 4, 0), ([109, 111, 118, 113], 8, 0)],
  [([108, 101, 97, 108], 4, 0), ([108, 101, 97, 113], 8, 0)],
  [([97, 100, 100, 98], 1, 0), ([97, 100, 100, 108], 4, 0), ([97, 100, 100, 113], 8, 0)],
  [([111, 114, 98], 1, 0), ([111, 114, 108], 4, 0), ([111, 114, 113], 8, 0)],
  [([97, 100, 99, 98], 1, 0), ([97, 100, 99, 108], 4, 0), ([97, 100, 99, 113], 8, 0)],
  [([115, 98, 98, 98], 1, 0), ([115, 98, 98, 108], 4, 0), ([115, 98, 98, 113], 8, 0)],
  [([97, 110, 100, 98], 1, 0), ([97, 110, 100, 108], 4, 0), ([97, 110, 100, 113], 8, 0)],
  [([115, 117, 98, 98], 1, 0), ([115, 117, 98, 108], 4, 0), ([115, 117, 98, 113], 8, 0)],
  [([120, 111, 114, 98], 1, 0), ([120, 111, 114, 108], 4, 0), ([120, 111, 114, 113], 8, 0)],
  [([99, 109, 112, 98], 1, 0), ([99, 109, 112, 108], 4, 0), ([99, 109, 112, 113], 8, 0)],
  [([116, 101, 115, 116, 98], 1, 0), ([116, 101, 115, 116, 108], 4, 0), ([116, 101, 115, 116, 113], 8, 0)],
  [([105, 109, 117, 108, 108], 4, 0), ([105, 109, 117, 108, 113], 8, 0)],
  [([110, 101, 103, 98], 1, 0), ([110, 101, 103, 108], 4, 0), ([110, 101, 103, 113], 8, 0)],
  [([110, 111, 116, 98], 1, 0), ([110, 111, 116, 108], 4, 0), ([110, 111, 116, 113], 8, 0)],
  [([105, 110, 99, 98], 1, 0), ([105, 110, 99, 108], 4, 0), ([105, 110, 99, 113], 8, 0)],
  [([100, 101, 99, 98], 1, 0), ([100, 101, 99, 108], 4, 0), ([100, 101, 99, 113], 8, 0)],
  [([115, 104, 108, 98], 1, 0), ([115, 104, 108, 108], 4, 0), ([115, 104, 108, 113], 8, 0)],
  [([115, 104, 114, 98], 1, 0), ([115, 104, 114, 108], 4, 0), ([115, 104, 114, 113], 8, 0)],
  [([115, 97, 114, 98], 1, 0), ([115, 97, 114, 108], 4, 0), ([115, 97, 114, 113], 8, 0)],
  [([112, 117, 115, 104, 113], 8, 0)],
  [([112, 111, 112, 113], 8, 0)],
  [([99, 97, 108, 108], 8, 0)],
  [([106, 109, 112], 8, 0)],
  [([106, 111], 8, 0), ([106, 110, 111], 8, 1), ([106, 98], 8, 2), ([106, 97, 101], 8, 3), ([106, 101], 8, 4), ([106, 110, 101], 8, 5), ([106, 98, 101], 8, 6), ([106, 97], 8, 7), ([106, 115], 8, 8), ([106, 110, 115], 8, 9), ([106, 112], 8, 10), ([106, 110, 112], 8, 11), ([106, 108], 8, 12), ([106, 103, 101], 8, 13), ([106, 108, 101], 8, 14), ([106, 103], 8, 15)],
  [([114, 101, 116], 0, 0)],
  [([108, 101, 97, 118, 101], 0, 0)],
  [([115, 101, 116, 111], 1, 0), ([115, 101, 116, 110, 111], 1, 1), ([115, 101, 116, 98], 1, 2), ([115, 101, 116, 97, 101], 1, 3), ([115, 101, 116, 101], 1, 4), ([115, 101, 116, 110, 101], 1, 5), ([115, 101, 116, 98, 101], 1, 6), ([115, 101, 116, 97], 1, 7), ([115, 101, 116, 115], 1, 8), ([115, 101, 116, 110, 115], 1, 9), ([115, 101, 116, 112], 1, 10), ([115, 101, 116, 110, 112], 1, 11), ([115, 101, 116, 108], 1, 12), ([115, 101, 116, 103, 101], 1, 13), ([115, 101, 116, 108, 101], 1, 14), ([115, 101, 116, 103], 1, 15)],
  [([99, 109, 111, 118, 111, 108], 4, 0), ([99, 109, 111, 118, 110, 111, 108], 4, 1), ([99, 109, 111, 118, 98, 108], 4, 2), ([99, 109, 111, 118, 97, 101, 108], 4, 3), ([99, 109, 111, 118, 101, 108], 4, 4), ([99, 109, 111, 118, 110, 101, 108], 4, 5), ([99, 109, 111, 118, 98, 101, 108], 4, 6), ([99, 109, 111, 118, 97, 108], 4, 7), ([99, 109, 111, 118, 115, 108], 4, 8), ([99, 109, 111, 118, 110, 115, 108], 4, 9), ([99, 109, 111, 118, 112, 108], 4, 10), ([99, 109, 111, 118, 110, 112, 108], 4, 11), ([99, 109, 111, 118, 108, 108], 4, 12), ([99, 109, 111, 118, 103, 101, 108], 4, 13), ([99, 109, 111, 118, 108, 101, 108], 4, 14), ([99, 109, 111, 118, 103, 108], 4, 15), ([99, 109, 111, 118, 111, 113], 8, 0), ([99, 109, 111, 118, 110, 111, 113], 8, 1), ([99, 109, 111, 118, 98, 113], 8, 2), ([99, 109, 111, 118, 97, 101, 113], 8, 3), ([99, 109, 111, 118, 101, 113], 8, 4), ([99, 109, 111, 118, 110, 101, 113], 8, 5), ([99, 109, 111, 118, 98, 101, 113], 8, 6), ([99, 109, 111, 118, 97, 113], 8, 7), ([99, 109, 111, 118, 115, 113], 8, 8), ([99, 109, 111, 118, 110, 115, 113], 8, 9), ([99, 109, 111, 118, 112, 113], 8, 10), ([99, 109, 111, 118, 110, 112, 113], 8, 11), ([99, 109, 111, 118, 108, 113], 8, 12), ([99, 109, 111, 118, 103, 101, 113], 8, 13), ([99, 109, 111, 118, 108, 101, 113], 8, 14), ([99, 109, 111, 118, 103, 113], 8, 15)],
  [([109, 111, 118, 122, 98, 108], 4, 0), ([109, 111, 118, 122, 98, 113], 8, 0)],
  [([109, 111, 118, 115, 98, 108], 4, 0), ([109, 111, 118, 115, 98, 113], 8, 0)],
  [([120, 99, 104, 103, 108], 4, 0), ([120, 99, 104, 103, 113], 8, 0)],
  [([99, 113, 116, 111], 0, 0)],
  [([110, 111, 112], 0, 0)],
  [([117, 100, 50], 0, 0)],
  [([115, 121, 115, 99, 97, 108, 108], 0, 0)]]
def nmR : List (List Int × Int × Int) → Int → Int → List Int
  | [], _, _ => []
  | e :: es, s, c => bif s == e.2.1 && c == e.2.2 then e.1 else nmR es s c
def nameI (op s c : Int) : List Int := nmR (nmO.getD op.toNat []) s c
def rgO : List (List (List Int × Int)) := [[],
  [([97, 108], 1), ([101, 97, 120], 4), ([114, 97, 120], 8)],
  [([99, 108], 1), ([101, 99, 120], 4), ([114, 99, 120], 8)],
  [([100, 108], 1), ([101, 100, 120], 4), ([114, 100, 120], 8)],
  [([98, 108], 1), ([101, 98, 120], 4), ([114, 98, 120], 8)],
  [([115, 112, 108], 1), ([101, 115, 112], 4), ([114, 115, 112], 8)],
  [([98, 112, 108], 1), ([101, 98, 112], 4), ([114, 98, 112], 8)],
  [([115, 105, 108], 1), ([101, 115, 105], 4), ([114, 115, 105], 8)],
  [([100, 105, 108], 1), ([101, 100, 105], 4), ([114, 100, 105], 8)],
  [([114, 56, 98], 1), ([114, 56, 100], 4), ([114, 56], 8)],
  [([114, 57, 98], 1), ([114, 57, 100], 4), ([114, 57], 8)],
  [([114, 49, 48, 98], 1), ([114, 49, 48, 100], 4), ([114, 49, 48], 8)],
  [([114, 49, 49, 98], 1), ([114, 49, 49, 100], 4), ([114, 49, 49], 8)],
  [([114, 49, 50, 98], 1), ([114, 49, 50, 100], 4), ([114, 49, 50], 8)],
  [([114, 49, 51, 98], 1), ([114, 49, 51, 100], 4), ([114, 49, 51], 8)],
  [([114, 49, 52, 98], 1), ([114, 49, 52, 100], 4), ([114, 49, 52], 8)],
  [([114, 49, 53, 98], 1), ([114, 49, 53, 100], 4), ([114, 49, 53], 8)]]
def rgR : List (List Int × Int) → Int → List Int
  | [], _ => []
  | e :: es, s => bif s == e.2 then e.1 else rgR es s
def regI (r s : Int) : List Int := rgR (rgO.getD (r + 1).toNat []) s
theorem cd_cases (c : Int) : c < 0 ∨ 15 < c ∨ c = 0 ∨ c = 1 ∨ c = 2 ∨ c = 3 ∨ c = 4 ∨ c = 5 ∨ c = 6 ∨ c = 7 ∨ c = 8 ∨ c = 9 ∨ c = 10 ∨ c = 11 ∨ c = 12 ∨ c = 13 ∨ c = 14 ∨ c = 15 := by omega
theorem at18 : Tryz.prog.funcs[18]? = some (fnOf Tryz.prog 18) := by kernel_rfl
theorem at19 : Tryz.prog.funcs[19]? = some (fnOf Tryz.prog 19) := by kernel_rfl
theorem at20 : Tryz.prog.funcs[20]? = some (fnOf Tryz.prog 20) := by kernel_rfl
theorem at21 : Tryz.prog.funcs[21]? = some (fnOf Tryz.prog 21) := by kernel_rfl
end Go.Proofs.YtkbijhfikkjhpaaGreatDoor.frm
set_option linter.unusedVariables false
set_option linter.unusedSimpArgs false
set_option maxHeartbeats 4000000
set_option maxRecDepth 100000
namespace Go.Proofs.YtkbijhfikkjhpaaGreatDoor.frm
open Go Go.Ab
def primsz : Prims := fun f =>
  match Nat.beq f 17 with
  | true => some (fun _ _ _ => False)
  | false =>   match Nat.beq f 26 with
  | true => some (fun _ _ _ => False)
  | false =>   match Nat.beq f 74 with
  | true => some (fun _ _ _ => False)
  | false => prims0 f
theorem primsz_ok : PrimsOk Tryz.prog primsz := by
  intro f g hg
  unfold primsz at hg
  split at hg
  · cases hg
    intro args m K E w cargs hS ha h
    exact h.elim
  · skip
    split at hg
    · cases hg
      intro args m K E w cargs hS ha h
      exact h.elim
    · skip
      split at hg
      · cases hg
        intro args m K E w cargs hS ha h
        exact h.elim
      · skip
        exact prims0_ok f g hg
def Cz : CC := call Tryz.prog primsz 1000
theorem Cz_ok : CallsOk Tryz.prog Cz := call_sound named primsz_ok 1000
theorem nm_out {c : Int} (hc : ¬ (0 ≤ c ∧ c ≤ 15)) : ∀ {es : List (List Int × Int × Int)} {s : Int}, es.all (fun e => decide (0 ≤ e.2.2) && decide (e.2.2 ≤ 15)) = true → nmR es s c = []
  | [], _, _ => rfl
  | e :: es, s, h => by
    rw [List.all_cons, Bool.and_eq_true] at h
    obtain ⟨h1, h2⟩ := h
    simp only [Bool.and_eq_true, decide_eq_true_eq] at h1
    have : (s == e.2.1 && c == e.2.2) = false := by
      have : (c == e.2.2) = false := by rw [beq_eq_false_iff_ne]; intro hh; subst hh; exact hc h1
      rw [this, Bool.and_false]
    simp only [nmR, this, cond_false]
    exact nm_out hc h2
theorem nmO_all : nmO.all (fun es => es.all (fun e => decide (0 ≤ e.2.2) && decide (e.2.2 ≤ 15))) = true := by kernel_rfl
theorem nmO_len : nmO.length = 36 := by kernel_rfl
theorem nameI_out {op s c : Int} (h : op < 1 ∨ op > 35 ∨ c < 0 ∨ c > 15) : nameI op s c = [] := by
  unfold nameI
  have hall : ∀ j, (nmO.getD j []).all (fun e => decide (0 ≤ e.2.2) && decide (e.2.2 ≤ 15)) = true := by
    intro j
    rw [List.getD_eq_getElem?_getD]
    cases hj : nmO[j]? with
    | none => rfl
    | some es => exact List.all_eq_true.1 nmO_all es (List.mem_of_getElem? hj)
  rcases h with h | h | h | h
  · have : op.toNat = 0 := by omega
    rw [this]; rfl
  · have : nmO.getD op.toNat [] = [] := by
      rw [List.getD_eq_getElem?_getD, List.getElem?_eq_none (by rw [nmO_len]; omega)]; rfl
    rw [this]; rfl
  · exact nm_out (by omega) (hall _)
  · exact nm_out (by omega) (hall _)
theorem rgO_len : rgO.length = 17 := by kernel_rfl
theorem regI_out {r s : Int} (h : r < 0 ∨ r > 15) : regI r s = [] := by
  unfold regI
  rcases h with h | h
  · have : (r + 1).toNat = 0 := by omega
    rw [this]; rfl
  · have : rgO.getD (r + 1).toNat [] = [] := by
      rw [List.getD_eq_getElem?_getD, List.getElem?_eq_none (by rw [rgO_len]; omega)]; rfl
    rw [this]; rfl
theorem at10 : Tryz.prog.funcs[10]? = some (fnOf Tryz.prog 10) := by kernel_rfl
theorem at14 : Tryz.prog.funcs[14]? = some (fnOf Tryz.prog 14) := by kernel_rfl
theorem at25 : Tryz.prog.funcs[25]? = some (fnOf Tryz.prog 25) := by kernel_rfl
theorem at34 : Tryz.prog.funcs[34]? = some (fnOf Tryz.prog 34) := by kernel_rfl
end Go.Proofs.YtkbijhfikkjhpaaGreatDoor.frm
