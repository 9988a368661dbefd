import Derived.Test.YtnndiicpiolddaaCodes1
set_option linter.unusedVariables false
namespace Go.Proofs.Ytnndiicpiolddaa.codes
open Go Go.Ab
def formA (nm : List Int) (k : Bool → Prop) : Prop := (bif (decide ((((List.length nm) : Nat) : Int) < (1 : Int))) then (bif (nm == ([] : List Int)) then (k true) else (bif (decide ((((List.length nm) : Nat) : Int) > (255 : Int))) then (k true) else (k false))) else (bif (decide ((((List.length nm) : Nat) : Int) > (255 : Int))) then (bif (nm == ([] : List Int)) then (k true) else (bif (decide ((((List.length nm) : Nat) : Int) > (255 : Int))) then (k true) else (k false))) else (bif ((nm == nm) && true) then (bif (nm == ([] : List Int)) then (k false) else (bif (decide ((((List.length nm) : Nat) : Int) > (255 : Int))) then (k false) else (bif (!(nm == nm)) then (k false) else (k true)))) else False)))
theorem formA_true (nm : List Int) : formA nm (fun b => b = true) := by
  unfold formA
  cases nm with
  | nil => rfl
  | cons x l =>
    have h1 : decide ((((x :: l).length : Nat) : Int) < 1) = false := by simp; omega
    have h2 : ((x :: l) == ([] : List Int)) = false := rfl
    have h3 : ((x :: l) == (x :: l)) = true := by simp
    rw [h1, h2, h3]
    cases decide ((((x :: l).length : Nat) : Int) > 255) <;> rfl
theorem at_1_0 (nm : List Int) (k : Bool → Prop) : G3 1 0 nm k = formA nm k := by kernel_rfl
theorem at_1_1 (nm : List Int) (k : Bool → Prop) : G3 1 1 nm k = k true := by kernel_rfl
theorem at_1_2 (nm : List Int) (k : Bool → Prop) : G3 1 2 nm k = k true := by kernel_rfl
theorem at_1_3 (nm : List Int) (k : Bool → Prop) : G3 1 3 nm k = k true := by kernel_rfl
theorem at_1_4 (nm : List Int) (k : Bool → Prop) : G3 1 4 nm k = k true := by kernel_rfl
theorem at_1_5 (nm : List Int) (k : Bool → Prop) : G3 1 5 nm k = k true := by kernel_rfl
theorem at_1_6 (nm : List Int) (k : Bool → Prop) : G3 1 6 nm k = k true := by kernel_rfl
theorem at_1_7 (nm : List Int) (k : Bool → Prop) : G3 1 7 nm k = k true := by kernel_rfl
theorem at_1_8 (nm : List Int) (k : Bool → Prop) : G3 1 8 nm k = k true := by kernel_rfl
theorem at_1_9 (nm : List Int) (k : Bool → Prop) : G3 1 9 nm k = k true := by kernel_rfl
theorem at_1_10 (nm : List Int) (k : Bool → Prop) : G3 1 10 nm k = k true := by kernel_rfl
theorem at_1_11 (nm : List Int) (k : Bool → Prop) : G3 1 11 nm k = k true := by kernel_rfl
theorem at_1_12 (nm : List Int) (k : Bool → Prop) : G3 1 12 nm k = k true := by kernel_rfl
theorem at_1_13 (nm : List Int) (k : Bool → Prop) : G3 1 13 nm k = k true := by kernel_rfl
theorem at_1_14 (nm : List Int) (k : Bool → Prop) : G3 1 14 nm k = k true := by kernel_rfl
theorem at_1_15 (nm : List Int) (k : Bool → Prop) : G3 1 15 nm k = k true := by kernel_rfl
theorem at_2_0 (nm : List Int) (k : Bool → Prop) : G3 2 0 nm k = formA nm k := by kernel_rfl
theorem at_2_1 (nm : List Int) (k : Bool → Prop) : G3 2 1 nm k = k true := by kernel_rfl
theorem at_2_2 (nm : List Int) (k : Bool → Prop) : G3 2 2 nm k = k true := by kernel_rfl
theorem at_2_3 (nm : List Int) (k : Bool → Prop) : G3 2 3 nm k = k true := by kernel_rfl
theorem at_2_4 (nm : List Int) (k : Bool → Prop) : G3 2 4 nm k = k true := by kernel_rfl
theorem at_2_5 (nm : List Int) (k : Bool → Prop) : G3 2 5 nm k = k true := by kernel_rfl
theorem at_2_6 (nm : List Int) (k : Bool → Prop) : G3 2 6 nm k = k true := by kernel_rfl
theorem at_2_7 (nm : List Int) (k : Bool → Prop) : G3 2 7 nm k = k true := by kernel_rfl
theorem at_2_8 (nm : List Int) (k : Bool → Prop) : G3 2 8 nm k = k true := by kernel_rfl
theorem at_2_9 (nm : List Int) (k : Bool → Prop) : G3 2 9 nm k = k true := by kernel_rfl
theorem at_2_10 (nm : List Int) (k : Bool → Prop) : G3 2 10 nm k = k true := by kernel_rfl
theorem at_2_11 (nm : List Int) (k : Bool → Prop) : G3 2 11 nm k = k true := by kernel_rfl
theorem at_2_12 (nm : List Int) (k : Bool → Prop) : G3 2 12 nm k = k true := by kernel_rfl
theorem at_2_13 (nm : List Int) (k : Bool → Prop) : G3 2 13 nm k = k true := by kernel_rfl
theorem at_2_14 (nm : List Int) (k : Bool → Prop) : G3 2 14 nm k = k true := by kernel_rfl
theorem at_2_15 (nm : List Int) (k : Bool → Prop) : G3 2 15 nm k = k true := by kernel_rfl
theorem at_3_0 (nm : List Int) (k : Bool → Prop) : G3 3 0 nm k = formA nm k := by kernel_rfl
theorem at_3_1 (nm : List Int) (k : Bool → Prop) : G3 3 1 nm k = formA nm k := by kernel_rfl
theorem at_3_2 (nm : List Int) (k : Bool → Prop) : G3 3 2 nm k = formA nm k := by kernel_rfl
theorem at_3_3 (nm : List Int) (k : Bool → Prop) : G3 3 3 nm k = formA nm k := by kernel_rfl
theorem at_3_4 (nm : List Int) (k : Bool → Prop) : G3 3 4 nm k = formA nm k := by kernel_rfl
theorem at_3_5 (nm : List Int) (k : Bool → Prop) : G3 3 5 nm k = formA nm k := by kernel_rfl
theorem at_3_6 (nm : List Int) (k : Bool → Prop) : G3 3 6 nm k = formA nm k := by kernel_rfl
theorem at_3_7 (nm : List Int) (k : Bool → Prop) : G3 3 7 nm k = formA nm k := by kernel_rfl
theorem at_3_8 (nm : List Int) (k : Bool → Prop) : G3 3 8 nm k = formA nm k := by kernel_rfl
theorem at_3_9 (nm : List Int) (k : Bool → Prop) : G3 3 9 nm k = formA nm k := by kernel_rfl
theorem at_3_10 (nm : List Int) (k : Bool → Prop) : G3 3 10 nm k = formA nm k := by kernel_rfl
theorem at_3_11 (nm : List Int) (k : Bool → Prop) : G3 3 11 nm k = formA nm k := by kernel_rfl
theorem at_3_12 (nm : List Int) (k : Bool → Prop) : G3 3 12 nm k = formA nm k := by kernel_rfl
theorem at_3_13 (nm : List Int) (k : Bool → Prop) : G3 3 13 nm k = formA nm k := by kernel_rfl
theorem at_3_14 (nm : List Int) (k : Bool → Prop) : G3 3 14 nm k = formA nm k := by kernel_rfl
theorem at_3_15 (nm : List Int) (k : Bool → Prop) : G3 3 15 nm k = formA nm k := by kernel_rfl
theorem at_4_0 (nm : List Int) (k : Bool → Prop) : G3 4 0 nm k = formA nm k := by kernel_rfl
theorem at_4_1 (nm : List Int) (k : Bool → Prop) : G3 4 1 nm k = formA nm k := by kernel_rfl
theorem at_4_2 (nm : List Int) (k : Bool → Prop) : G3 4 2 nm k = formA nm k := by kernel_rfl
theorem at_4_3 (nm : List Int) (k : Bool → Prop) : G3 4 3 nm k = formA nm k := by kernel_rfl
theorem at_4_4 (nm : List Int) (k : Bool → Prop) : G3 4 4 nm k = formA nm k := by kernel_rfl
theorem at_4_5 (nm : List Int) (k : Bool → Prop) : G3 4 5 nm k = formA nm k := by kernel_rfl
theorem at_4_6 (nm : List Int) (k : Bool → Prop) : G3 4 6 nm k = formA nm k := by kernel_rfl
theorem at_4_7 (nm : List Int) (k : Bool → Prop) : G3 4 7 nm k = formA nm k := by kernel_rfl
theorem at_4_8 (nm : List Int) (k : Bool → Prop) : G3 4 8 nm k = formA nm k := by kernel_rfl
theorem at_4_9 (nm : List Int) (k : Bool → Prop) : G3 4 9 nm k = formA nm k := by kernel_rfl
theorem at_4_10 (nm : List Int) (k : Bool → Prop) : G3 4 10 nm k = formA nm k := by kernel_rfl
theorem at_4_11 (nm : List Int) (k : Bool → Prop) : G3 4 11 nm k = formA nm k := by kernel_rfl
theorem at_4_12 (nm : List Int) (k : Bool → Prop) : G3 4 12 nm k = formA nm k := by kernel_rfl
theorem at_4_13 (nm : List Int) (k : Bool → Prop) : G3 4 13 nm k = formA nm k := by kernel_rfl
theorem at_4_14 (nm : List Int) (k : Bool → Prop) : G3 4 14 nm k = formA nm k := by kernel_rfl
theorem at_4_15 (nm : List Int) (k : Bool → Prop) : G3 4 15 nm k = formA nm k := by kernel_rfl
theorem out11a (md reg : Int) (nm : List Int)  (h : md < 1) {k1 k2 k3} : G11 md reg nm k1 k2 k3 = k1 1 := by
  unfold G11 F11
  rw [show (decide (md < (1 : Int))) = true from decide_eq_true h]
  rfl
theorem out11b (md reg : Int) (nm : List Int) (h0 : ¬ md < 1) (h : md > 4) {k1 k2 k3} : G11 md reg nm k1 k2 k3 = k1 1 := by
  unfold G11 F11
  rw [show (decide (md < (1 : Int))) = false from decide_eq_false h0, show (decide (md > (4 : Int))) = true from decide_eq_true h]
  rfl
theorem out11c (md reg : Int) (nm : List Int) (h0 : ¬ md < 1) (h1 : ¬ md > 4) (h : reg < 0) {k1 k2 k3} : G11 md reg nm k1 k2 k3 = k1 1 := by
  unfold G11 F11
  rw [show (decide (md < (1 : Int))) = false from decide_eq_false h0, show (decide (md > (4 : Int))) = false from decide_eq_false h1, show (decide (reg < (0 : Int))) = true from decide_eq_true h]
  rfl
theorem out11d (md reg : Int) (nm : List Int) (h0 : ¬ md < 1) (h1 : ¬ md > 4) (h2 : ¬ reg < 0) (h : reg > 15) {k1 k2 k3} : G11 md reg nm k1 k2 k3 = k1 1 := by
  unfold G11 F11
  rw [show (decide (md < (1 : Int))) = false from decide_eq_false h0, show (decide (md > (4 : Int))) = false from decide_eq_false h1, show (decide (reg < (0 : Int))) = false from decide_eq_false h2, show (decide (reg > (15 : Int))) = true from decide_eq_true h]
  rfl
theorem out12a (md reg : Int) (nm : List Int)  (h : md < 1) {k1 k2 k3} : G12 md reg nm k1 k2 k3 = k1 1 := by
  unfold G12 F12
  rw [show (decide (md < (1 : Int))) = true from decide_eq_true h]
  rfl
theorem out12b (md reg : Int) (nm : List Int) (h0 : ¬ md < 1) (h : md > 4) {k1 k2 k3} : G12 md reg nm k1 k2 k3 = k1 1 := by
  unfold G12 F12
  rw [show (decide (md < (1 : Int))) = false from decide_eq_false h0, show (decide (md > (4 : Int))) = true from decide_eq_true h]
  rfl
theorem out12c (md reg : Int) (nm : List Int) (h0 : ¬ md < 1) (h1 : ¬ md > 4) (h : reg < 0) {k1 k2 k3} : G12 md reg nm k1 k2 k3 = k1 1 := by
  unfold G12 F12
  rw [show (decide (md < (1 : Int))) = false from decide_eq_false h0, show (decide (md > (4 : Int))) = false from decide_eq_false h1, show (decide (reg < (0 : Int))) = true from decide_eq_true h]
  rfl
theorem out12d (md reg : Int) (nm : List Int) (h0 : ¬ md < 1) (h1 : ¬ md > 4) (h2 : ¬ reg < 0) (h : reg > 15) {k1 k2 k3} : G12 md reg nm k1 k2 k3 = k1 1 := by
  unfold G12 F12
  rw [show (decide (md < (1 : Int))) = false from decide_eq_false h0, show (decide (md > (4 : Int))) = false from decide_eq_false h1, show (decide (reg < (0 : Int))) = false from decide_eq_false h2, show (decide (reg > (15 : Int))) = true from decide_eq_true h]
  rfl
theorem G3_true (md reg : Int) (nm : List Int) : G3 md reg nm (fun b => b = true) := by
  have fin : (G13 1 fun n3 => (bif (n3 != 1) then (false = true) else (G14 fun b4 => b4 = true))) = (true = true) := by kernel_rfl
  by_cases ha : md < 1
  · unfold G3 F3; rw [out11a _ _ _ ha, out12a _ _ _ ha]; exact Eq.mpr fin rfl
  by_cases hb : md > 4
  · unfold G3 F3; rw [out11b _ _ _ ha hb, out12b _ _ _ ha hb]; exact Eq.mpr fin rfl
  by_cases hc : reg < 0
  · unfold G3 F3; rw [out11c _ _ _ ha hb hc, out12c _ _ _ ha hb hc]; exact Eq.mpr fin rfl
  by_cases hd : reg > 15
  · unfold G3 F3; rw [out11d _ _ _ ha hb hc hd, out12d _ _ _ ha hb hc hd]; exact Eq.mpr fin rfl
  have h1 : md = 1 ∨ md = 2 ∨ md = 3 ∨ md = 4 := by omega
  have h2 : reg = 0 ∨ reg = 1 ∨ reg = 2 ∨ reg = 3 ∨ reg = 4 ∨ reg = 5 ∨ reg = 6 ∨ reg = 7 ∨ reg = 8 ∨ reg = 9 ∨ reg = 10 ∨ reg = 11 ∨ reg = 12 ∨ reg = 13 ∨ reg = 14 ∨ reg = 15 := by omega
  rcases h1 with rfl | rfl | rfl | rfl
  · rcases h2 with rfl | rfl | rfl | rfl | rfl | rfl | rfl | rfl | rfl | rfl | rfl | rfl | rfl | rfl | rfl | rfl
    · rw [at_1_0]; exact formA_true nm
    · rw [at_1_1]
    · rw [at_1_2]
    · rw [at_1_3]
    · rw [at_1_4]
    · rw [at_1_5]
    · rw [at_1_6]
    · rw [at_1_7]
    · rw [at_1_8]
    · rw [at_1_9]
    · rw [at_1_10]
    · rw [at_1_11]
    · rw [at_1_12]
    · rw [at_1_13]
    · rw [at_1_14]
    · rw [at_1_15]
  · rcases h2 with rfl | rfl | rfl | rfl | rfl | rfl | rfl | rfl | rfl | rfl | rfl | rfl | rfl | rfl | rfl | rfl
    · rw [at_2_0]; exact formA_true nm
    · rw [at_2_1]
    · rw [at_2_2]
    · rw [at_2_3]
    · rw [at_2_4]
    · rw [at_2_5]
    · rw [at_2_6]
    · rw [at_2_7]
    · rw [at_2_8]
    · rw [at_2_9]
    · rw [at_2_10]
    · rw [at_2_11]
    · rw [at_2_12]
    · rw [at_2_13]
    · rw [at_2_14]
    · rw [at_2_15]
  · rcases h2 with rfl | rfl | rfl | rfl | rfl | rfl | rfl | rfl | rfl | rfl | rfl | rfl | rfl | rfl | rfl | rfl
    · rw [at_3_0]; exact formA_true nm
    · rw [at_3_1]; exact formA_true nm
    · rw [at_3_2]; exact formA_true nm
    · rw [at_3_3]; exact formA_true nm
    · rw [at_3_4]; exact formA_true nm
    · rw [at_3_5]; exact formA_true nm
    · rw [at_3_6]; exact formA_true nm
    · rw [at_3_7]; exact formA_true nm
    · rw [at_3_8]; exact formA_true nm
    · rw [at_3_9]; exact formA_true nm
    · rw [at_3_10]; exact formA_true nm
    · rw [at_3_11]; exact formA_true nm
    · rw [at_3_12]; exact formA_true nm
    · rw [at_3_13]; exact formA_true nm
    · rw [at_3_14]; exact formA_true nm
    · rw [at_3_15]; exact formA_true nm
  · rcases h2 with rfl | rfl | rfl | rfl | rfl | rfl | rfl | rfl | rfl | rfl | rfl | rfl | rfl | rfl | rfl | rfl
    · rw [at_4_0]; exact formA_true nm
    · rw [at_4_1]; exact formA_true nm
    · rw [at_4_2]; exact formA_true nm
    · rw [at_4_3]; exact formA_true nm
    · rw [at_4_4]; exact formA_true nm
    · rw [at_4_5]; exact formA_true nm
    · rw [at_4_6]; exact formA_true nm
    · rw [at_4_7]; exact formA_true nm
    · rw [at_4_8]; exact formA_true nm
    · rw [at_4_9]; exact formA_true nm
    · rw [at_4_10]; exact formA_true nm
    · rw [at_4_11]; exact formA_true nm
    · rw [at_4_12]; exact formA_true nm
    · rw [at_4_13]; exact formA_true nm
    · rw [at_4_14]; exact formA_true nm
    · rw [at_4_15]; exact formA_true nm
end Go.Proofs.Ytnndiicpiolddaa.codes
