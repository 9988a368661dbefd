import Derived.Test.YtnndiicpiolddaaLen6
set_option linter.unusedVariables false
set_option linter.unusedSimpArgs false
namespace Go.Proofs.Ytnndiicpiolddaa.tls
open Go Go.Ab
theorem getD_mid {ah F be : List Int} {i : Nat} (h : i < F.length) : ((ah ++ F) ++ be).getD (ah.length + i) 0 = F.getD i 0 := by
  rw [List.getD_eq_getElem?_getD, List.append_assoc, List.getElem?_append_right (by omega), List.getElem?_append_left (by omega), List.getD_eq_getElem?_getD]
  congr 2; omega
theorem relx_mid {ah F be v : List Int} {s : Nat} (h : F.length = s) : relx ((ah ++ F) ++ be) ah.length s v = (ah ++ v) ++ be := by
  unfold relx
  have e1 : List.take ah.length ((ah ++ F) ++ be) = ah := by rw [List.append_assoc, List.take_append_of_le_length (Nat.le_refl _), List.take_length]
  have e2 : List.drop (ah.length + s) ((ah ++ F) ++ be) = be := by
    rw [show ah.length + s = (ah ++ F).length by simp [h], List.drop_left]
  rw [e1, e2]
theorem relx_all {F v : List Int} {s : Nat} (h : F.length = s) : relx F 0 s v = v := by
  unfold relx
  rw [← h]
  simp
def chk (ah be F pl c : List Int) (k1 : Prop) (k2 : Bool → Prop) : Prop :=
  (bif (((((List.length c) - (0 : Nat)) : Nat) : Int) == ((((List.length ((ah ++ F) ++ be)) - (0 : Nat)) : Nat) : Int)) then (bif ((decide ((0 : Int) ≤ ((((List.length ah) - (0 : Nat)) : Nat) : Int))) && (decide ((Int.toNat ((((List.length ah) - (0 : Nat)) : Nat) : Int)) ≤ ((List.length c) - (0 : Nat))))) then (bif ((List.take (Int.toNat ((((List.length ah) - (0 : Nat)) : Nat) : Int)) c) == ah) then (bif ((decide ((0 : Int) ≤ (IntKind.wrap .i64 (((((List.length ah) - (0 : Nat)) : Nat) : Int) + ((((List.length F) - (0 : Nat)) : Nat) : Int))))) && ((decide ((Int.toNat (IntKind.wrap .i64 (((((List.length ah) - (0 : Nat)) : Nat) : Int) + ((((List.length F) - (0 : Nat)) : Nat) : Int)))) ≤ ((List.length c) - (0 : Nat)))) && ((decide ((0 : Int) ≤ ((((List.length ah) - (0 : Nat)) : Nat) : Int))) && (decide (((((List.length ah) - (0 : Nat)) : Nat) : Int) ≤ (IntKind.wrap .i64 (((((List.length ah) - (0 : Nat)) : Nat) : Int) + ((((List.length F) - (0 : Nat)) : Nat) : Int)))))))) then (bif ((List.take ((Int.toNat (IntKind.wrap .i64 (((((List.length ah) - (0 : Nat)) : Nat) : Int) + ((((List.length F) - (0 : Nat)) : Nat) : Int)))) - (Int.toNat ((((List.length ah) - (0 : Nat)) : Nat) : Int))) (List.drop (Int.toNat ((((List.length ah) - (0 : Nat)) : Nat) : Int)) c)) == pl) then (bif ((decide ((0 : Int) ≤ (IntKind.wrap .i64 (((((List.length ah) - (0 : Nat)) : Nat) : Int) + ((((List.length F) - (0 : Nat)) : Nat) : Int))))) && (decide ((Int.toNat (IntKind.wrap .i64 (((((List.length ah) - (0 : Nat)) : Nat) : Int) + ((((List.length F) - (0 : Nat)) : Nat) : Int)))) ≤ ((List.length c) - (0 : Nat))))) then (k2 ((List.drop (Int.toNat (IntKind.wrap .i64 (((((List.length ah) - (0 : Nat)) : Nat) : Int) + ((((List.length F) - (0 : Nat)) : Nat) : Int)))) c) == be)) else False) else (k1)) else False) else (k1)) else False) else (k1))
theorem chk_ok {ah be F v : List Int} {k1 : Prop} {k2 : Bool → Prop} (hl : F.length = v.length) (hv : v.length ≤ 100) (hn : ah.length + be.length ≤ 1048576) (h : k2 true) : chk ah be F v ((ah ++ v) ++ be) k1 k2 := by
  unfold chk
  have e0 : ((ah ++ v) ++ be).length = ((ah ++ F) ++ be).length := by simp [hl]
  have e1 : List.take ah.length ((ah ++ v) ++ be) = ah := by rw [List.append_assoc, List.take_append_of_le_length (Nat.le_refl _), List.take_length]
  have e2 : List.drop ah.length ((ah ++ v) ++ be) = v ++ be := by rw [List.append_assoc, List.drop_left]
  have e3 : List.drop (ah.length + F.length) ((ah ++ v) ++ be) = be := by
    rw [show ah.length + F.length = (ah ++ v).length by simp [hl], List.drop_left]
  have e4 : List.take F.length (v ++ be) = v := by rw [hl, List.take_append_of_le_length (Nat.le_refl _), List.take_length]
  have e5 : IntKind.wrap .i64 ((ah.length : Int) + (F.length : Int)) = ((ah.length + F.length : Nat) : Int) := by rw [wid (by omega) (by omega)]; omega
  have l1 : ((ah ++ v) ++ be).length = ah.length + F.length + be.length := by simp [hl]; omega
  simp only [Nat.sub_zero, e5, Int.toNat_natCast, Nat.add_sub_cancel_left, e1, e2, e3, e4, beq_self_eq_true, cond_true]
  rw [e0]
  simp only [beq_self_eq_true, cond_true]
  rw [← e0, l1]
  simp (disch := omega) only [dt, Bool.and_self, cond_true]
  exact h
def w16 : List Int := [102, 72, 141, 61, 0, 0, 0, 0, 102, 102, 72, 232, 0, 0, 0, 0]
def Fw16 (ho : Int) : List Int := [102, 72, 141, 61, (IntKind.wrap .u8 (Int.fdiv ho (2 ^ 0))), (IntKind.wrap .u8 (Int.fdiv ho (2 ^ 8))), (IntKind.wrap .u8 (Int.fdiv ho (2 ^ 16))), (IntKind.wrap .u8 (Int.fdiv ho (2 ^ 24))), 102, 102, 72, 232, (IntKind.wrap .u8 (Int.fdiv ho (2 ^ 0))), (IntKind.wrap .u8 (Int.fdiv ho (2 ^ 8))), (IntKind.wrap .u8 (Int.fdiv ho (2 ^ 16))), (IntKind.wrap .u8 (Int.fdiv ho (2 ^ 24)))]
theorem g11_1 (k1 : Prop) (k2 k3 : List Int → List Int → Prop) (k4 k5 : List Int → List Int → List Int → Prop) : G11 1 0 k1 k2 k3 k4 k5 = k5 w16 [120] [95, 95, 116, 108, 115, 95, 103, 101, 116, 95, 97, 100, 100, 114] := by kernel_rfl
theorem f16_mid {ah F be : List Int} (hl : F.length = 16) (hm : m16 F 0 = true) : f16 ((ah ++ F) ++ be).length ((ah ++ F) ++ be) ((ah.length : Int) + 4) = true := by
  have e : ∀ i, i < 16 → ((ah ++ F) ++ be).getD (ah.length + i) 0 = F.getD i 0 := fun i hi => getD_mid (by omega)
  have e0 := e 0 (by omega)
  rw [Nat.add_zero] at e0
  have hq : ((ah.length : Int) + 4 - 4).toNat = ah.length := by omega
  simp only [f16, hq]
  rw [dt (by simp; omega), Bool.true_and]
  simp (disch := omega) only [m16, e, e0, Nat.zero_add] at hm ⊢
  exact hm
def w12 : List Int := [72, 141, 61, 0, 0, 0, 0, 232, 0, 0, 0, 0]
def Fw12 (ho : Int) : List Int := [72, 141, 61, (IntKind.wrap .u8 (Int.fdiv ho (2 ^ 0))), (IntKind.wrap .u8 (Int.fdiv ho (2 ^ 8))), (IntKind.wrap .u8 (Int.fdiv ho (2 ^ 16))), (IntKind.wrap .u8 (Int.fdiv ho (2 ^ 24))), 232, (IntKind.wrap .u8 (Int.fdiv ho (2 ^ 0))), (IntKind.wrap .u8 (Int.fdiv ho (2 ^ 8))), (IntKind.wrap .u8 (Int.fdiv ho (2 ^ 16))), (IntKind.wrap .u8 (Int.fdiv ho (2 ^ 24)))]
theorem g11_2 (k1 : Prop) (k2 k3 : List Int → List Int → Prop) (k4 k5 : List Int → List Int → List Int → Prop) : G11 2 0 k1 k2 k3 k4 k5 = k4 w12 [120] [95, 95, 116, 108, 115, 95, 103, 101, 116, 95, 97, 100, 100, 114] := by kernel_rfl
theorem f12_mid {ah F be : List Int} (hl : F.length = 12) (hm : m12 F 0 = true) : f12 ((ah ++ F) ++ be).length ((ah ++ F) ++ be) ((ah.length : Int) + 3) = true := by
  have e : ∀ i, i < 12 → ((ah ++ F) ++ be).getD (ah.length + i) 0 = F.getD i 0 := fun i hi => getD_mid (by omega)
  have e0 := e 0 (by omega)
  rw [Nat.add_zero] at e0
  have hq : ((ah.length : Int) + 3 - 3).toNat = ah.length := by omega
  simp only [f12, hq]
  rw [dt (by simp; omega), Bool.true_and]
  simp (disch := omega) only [m12, e, e0, Nat.zero_add] at hm ⊢
  exact hm
theorem len_1 {ah be : List Int} {ho off : Int} {k1 : Prop} {k2 : Bool → Prop} {k3 : Prop} (hn : ah.length + be.length ≤ 1048576) (h2 : k2 true) (h3 : k3) :
    G13 0 (G14 (G15x 4 19 off w16 (A4_15 G13 G15x ho off ah be k1 k2 w16) (A4_16 G13 G15x ho off ah be k1 k2 w16) (A4_17 G13 G15x ho off ah be k2 k3 w16) (fun xs => A4_19 G13 G15x ho off ah be k1 k2 w16 xs))) := by
  have lW : w16.length = 16 := rfl
  have lF : (Fw16 ho).length = 16 := rfl
  have eF : (List.set (List.set (List.set (List.set (List.set (List.set (List.set (List.set w16 (4 : Nat) (IntKind.wrap .u8 (Int.fdiv ho (2 ^ 0)))) (5 : Nat) (IntKind.wrap .u8 (Int.fdiv ho (2 ^ 8)))) (6 : Nat) (IntKind.wrap .u8 (Int.fdiv ho (2 ^ 16)))) (7 : Nat) (IntKind.wrap .u8 (Int.fdiv ho (2 ^ 24)))) (12 : Nat) (IntKind.wrap .u8 (Int.fdiv ho (2 ^ 0)))) (13 : Nat) (IntKind.wrap .u8 (Int.fdiv ho (2 ^ 8)))) (14 : Nat) (IntKind.wrap .u8 (Int.fdiv ho (2 ^ 16)))) (15 : Nat) (IntKind.wrap .u8 (Int.fdiv ho (2 ^ 24)))) = Fw16 ho := rfl
  have hm : m16 (Fw16 ho) 0 = true := by rfl
  have hf0 : f16 w16.length w16 4 = true := by decide
  have hf := f16_mid (ah := ah) (be := be) lF hm
  have la : ((ah ++ Fw16 ho) ++ be).length = ah.length + 16 + be.length := by simp [lF]; omega
  refine g13 (g14 (g15x_19 (by rw [lW]; omega) (Nat.le_refl _) (by omega) (by omega) (fun h => by rw [hf0] at h; cases h) (fun _ hi => ?_) (fun q hq _ hi => ?_)))
  · unfold A4_17
    simp only [eF]
    simp (disch := omega) only [List.length_set, List.length_append, lF, lW, Nat.sub_zero, Nat.zero_add, wid, dt, cond_true, Bool.and_self]
    by_cases hb : 1048576 < ((ah ++ Fw16 ho) ++ be).length
    · refine g15x_big hb (g13 (g13 ?_))
      rw [la] at hb
      simp (disch := omega) only [dt]
      exact h2
    · refine g15x_19 (by omega) (Nat.le_refl _) (by omega) (by omega) (fun h => by rw [hf] at h; cases h) (fun _ _ => ?_) (fun _ _ _ hi' => absurd hi' hi)
      repeat (first | exact h3 | refine g13 ?_)
  · obtain rfl : q = 0 := by omega
    rw [relx_all lW]
    unfold A4_19
    simp only [eF]
    simp (disch := omega) only [List.length_set, List.length_append, lF, lW, Nat.sub_zero, Nat.zero_add, wid, dt, cond_true, Bool.and_self]
    by_cases hb : 1048576 < ((ah ++ Fw16 ho) ++ be).length
    · refine g15x_big hb (g13 (g13 ?_))
      rw [la] at hb
      simp (disch := omega) only [dt]
      exact h2
    · refine g15x_19 (by omega) (Nat.le_refl _) (by omega) (by omega) (fun h => by rw [hf] at h; cases h) (fun _ hi' => absurd hi hi') (fun q hq _ _ => ?_)
      obtain rfl : q = ah.length := by omega
      rw [relx_mid lF]
      refine g13 (g13 (g13 ?_))
      unfold A4_18
      simp only [eF]
      exact chk_ok (F := Fw16 ho) (v := (w19 off)) rfl (by simp [w19, w20, w22, le4]) hn h2
theorem len_2 {ah be : List Int} {ho off : Int} {k1 : Prop} {k2 : Bool → Prop} {k3 : Prop} (hn : ah.length + be.length ≤ 1048576) (h2 : k2 true) (h3 : k3) :
    G13 0 (G14 (G15x 3 20 off w12 (A4_10 G13 G15x ho off ah be k1 k2 w12) (A4_11 G13 G15x ho off ah be k1 k2 w12) (A4_12 G13 G15x ho off ah be k2 k3 w12) (fun xs => A4_14 G13 G15x ho off ah be k1 k2 w12 xs))) := by
  have lW : w12.length = 12 := rfl
  have lF : (Fw12 ho).length = 12 := rfl
  have eF : (List.set (List.set (List.set (List.set (List.set (List.set (List.set (List.set w12 (3 : Nat) (IntKind.wrap .u8 (Int.fdiv ho (2 ^ 0)))) (4 : Nat) (IntKind.wrap .u8 (Int.fdiv ho (2 ^ 8)))) (5 : Nat) (IntKind.wrap .u8 (Int.fdiv ho (2 ^ 16)))) (6 : Nat) (IntKind.wrap .u8 (Int.fdiv ho (2 ^ 24)))) (8 : Nat) (IntKind.wrap .u8 (Int.fdiv ho (2 ^ 0)))) (9 : Nat) (IntKind.wrap .u8 (Int.fdiv ho (2 ^ 8)))) (10 : Nat) (IntKind.wrap .u8 (Int.fdiv ho (2 ^ 16)))) (11 : Nat) (IntKind.wrap .u8 (Int.fdiv ho (2 ^ 24)))) = Fw12 ho := rfl
  have hm : m12 (Fw12 ho) 0 = true := by rfl
  have hf0 : f12 w12.length w12 3 = true := by decide
  have hf := f12_mid (ah := ah) (be := be) lF hm
  have la : ((ah ++ Fw12 ho) ++ be).length = ah.length + 12 + be.length := by simp [lF]; omega
  refine g13 (g14 (g15x_20 (by rw [lW]; omega) (Nat.le_refl _) (by omega) (by omega) (fun h => by rw [hf0] at h; cases h) (fun _ hi => ?_) (fun q hq _ hi => ?_)))
  · unfold A4_12
    simp only [eF]
    simp (disch := omega) only [List.length_set, List.length_append, lF, lW, Nat.sub_zero, Nat.zero_add, wid, dt, cond_true, Bool.and_self]
    by_cases hb : 1048576 < ((ah ++ Fw12 ho) ++ be).length
    · refine g15x_big hb (g13 (g13 ?_))
      rw [la] at hb
      simp (disch := omega) only [dt]
      exact h2
    · refine g15x_20 (by omega) (Nat.le_refl _) (by omega) (by omega) (fun h => by rw [hf] at h; cases h) (fun _ _ => ?_) (fun _ _ _ hi' => absurd hi' hi)
      repeat (first | exact h3 | refine g13 ?_)
  · obtain rfl : q = 0 := by omega
    rw [relx_all lW]
    unfold A4_14
    simp only [eF]
    simp (disch := omega) only [List.length_set, List.length_append, lF, lW, Nat.sub_zero, Nat.zero_add, wid, dt, cond_true, Bool.and_self]
    by_cases hb : 1048576 < ((ah ++ Fw12 ho) ++ be).length
    · refine g15x_big hb (g13 (g13 ?_))
      rw [la] at hb
      simp (disch := omega) only [dt]
      exact h2
    · refine g15x_20 (by omega) (Nat.le_refl _) (by omega) (by omega) (fun h => by rw [hf] at h; cases h) (fun _ hi' => absurd hi hi') (fun q hq _ _ => ?_)
      obtain rfl : q = ah.length := by omega
      rw [relx_mid lF]
      refine g13 (g13 (g13 ?_))
      unfold A4_13
      simp only [eF]
      exact chk_ok (F := Fw12 ho) (v := w20) rfl (by simp [w19, w20, w22, le4]) hn h2
def w7 (r : Nat) : List Int := [ra r, 139, rb r, 0, 0, 0, 0]
def Fw7 (r : Nat) (ho : Int) : List Int := [ra r, 139, rb r, (IntKind.wrap .u8 (Int.fdiv ho (2 ^ 0))), (IntKind.wrap .u8 (Int.fdiv ho (2 ^ 8))), (IntKind.wrap .u8 (Int.fdiv ho (2 ^ 16))), (IntKind.wrap .u8 (Int.fdiv ho (2 ^ 24)))]
theorem g11_3 (k1 : Prop) (k2 k3 : List Int → List Int → Prop) (k4 k5 : List Int → List Int → List Int → Prop) : ∀ r : Nat, r < 16 → G11 3 r k1 k2 k3 k4 k5 = k3 (w7 r) [120] := by
  intro r hr
  have : r = 0 ∨ r = 1 ∨ r = 2 ∨ r = 3 ∨ r = 4 ∨ r = 5 ∨ r = 6 ∨ r = 7 ∨ r = 8 ∨ r = 9 ∨ r = 10 ∨ r = 11 ∨ r = 12 ∨ r = 13 ∨ r = 14 ∨ r = 15 := by omega
  rcases this with rfl | rfl | rfl | rfl | rfl | rfl | rfl | rfl | rfl | rfl | rfl | rfl | rfl | rfl | rfl | rfl <;> (change _ = _; kernel_rfl)
theorem w7_inj : ∀ r s : Nat, r < 16 → s < 16 → ra r = ra s → rb r = rb s → r = s := by
  intro r s hr hs h1 h2
  unfold ra at h1; unfold rb at h2
  split at h1 <;> split at h1 <;> omega
theorem fr_mid {ah F be : List Int} {r : Nat} (hl : F.length = 7) (hm : m7 (ra r) (rb r) F 0 = true) : fr r ((ah ++ F) ++ be).length ((ah ++ F) ++ be) ((ah.length : Int) + 3) = true := by
  have e : ∀ i, i < 7 → ((ah ++ F) ++ be).getD (ah.length + i) 0 = F.getD i 0 := fun i hi => getD_mid (by omega)
  have e0 := e 0 (by omega)
  rw [Nat.add_zero] at e0
  have hq : ((ah.length : Int) + 3 - 3).toNat = ah.length := by omega
  simp only [fr, f7, hq]
  rw [dt (by simp; omega), Bool.true_and]
  simp (disch := omega) only [m7, e, e0, Nat.zero_add] at hm ⊢
  exact hm
theorem fr_only {ah F be : List Int} {r s : Nat} (hl : F.length = 7) (hr : r < 16) (hs : s < 16) (h0 : F.getD 0 0 = ra r) (h2 : F.getD 2 0 = rb r) (h : fr s ((ah ++ F) ++ be).length ((ah ++ F) ++ be) ((ah.length : Int) + 3) = true) : s = r := by
  have e : ∀ i, i < 7 → ((ah ++ F) ++ be).getD (ah.length + i) 0 = F.getD i 0 := fun i hi => getD_mid (by omega)
  have e0 := e 0 (by omega)
  rw [Nat.add_zero] at e0
  have hq : ((ah.length : Int) + 3 - 3).toNat = ah.length := by omega
  simp (disch := omega) only [fr, f7, hq, m7, e, e0, h0, h2, Bool.and_eq_true, beq_iff_eq] at h
  exact (w7_inj r s hr hs h.2.1 h.2.2.2).symm
theorem len_w7 {r : Nat} (hr : r < 16) {ah be : List Int} {ho off : Int} {k1 : Prop} {k2 : Bool → Prop} {k3 : Prop} (hn : ah.length + be.length ≤ 1048576) (h2 : k2 true) (h3 : k3) :
    G13 0 (G14 (G15x 3 22 off (w7 r) (A4_25 G13 G15x ho off ah be k1 k2 (w7 r)) (A4_26 G13 G15x ho off ah be k1 k2 (w7 r)) (A4_27 G13 G15x ho off ah be k2 k3 (w7 r)) (fun xs => A4_29 G13 G15x ho off ah be k1 k2 (w7 r) xs))) := by
  have lW : (w7 r).length = 7 := rfl
  have lF : (Fw7 r ho).length = 7 := rfl
  have eF : (List.set (List.set (List.set (List.set (w7 r) (3 : Nat) (IntKind.wrap .u8 (Int.fdiv ho (2 ^ 0)))) (4 : Nat) (IntKind.wrap .u8 (Int.fdiv ho (2 ^ 8)))) (5 : Nat) (IntKind.wrap .u8 (Int.fdiv ho (2 ^ 16)))) (6 : Nat) (IntKind.wrap .u8 (Int.fdiv ho (2 ^ 24)))) = Fw7 r ho := rfl
  have hm : m7 (ra r) (rb r) (Fw7 r ho) 0 = true := by simp [m7, Fw7]
  have hmw : m7 (ra r) (rb r) (w7 r) 0 = true := by simp [m7, w7]
  have hf0 : fr r (w7 r).length (w7 r) 3 = true := by
    have := fr_mid (ah := []) (be := []) (F := w7 r) lW hmw
    simpa using this
  have only0 : ∀ s, s < 16 → fr s (w7 r).length (w7 r) 3 = true → s = r := fun s hs h => fr_only (ah := []) (be := []) (F := w7 r) lW hr hs rfl rfl (by simpa using h)
  have hf := fr_mid (ah := ah) (be := be) lF hm
  have only : ∀ s, s < 16 → fr s ((ah ++ Fw7 r ho) ++ be).length ((ah ++ Fw7 r ho) ++ be) ((ah.length : Int) + 3) = true → s = r := fun s hs h => fr_only lF hr hs rfl rfl h
  have la : ((ah ++ Fw7 r ho) ++ be).length = ah.length + 7 + be.length := by simp [lF]; omega
  refine g13 (g14 (g15x_22 (by rw [lW]; omega) (Nat.le_refl _) (by omega) (by omega) (fun h => by rw [h r hr] at hf0; cases hf0) (fun _ _ _ hi => ?_) (fun q s hq hs hs1 _ hi => ?_)))
  · unfold A4_27
    simp only [eF]
    simp (disch := omega) only [List.length_set, List.length_append, lF, lW, Nat.sub_zero, Nat.zero_add, wid, dt, cond_true, Bool.and_self]
    by_cases hb : 1048576 < ((ah ++ Fw7 r ho) ++ be).length
    · refine g15x_big hb (g13 (g13 ?_))
      rw [la] at hb
      simp (disch := omega) only [dt]
      exact h2
    · refine g15x_22 (by omega) (Nat.le_refl _) (by omega) (by omega) (fun h => by rw [h r hr] at hf; cases hf) (fun _ _ _ _ => ?_) (fun _ _ _ _ _ _ hi' => absurd hi' hi)
      repeat (first | exact h3 | refine g13 ?_)
  · obtain rfl : q = 0 := by omega
    obtain rfl : s = r := only0 s hs hs1
    rw [relx_all lW]
    unfold A4_29
    simp only [eF]
    simp (disch := omega) only [List.length_set, List.length_append, lF, lW, Nat.sub_zero, Nat.zero_add, wid, dt, cond_true, Bool.and_self]
    by_cases hb : 1048576 < ((ah ++ Fw7 s ho) ++ be).length
    · refine g15x_big hb (g13 (g13 ?_))
      rw [la] at hb
      simp (disch := omega) only [dt]
      exact h2
    · refine g15x_22 (by omega) (Nat.le_refl _) (by omega) (by omega) (fun h => by rw [h s hs] at hf; cases hf) (fun _ _ _ hi' => absurd hi hi') (fun q s' hq hs' hs1' _ _ => ?_)
      obtain rfl : s' = s := only s' hs' hs1'
      obtain rfl : q = ah.length := by omega
      rw [relx_mid lF]
      refine g13 (g13 (g13 ?_))
      unfold A4_28
      simp only [eF]
      exact chk_ok (F := Fw7 s' ho) (v := (w22 s' off)) rfl (by simp [w22, le4]) hn h2
theorem md_cases (md : Int) (h1 : -9223372036854775808 ≤ md) (h2 : md ≤ 9223372036854775807) : IntKind.wrap .i64 (1 + Int.tmod (IntKind.wrap .i64 (Int.tmod md 3 + 3)) 3) = 1 ∨ IntKind.wrap .i64 (1 + Int.tmod (IntKind.wrap .i64 (Int.tmod md 3 + 3)) 3) = 2 ∨ IntKind.wrap .i64 (1 + Int.tmod (IntKind.wrap .i64 (Int.tmod md 3 + 3)) 3) = 3 := by
  have a1 : Int.tmod md 3 < 3 := Int.tmod_lt_of_pos _ (by omega)
  have a2 : -3 < Int.tmod md 3 := Int.lt_tmod_of_pos _ (by omega)
  rw [wid (x := Int.tmod md 3 + 3) (by omega) (by omega)]
  rw [Int.tmod_eq_emod_of_nonneg (by omega)]
  rw [wid (by omega) (by omega)]
  omega
theorem reg_cases (reg : Int) : ∃ r : Nat, r < 16 ∧ Int.tmod (IntKind.wrap .i64 (Int.tmod reg 16 + 16)) 16 = (r : Int) := by
  have a1 : Int.tmod reg 16 < 16 := Int.tmod_lt_of_pos _ (by omega)
  have a2 : -16 < Int.tmod reg 16 := Int.lt_tmod_of_pos _ (by omega)
  rw [wid (x := Int.tmod reg 16 + 16) (by omega) (by omega)]
  rw [Int.tmod_eq_emod_of_nonneg (by omega)]
  exact ⟨((Int.tmod reg 16 + 16) % 16).toNat, by omega, by omega⟩
theorem g4 {md reg ho off : Int} {ah be : List Int} {k1 : Prop} {k2 : Bool → Prop} {k3 : Prop} (m1 : -9223372036854775808 ≤ md) (m2 : md ≤ 9223372036854775807) (hn : ah.length + be.length ≤ 1048576) (h2 : k2 true) (h3 : k3) : G4 md reg ho off ah be k1 k2 k3 := by
  unfold G4 F4
  rcases md_cases md m1 m2 with h | h | h
  · rw [h]
    rw [dt (show (1 : Int) < 3 by omega), cond_true, g11_1]
    exact len_1 hn h2 h3
  · rw [h]
    rw [dt (show (2 : Int) < 3 by omega), cond_true, g11_2]
    exact len_2 hn h2 h3
  · rw [h]
    obtain ⟨r, hr, e⟩ := reg_cases reg
    rw [e]
    rw [df (show ¬ (3 : Int) < 3 by omega), cond_false, g11_3 _ _ _ _ _ r hr]
    exact len_w7 hr hn h2 h3
end Go.Proofs.Ytnndiicpiolddaa.tls
