import Derived.Test.YtkbijhfikkjhpaaGreatDoorFrmD
import Derived.Test.YtkbijhfikkjhpaaGreatDoorFrmNa
import Derived.Test.YtkbijhfikkjhpaaGreatDoorFrmNb
import Derived.Test.YtkbijhfikkjhpaaGreatDoorFrmNc
import Derived.Test.YtkbijhfikkjhpaaGreatDoorFrmNd
import Derived.Test.YtkbijhfikkjhpaaGreatDoorFcA
set_option linter.unusedVariables false
set_option linter.unusedSimpArgs false
set_option maxHeartbeats 4000000
set_option maxRecDepth 100000
namespace Go.Proofs.YtkbijhfikkjhpaaGreatDoor.frm
open Go Go.Ab Go.Proofs.YtkbijhfikkjhpaaGreatDoor.fc
/-! ### Numerals -/
def digF : Nat → Nat → List Int
  | 0, _ => []
  | f + 1, u => match Nat.blt u 10 with | true => [((48 + u : Nat) : Int)] | false => digF f (u / 10) ++ [((48 + u % 10 : Nat) : Int)]
def numI (n : Int) : List Int := match decide (n < 0) with | true => 45 :: digF 20 n.natAbs | false => digF 20 n.toNat
def sgnI (n : Int) : List Int := bif decide (n < 0) then numI n else 43 :: numI n
theorem dec_small {u : Nat} (h : u < 10) : (UInt8.ofNat (48 + u)).toNat = 48 + u := by
  simp only [UInt8.toNat_ofNat']; omega
theorem digF_eq : ∀ (f u : Nat), u < 10 ^ f → 0 < f → digF f u = (Lib.decDigits u).map fun c => (c.toNat : Int)
  | 0, u, _, h => by omega
  | f + 1, u, h, _ => by
    unfold digF
    by_cases hu : u < 10
    · have e : Nat.blt u 10 = true := by simpa [Nat.blt_eq] using hu
      rw [e, Lib.decDigits, dif_pos hu]
      simp only [List.map_cons, List.map_nil, dec_small hu]
    · have e : Nat.blt u 10 = false := by
        cases hb : Nat.blt u 10 with
        | false => rfl
        | true => exact absurd (by simpa [Nat.blt_eq] using hb) hu
      rw [e, Lib.decDigits, dif_neg hu]
      have hf : 0 < f := by
        rcases Nat.eq_zero_or_pos f with rfl | h1
        · simp at h; omega
        · exact h1
      have h2 : u / 10 < 10 ^ f := by rw [Nat.pow_succ] at h; omega
      simp only [digF_eq f (u / 10) h2 hf, List.map_append, List.map_cons, List.map_nil, dec_small (Nat.mod_lt u (show 0 < 10 by decide))]
theorem digF_more {u : Nat} (f g : Nat) (h : u < 10 ^ f) (hf : 0 < f) (h2 : u < 10 ^ g) (hg : 0 < g) : digF f u = digF g u := by rw [digF_eq f u h hf, digF_eq g u h2 hg]
theorem itoaI_num {n : Int} (h0 : -9223372036854775808 ≤ n) (h1 : n ≤ 9223372036854775807) : itoaI n = numI n := by
  unfold itoaI bytesI numI Lib.itoa
  by_cases h : n < 0
  · rw [if_pos h, decide_eq_true h]
    simp only [List.map_cons]
    rw [digF_eq 20 _ (by omega) (by omega)]
    rfl
  · rw [if_neg h, decide_eq_false h]
    simp only
    rw [digF_eq 20 _ (by omega) (by omega)]
theorem rngI {E : Wh} {k : Int} {c : Value} (h : VRel E (.I .i64 k) c) : -9223372036854775808 ≤ k ∧ k ≤ 9223372036854775807 := by
  simp only [VRel] at h
  have hc := h.2
  simpa [inR, IntKind.min, IntKind.max, IntKind.signed, IntKind.bits] using hc
theorem rng1 {E : Wh} {k : Int} {vs : List V} {cs : List Value} (h : VsRel E (.I .i64 k :: vs) cs) : -9223372036854775808 ≤ k ∧ k ≤ 9223372036854775807 := by
  simp only [VsRel] at h
  obtain ⟨c, r, _, h, _⟩ := h
  exact rngI h
theorem numI_len {n : Int} (h0 : -9223372036854775808 ≤ n) (h1 : n ≤ 9223372036854775807) : (numI n).length ≤ 21 := by
  rw [← itoaI_num h0 h1]
  have := Lib.itoa_length_le n h0 h1
  simpa [itoaI, bytesI] using this
def P26 : Prim := fun args m K =>
  match args, m with
  | [.I .i64 n], [] => K (.S (numI n)) []
  | _, _ => False
theorem P26_ok : PrimOk Tryz.prog 26 P26 := by
  intro args m K E w cargs hS ha h
  unfold P26 at h
  split at h
  · rename_i n
    have hr := rng1 ha
    refine pItoa_ok _ _ _ _ _ _ hS ha ?_
    show K (.S (itoaI n)) []
    rw [itoaI_num hr.1 hr.2]
    exact h
  · cases h
def prims4 : Prims := fun f =>
  match Nat.beq f 10 with
  | true => some P10
  | false =>
  match Nat.beq f 14 with
  | true => some P14
  | false =>
  match Nat.beq f 25 with
  | true => some P25
  | false =>
  match Nat.beq f 34 with
  | true => some P34
  | false =>
  match Nat.beq f 26 with
  | true => some P26
  | false => prims3 f
theorem prims4_ok : PrimsOk Tryz.prog prims4 := by
  intro f g hg
  unfold prims4 at hg
  split at hg
  · rename_i hf
    obtain rfl := Nat.eq_of_beq_eq_true hf
    cases hg
    exact P10_ok
  · skip
    split at hg
    · rename_i hf
      obtain rfl := Nat.eq_of_beq_eq_true hf
      cases hg
      exact P14_ok
    · skip
      split at hg
      · rename_i hf
        obtain rfl := Nat.eq_of_beq_eq_true hf
        cases hg
        exact P25_ok
      · skip
        split at hg
        · rename_i hf
          obtain rfl := Nat.eq_of_beq_eq_true hf
          cases hg
          exact P34_ok
        · skip
          split at hg
          · rename_i hf
            obtain rfl := Nat.eq_of_beq_eq_true hf
            cases hg
            exact P26_ok
          · skip
            exact prims3_ok f g hg
def C4 : CC := call Tryz.prog prims4 1000
theorem C4_ok : CallsOk Tryz.prog C4 := call_sound named prims4_ok 1000
/-! ### gangwayref03.Digits -/
def digS (N : Nat) (n : Int) (X : Prop) : Prop := (0 < N ∧ 0 ≤ n ∧ n < 10 ^ N) ∧ X
def dgS (n : Int) (X : Prop) : Prop := 0 ≤ n ∧ X
def pDig (N : Nat) : Prim := fun args m K =>
  match args, m with
  | [.I .i64 n], [] => digS N n (K (.S (numI n)) [])
  | _, _ => False
def primsD (N : Nat) : Prims := fun f =>
  match Nat.beq f 74 with
  | true => some (pDig N)
  | false => prims4 f
theorem primsD_ok {N : Nat} (hN : PrimOk Tryz.prog 74 (pDig N)) : PrimsOk Tryz.prog (primsD N) := by
  intro f g hg
  unfold primsD at hg
  split at hg
  · rename_i hf
    obtain rfl := Nat.eq_of_beq_eq_true hf
    cases hg
    exact hN
  · skip
    exact prims4_ok f g hg
theorem at74 : Tryz.prog.funcs[74]? = some (fnOf Tryz.prog 74) := by kernel_rfl
abbrev Y74 : Type := Nat → Int → (List Int → Prop) → Prop
set_option maxHeartbeats 4000000 in
set_option maxRecDepth 100000 in
def F74  (N : Nat) (n : Int) (k1 : List Int → Prop) : Prop :=
  (bif (decide (n < (10 : Int))) then (k1 ([(IntKind.wrap .u8 (IntKind.wrap .i64 ((48 : Int) + n)))] : List Int)) else (bif (((([(IntKind.wrap .u8 (IntKind.wrap .i64 ((48 : Int) + (Int.tmod n (10 : Int)))))] : List Int) == ([(IntKind.wrap .u8 (IntKind.wrap .i64 ((48 : Int) + (Int.tmod n (10 : Int)))))] : List Int)) && true) && (((IntKind.wrap .u8 (IntKind.wrap .i64 ((48 : Int) + (Int.tmod n (10 : Int))))) == (IntKind.wrap .u8 (IntKind.wrap .i64 ((48 : Int) + (Int.tmod n (10 : Int)))))) && (((IntKind.wrap .i64 ((48 : Int) + (Int.tmod n (10 : Int)))) == (IntKind.wrap .i64 ((48 : Int) + (Int.tmod n (10 : Int))))) && (((Int.tmod n (10 : Int)) == (Int.tmod n (10 : Int))) && ((n == n) && (((IntKind.wrap .i64 (Int.tdiv n (10 : Int))) == (IntKind.wrap .i64 (Int.tdiv n (10 : Int)))) && ((n == n) && true))))))) then (digS N (IntKind.wrap .i64 (Int.tdiv n (10 : Int))) ((bif ((([(IntKind.wrap .u8 (IntKind.wrap .i64 ((48 : Int) + (Int.tmod n (10 : Int)))))] : List Int) == ([(IntKind.wrap .u8 (IntKind.wrap .i64 ((48 : Int) + (Int.tmod n (10 : Int)))))] : List Int)) && (((([(IntKind.wrap .u8 (IntKind.wrap .i64 ((48 : Int) + (Int.tmod n (10 : Int)))))] : List Int) == ([(IntKind.wrap .u8 (IntKind.wrap .i64 ((48 : Int) + (Int.tmod n (10 : Int)))))] : List Int)) && true) && (((IntKind.wrap .u8 (IntKind.wrap .i64 ((48 : Int) + (Int.tmod n (10 : Int))))) == (IntKind.wrap .u8 (IntKind.wrap .i64 ((48 : Int) + (Int.tmod n (10 : Int)))))) && (((IntKind.wrap .i64 ((48 : Int) + (Int.tmod n (10 : Int)))) == (IntKind.wrap .i64 ((48 : Int) + (Int.tmod n (10 : Int))))) && (((Int.tmod n (10 : Int)) == (Int.tmod n (10 : Int))) && ((n == n) && true)))))) then (bif (decide (((List.length (numI (IntKind.wrap .i64 (Int.tdiv n (10 : Int))))) + (1 : Nat)) ≤ (4611686018427387904 : Nat))) then (k1 ((numI (IntKind.wrap .i64 (Int.tdiv n (10 : Int)))) ++ ([(IntKind.wrap .u8 (IntKind.wrap .i64 ((48 : Int) + (Int.tmod n (10 : Int)))))] : List Int))) else False) else False))) else False))
theorem F74_ok  (N : Nat) (n : Int) (K : V → Mem → Prop) : cbody Tryz.prog (call Tryz.prog (primsD N) 1000) (fun _ => none) 1000 (fnOf Tryz.prog 74) [(.I .i64 n)] [] K =
    F74  N n (fun (u0 : List Int) => K (.S u0) []) := by kernel_rfl
theorem num_nat (u : Nat) : numI (u : Int) = digF 20 u := by
  unfold numI
  rw [decide_eq_false (by omega)]
  rfl
theorem num_small {u : Nat} (h : u < 10) : numI (u : Int) = [((48 + u : Nat) : Int)] := by
  rw [num_nat]
  unfold digF
  have e : Nat.blt u 10 = true := by simpa [Nat.blt_eq] using h
  rw [e]
theorem num_big {u : Nat} (h : ¬ u < 10) (h2 : u < 10 ^ 20) : numI (u : Int) = numI ((u / 10 : Nat) : Int) ++ [((48 + u % 10 : Nat) : Int)] := by
  rw [num_nat, num_nat]
  have e : Nat.blt u 10 = false := by
    cases hb : Nat.blt u 10 with
    | false => rfl
    | true => exact absurd (by simpa [Nat.blt_eq] using hb) h
  rw [digF_more 20 19 (u := u / 10) (by omega) (by omega) (by omega) (by omega)]
  conv => lhs; unfold digF
  rw [e]
theorem num_neg {n : Int} (h : n < 0) : numI n = 45 :: numI (-n) := by
  have e : numI (-n) = digF 20 (-n).toNat := by
    unfold numI
    rw [decide_eq_false (by omega)]
  rw [e]
  unfold numI
  rw [decide_eq_true h]
  have : n.natAbs = (-n).toNat := by omega
  simp only [this]
theorem wu8 {x : Int} (h1 : 0 ≤ x) (h2 : x ≤ 255) : IntKind.wrap .u8 x = x := by
  simp [IntKind.wrap, IntKind.bits, IntKind.signed]; omega
theorem h74 {N : Nat} {n : Int} (hn : digS (N + 1) n True) (hi : n ≤ 9223372036854775807) {k : List Int → Prop} (h : k (numI n)) : F74 N n k := by
  obtain ⟨⟨_, h0, h1⟩, _⟩ := hn
  obtain ⟨u, rfl⟩ : ∃ u : Nat, n = u := ⟨n.toNat, by omega⟩
  unfold F74
  by_cases hu : u < 10
  · rw [decide_eq_true (by omega : (u : Int) < 10), cond_true, wid (x := 48 + (u : Int)) (by omega) (by omega), wu8 (by omega) (by omega)]
    rw [num_small hu] at h
    simpa using h
  · have e1 : Int.tdiv (u : Int) 10 = ((u / 10 : Nat) : Int) := by rw [Int.tdiv_eq_ediv_of_nonneg (by omega)]; omega
    have e2 : Int.tmod (u : Int) 10 = ((u % 10 : Nat) : Int) := by rw [Int.tmod_eq_emod_of_nonneg (by omega)]; omega
    have hm : u % 10 < 10 := Nat.mod_lt _ (by decide)
    rw [decide_eq_false (by omega : ¬ (u : Int) < 10), cond_false, e1, e2, wid (x := 48 + ((u % 10 : Nat) : Int)) (by omega) (by omega), wu8 (by omega) (by omega), wid (x := ((u / 10 : Nat) : Int)) (by omega) (by omega)]
    simp only [beq_self_eq_true, Bool.and_true, cond_true]
    have hl := numI_len (n := ((u / 10 : Nat) : Int)) (by omega) (by omega)
    rw [decide_eq_true (by omega : (numI ((u / 10 : Nat) : Int)).length + 1 ≤ 4611686018427387904), cond_true]
    have hN : 0 < N := by
      rcases Nat.eq_zero_or_pos N with rfl | h2
      · simp at h1; omega
      · exact h2
    have h1' : u < 10 ^ (N + 1) := by
      have : ((10 : Int) ^ (N + 1)) = ((10 ^ (N + 1) : Nat) : Int) := by simp
      rw [this] at h1
      omega
    have h3 : ((u / 10 : Nat) : Int) < (10 : Int) ^ N := by
      have : ((10 : Int) ^ N) = ((10 ^ N : Nat) : Int) := by simp
      rw [this]
      rw [Nat.pow_succ] at h1'
      omega
    refine ⟨⟨hN, by omega, h3⟩, ?_⟩
    rw [num_big hu (by omega)] at h
    simpa using h
theorem pDig_ok : ∀ N, PrimOk Tryz.prog 74 (pDig N)
  | 0 => by
    intro args m K E w cargs hS ha h
    unfold pDig at h
    split at h
    · exact absurd h.1.1 (by omega)
    · cases h
  | N + 1 => by
    intro args m K E w cargs hS ha h
    unfold pDig at h
    split at h
    · rename_i n
      exact cbody_use named (call_sound named (primsD_ok (pDig_ok N)) 1000) at74 (l := 0) rfl (LoopsOk.none _ _) (F74_ok N n K) hS ha (h74 ⟨h.1, trivial⟩ (rng1 ha).2 h.2)
    · cases h
def P74 : Prim := fun args m K =>
  match args, m with
  | [.I .i64 n], [] => dgS n (K (.S (numI n)) [])
  | _, _ => False
theorem P74_ok : PrimOk Tryz.prog 74 P74 := by
  intro args m K E w cargs hS ha h
  unfold P74 at h
  split at h
  · rename_i n
    refine pDig_ok 19 _ _ _ _ _ _ hS ha ?_
    have hr := rng1 ha
    refine ⟨⟨by decide, h.1, ?_⟩, h.2⟩
    have : ((10 : Int) ^ 19) = 10000000000000000000 := by decide
    rw [this]; omega
  · cases h
def prims5 : Prims := fun f =>
  match Nat.beq f 74 with
  | true => some P74
  | false => prims4 f
theorem prims5_ok : PrimsOk Tryz.prog prims5 := by
  intro f g hg
  unfold prims5 at hg
  split at hg
  · rename_i hf
    obtain rfl := Nat.eq_of_beq_eq_true hf
    cases hg
    exact P74_ok
  · skip
    exact prims4_ok f g hg
def C5 : CC := call Tryz.prog prims5 1000
theorem C5_ok : CallsOk Tryz.prog C5 := call_sound named prims5_ok 1000
theorem at35 : Tryz.prog.funcs[35]? = some (fnOf Tryz.prog 35) := by kernel_rfl
abbrev Y35 : Type := Int → (List Int → Prop) → Prop
set_option maxHeartbeats 4000000 in
set_option maxRecDepth 100000 in
def F35  (n : Int) (k1 : List Int → Prop) : Prop :=
  (bif (decide (n ≥ (0 : Int))) then (dgS n ((k1 (numI n)))) else (bif (decide (n > (-10 : Int))) then (dgS (IntKind.wrap .i64 (0 - n)) ((bif (decide (((1 : Nat) + (List.length (numI (IntKind.wrap .i64 (0 - n))))) ≤ (4611686018427387904 : Nat))) then (k1 (([(45 : Int)] : List Int) ++ (numI (IntKind.wrap .i64 (0 - n))))) else False))) else (dgS (IntKind.wrap .i64 (0 - (IntKind.wrap .i64 (Int.tdiv n (10 : Int))))) ((bif (decide (((1 : Nat) + (List.length (numI (IntKind.wrap .i64 (0 - (IntKind.wrap .i64 (Int.tdiv n (10 : Int)))))))) ≤ (4611686018427387904 : Nat))) then (dgS (IntKind.wrap .i64 (0 - (Int.tmod n (10 : Int)))) ((bif (decide (((List.length (([(45 : Int)] : List Int) ++ (numI (IntKind.wrap .i64 (0 - (IntKind.wrap .i64 (Int.tdiv n (10 : Int)))))))) + (List.length (numI (IntKind.wrap .i64 (0 - (Int.tmod n (10 : Int))))))) ≤ (4611686018427387904 : Nat))) then (k1 ((([(45 : Int)] : List Int) ++ (numI (IntKind.wrap .i64 (0 - (IntKind.wrap .i64 (Int.tdiv n (10 : Int))))))) ++ (numI (IntKind.wrap .i64 (0 - (Int.tmod n (10 : Int))))))) else False))) else False)))))
theorem F35_ok  (n : Int) (K : V → Mem → Prop) : cbody Tryz.prog C5 (fun _ => none) 1000 (fnOf Tryz.prog 35) [(.I .i64 n)] [] K =
    F35  n (fun (u0 : List Int) => K (.S u0) []) := by kernel_rfl
theorem at28 : Tryz.prog.funcs[28]? = some (fnOf Tryz.prog 28) := by kernel_rfl
abbrev Y28 : Type := Int → (List Int → Prop) → Prop
set_option maxHeartbeats 4000000 in
set_option maxRecDepth 100000 in
def F28  (n : Int) (k1 : List Int → Prop) : Prop :=
  (bif (decide (n < (0 : Int))) then (k1 (numI n)) else (bif (decide (((1 : Nat) + (List.length (numI n))) ≤ (4611686018427387904 : Nat))) then (k1 (([(43 : Int)] : List Int) ++ (numI n))) else False))
theorem F28_ok  (n : Int) (K : V → Mem → Prop) : cbody Tryz.prog C5 (fun _ => none) 1000 (fnOf Tryz.prog 28) [(.I .i64 n)] [] K =
    F28  n (fun (u0 : List Int) => K (.S u0) []) := by kernel_rfl
theorem h35 {n : Int} (h0 : -9223372036854775808 ≤ n) (h1 : n ≤ 9223372036854775807) {k : List Int → Prop} (h : k (numI n)) : F35 n k := by
  unfold F35
  by_cases hn : n ≥ 0
  · rw [decide_eq_true hn]
    exact ⟨hn, h⟩
  · rw [decide_eq_false hn, cond_false]
    obtain ⟨u, rfl⟩ : ∃ u : Nat, n = -(u : Int) := ⟨n.natAbs, by omega⟩
    rw [num_neg (by omega)] at h
    have en : - -(u : Int) = u := by omega
    rw [en] at h
    by_cases h10 : -(u : Int) > -10
    · rw [decide_eq_true h10, cond_true, wid (x := 0 - -(u : Int)) (by omega) (by omega)]
      have e : 0 - -(u : Int) = u := by omega
      rw [e]
      have hl := numI_len (n := (u : Int)) (by omega) (by omega)
      rw [decide_eq_true (by omega : 1 + (numI (u : Int)).length ≤ 4611686018427387904), cond_true]
      exact ⟨by omega, h⟩
    · have e1 : Int.tdiv (-(u : Int)) 10 = -((u / 10 : Nat) : Int) := by rw [Int.neg_tdiv, Int.tdiv_eq_ediv_of_nonneg (by omega)]; omega
      have e2 : Int.tmod (-(u : Int)) 10 = -((u % 10 : Nat) : Int) := by rw [Int.neg_tmod, Int.tmod_eq_emod_of_nonneg (by omega)]; omega
      have hm : u % 10 < 10 := Nat.mod_lt _ (by decide)
      rw [decide_eq_false h10, cond_false, e1, e2, wid (x := -((u / 10 : Nat) : Int)) (by omega) (by omega), wid (x := 0 - -((u / 10 : Nat) : Int)) (by omega) (by omega), wid (x := 0 - -((u % 10 : Nat) : Int)) (by omega) (by omega)]
      have e3 : 0 - -((u / 10 : Nat) : Int) = ((u / 10 : Nat) : Int) := by omega
      have e4 : 0 - -((u % 10 : Nat) : Int) = ((u % 10 : Nat) : Int) := by omega
      rw [e3, e4]
      have hl := numI_len (n := ((u / 10 : Nat) : Int)) (by omega) (by omega)
      have hl2 := numI_len (n := ((u % 10 : Nat) : Int)) (by omega) (by omega)
      rw [decide_eq_true (by omega : 1 + (numI ((u / 10 : Nat) : Int)).length ≤ 4611686018427387904), cond_true]
      refine ⟨by omega, ?_⟩
      rw [decide_eq_true (by simp only [List.length_append, List.length_cons, List.length_nil]; omega : (([(45 : Int)] : List Int) ++ numI ((u / 10 : Nat) : Int)).length + (numI ((u % 10 : Nat) : Int)).length ≤ 4611686018427387904), cond_true]
      refine ⟨by omega, ?_⟩
      rw [num_big (by omega) (by omega)] at h
      rw [num_small hm]
      exact h
theorem h28 {n : Int} (h0 : -9223372036854775808 ≤ n) (h1 : n ≤ 9223372036854775807) {k : List Int → Prop} (h : k (sgnI n)) : F28 n k := by
  unfold F28
  unfold sgnI at h
  have hl := numI_len h0 h1
  rw [decide_eq_true (by omega : 1 + (numI n).length ≤ 4611686018427387904), cond_true]
  by_cases hn : n < 0
  · rw [decide_eq_true hn] at h ⊢; exact h
  · rw [decide_eq_false hn] at h ⊢; exact h
def P35 : Prim := fun args m K =>
  match args, m with
  | [.I .i64 n], [] => K (.S (numI n)) []
  | _, _ => False
theorem P35_ok : PrimOk Tryz.prog 35 P35 := by
  intro args m K E w cargs hS ha h
  unfold P35 at h
  split at h
  · rename_i n
    exact cbody_use named C5_ok at35 (l := 0) rfl (LoopsOk.none _ _) (F35_ok n K) hS ha (h35 (rng1 ha).1 (rng1 ha).2 h)
  · cases h
def pSgn : Prim := fun args m K =>
  match args, m with
  | [.I .i64 n], [] => K (.S (sgnI n)) []
  | _, _ => False
theorem P28_ok : PrimOk Tryz.prog 28 pSgn := by
  intro args m K E w cargs hS ha h
  unfold pSgn at h
  split at h
  · rename_i n
    exact cbody_use named C5_ok at28 (l := 0) rfl (LoopsOk.none _ _) (F28_ok n K) hS ha (h28 (rng1 ha).1 (rng1 ha).2 h)
  · cases h
def prims6 : Prims := fun f =>
  match Nat.beq f 35 with
  | true => some P35
  | false =>
  match Nat.beq f 28 with
  | true => some pSgn
  | false => prims5 f
theorem prims6_ok : PrimsOk Tryz.prog prims6 := by
  intro f g hg
  unfold prims6 at hg
  split at hg
  · rename_i hf
    obtain rfl := Nat.eq_of_beq_eq_true hf
    cases hg
    exact P35_ok
  · skip
    split at hg
    · rename_i hf
      obtain rfl := Nat.eq_of_beq_eq_true hf
      cases hg
      exact P28_ok
    · skip
      exact prims5_ok f g hg
def C6 : CC := call Tryz.prog prims6 1000
theorem C6_ok : CallsOk Tryz.prog C6 := call_sound named prims6_ok 1000
theorem at38 : Tryz.prog.funcs[38]? = some (fnOf Tryz.prog 38) := by kernel_rfl
abbrev Y38 : Type := Int → (List Int → Prop) → Prop
set_option maxHeartbeats 4000000 in
set_option maxRecDepth 100000 in
def F38  (n : Int) (k1 : List Int → Prop) : Prop :=
  (bif (decide (n < (0 : Int))) then (k1 (numI n)) else (bif (decide (((1 : Nat) + (List.length (numI n))) ≤ (4611686018427387904 : Nat))) then (k1 (([(43 : Int)] : List Int) ++ (numI n))) else False))
theorem F38_ok  (n : Int) (K : V → Mem → Prop) : cbody Tryz.prog C6 (fun _ => none) 1000 (fnOf Tryz.prog 38) [(.I .i64 n)] [] K =
    F38  n (fun (u0 : List Int) => K (.S u0) []) := by kernel_rfl
theorem P38_ok : PrimOk Tryz.prog 38 pSgn := by
  intro args m K E w cargs hS ha h
  unfold pSgn at h
  split at h
  · rename_i n
    exact cbody_use named C6_ok at38 (l := 0) rfl (LoopsOk.none _ _) (F38_ok n K) hS ha (show F38 n (fun u => K (.S u) []) from h28 (k := fun u => K (.S u) []) (rng1 ha).1 (rng1 ha).2 h)
  · cases h
theorem at37 : Tryz.prog.funcs[37]? = some (fnOf Tryz.prog 37) := by kernel_rfl
abbrev Y37_0 : Type := (List Int → Prop) → Prop
set_option maxHeartbeats 4000000 in
set_option maxRecDepth 100000 in
def F37_0   (k1 : List Int → Prop) : Prop :=
  (k1 ([] : List Int))
theorem F37_0_ok   (K : V → Mem → Prop) : cbody Tryz.prog C6 (fun _ => none) 1000 (fnOf Tryz.prog 37) [(.I .i64 (0 : Int))] [] K =
    F37_0   (fun (u0 : List Int) => K (.S u0) []) := by kernel_rfl
abbrev Y37_1 : Type := (List Int → Prop) → Prop
set_option maxHeartbeats 4000000 in
set_option maxRecDepth 100000 in
def F37_1   (k1 : List Int → Prop) : Prop :=
  (k1 ([(64 : Int), (112 : Int), (108 : Int), (116 : Int)] : List Int))
theorem F37_1_ok   (K : V → Mem → Prop) : cbody Tryz.prog C6 (fun _ => none) 1000 (fnOf Tryz.prog 37) [(.I .i64 (1 : Int))] [] K =
    F37_1   (fun (u0 : List Int) => K (.S u0) []) := by kernel_rfl
abbrev Y37_2 : Type := (List Int → Prop) → Prop
set_option maxHeartbeats 4000000 in
set_option maxRecDepth 100000 in
def F37_2   (k1 : List Int → Prop) : Prop :=
  (k1 ([(64 : Int), (103 : Int), (111 : Int), (116 : Int), (112 : Int), (99 : Int), (114 : Int), (101 : Int), (108 : Int)] : List Int))
theorem F37_2_ok   (K : V → Mem → Prop) : cbody Tryz.prog C6 (fun _ => none) 1000 (fnOf Tryz.prog 37) [(.I .i64 (2 : Int))] [] K =
    F37_2   (fun (u0 : List Int) => K (.S u0) []) := by kernel_rfl
abbrev Y37_3 : Type := (List Int → Prop) → Prop
set_option maxHeartbeats 4000000 in
set_option maxRecDepth 100000 in
def F37_3   (k1 : List Int → Prop) : Prop :=
  (k1 ([(64 : Int), (103 : Int), (111 : Int), (116 : Int), (116 : Int), (112 : Int), (111 : Int), (102 : Int), (102 : Int)] : List Int))
theorem F37_3_ok   (K : V → Mem → Prop) : cbody Tryz.prog C6 (fun _ => none) 1000 (fnOf Tryz.prog 37) [(.I .i64 (3 : Int))] [] K =
    F37_3   (fun (u0 : List Int) => K (.S u0) []) := by kernel_rfl
abbrev Y37_4 : Type := (List Int → Prop) → Prop
set_option maxHeartbeats 4000000 in
set_option maxRecDepth 100000 in
def F37_4   (k1 : List Int → Prop) : Prop :=
  (k1 ([(64 : Int), (116 : Int), (112 : Int), (111 : Int), (102 : Int), (102 : Int)] : List Int))
theorem F37_4_ok   (K : V → Mem → Prop) : cbody Tryz.prog C6 (fun _ => none) 1000 (fnOf Tryz.prog 37) [(.I .i64 (4 : Int))] [] K =
    F37_4   (fun (u0 : List Int) => K (.S u0) []) := by kernel_rfl
abbrev Y37_5 : Type := (List Int → Prop) → Prop
set_option maxHeartbeats 4000000 in
set_option maxRecDepth 100000 in
def F37_5   (k1 : List Int → Prop) : Prop :=
  (k1 ([(64 : Int), (100 : Int), (116 : Int), (112 : Int), (111 : Int), (102 : Int), (102 : Int)] : List Int))
theorem F37_5_ok   (K : V → Mem → Prop) : cbody Tryz.prog C6 (fun _ => none) 1000 (fnOf Tryz.prog 37) [(.I .i64 (5 : Int))] [] K =
    F37_5   (fun (u0 : List Int) => K (.S u0) []) := by kernel_rfl
def modT : List (List Int) := [[], [64, 112, 108, 116], [64, 103, 111, 116, 112, 99, 114, 101, 108], [64, 103, 111, 116, 116, 112, 111, 102, 102], [64, 116, 112, 111, 102, 102], [64, 100, 116, 112, 111, 102, 102]]
def modI (m : Int) : List Int := modT.getD m.toNat []
def modS (m : Int) (X : Prop) : Prop := (0 ≤ m ∧ m ≤ 5) ∧ X
def P37 : Prim := fun args m K =>
  match args, m with
  | [.I .i64 n], [] => modS n (K (.S (modI n)) [])
  | _, _ => False
theorem P37_ok : PrimOk Tryz.prog 37 P37 := by
  intro args m K E w cargs hS ha h
  unfold P37 at h
  split at h
  · rename_i n
    obtain ⟨⟨h0, h1⟩, h⟩ := h
    have : n = 0 ∨ n = 1 ∨ n = 2 ∨ n = 3 ∨ n = 4 ∨ n = 5 := by omega
    rcases this with rfl | rfl | rfl | rfl | rfl | rfl
    · exact cbody_use named C6_ok at37 (l := 0) rfl (LoopsOk.none _ _) (F37_0_ok K) hS ha h
    · exact cbody_use named C6_ok at37 (l := 0) rfl (LoopsOk.none _ _) (F37_1_ok K) hS ha h
    · exact cbody_use named C6_ok at37 (l := 0) rfl (LoopsOk.none _ _) (F37_2_ok K) hS ha h
    · exact cbody_use named C6_ok at37 (l := 0) rfl (LoopsOk.none _ _) (F37_3_ok K) hS ha h
    · exact cbody_use named C6_ok at37 (l := 0) rfl (LoopsOk.none _ _) (F37_4_ok K) hS ha h
    · exact cbody_use named C6_ok at37 (l := 0) rfl (LoopsOk.none _ _) (F37_5_ok K) hS ha h
  · cases h
def prims7 : Prims := fun f =>
  match Nat.beq f 38 with
  | true => some pSgn
  | false =>
  match Nat.beq f 37 with
  | true => some P37
  | false => prims6 f
theorem prims7_ok : PrimsOk Tryz.prog prims7 := by
  intro f g hg
  unfold prims7 at hg
  split at hg
  · rename_i hf
    obtain rfl := Nat.eq_of_beq_eq_true hf
    cases hg
    exact P38_ok
  · skip
    split at hg
    · rename_i hf
      obtain rfl := Nat.eq_of_beq_eq_true hf
      cases hg
      exact P37_ok
    · skip
      exact prims6_ok f g hg
def C7 : CC := call Tryz.prog prims7 1000
theorem C7_ok : CallsOk Tryz.prog C7 := call_sound named prims7_ok 1000
end Go.Proofs.YtkbijhfikkjhpaaGreatDoor.frm
set_option linter.unusedVariables false
set_option linter.unusedSimpArgs false
set_option maxHeartbeats 4000000
set_option maxRecDepth 100000
namespace Go.Proofs.YtkbijhfikkjhpaaGreatDoor.frm
open Go Go.Ab Go.Proofs.YtkbijhfikkjhpaaGreatDoor.fc
def regS (r z : Int) : List Int := regI r z
def tailI (b x s : Int) (p f : Bool) : List Int :=
  bif p then [40, 37, 114, 105, 112, 41] else bif f then [] else bif decide (x ≥ 0) then [40, 37] ++ (regI b 8 ++ ([44, 37] ++ (regI x 8 ++ ([44] ++ (numI s ++ [41]))))) else [40, 37] ++ (regI b 8 ++ [41])
def memI (b x s : Int) (p f : Bool) (n : Int) (w : List Int) (m : Int) : List Int :=
  (bif f then [37, 102, 115, 58] else []) ++ ((bif w == [] then (bif n != 0 || f then numI n else []) else w ++ (modI m ++ (bif n != 0 then sgnI n else []))) ++ tailI b x s p f)
theorem sgnI_len {n : Int} (h0 : -9223372036854775808 ≤ n) (h1 : n ≤ 9223372036854775807) : (sgnI n).length ≤ 22 := by
  have := numI_len h0 h1
  unfold sgnI
  cases decide (n < 0)
  · simp only [cond_false, List.length_cons]; omega
  · simp only [cond_true]; omega
theorem cons_beq_nil (c : Int) (w : List Int) : (c :: w == []) = false := rfl
theorem modI0 : modI 0 = [] := rfl
theorem modI1 : modI 1 = [64, 112, 108, 116] := rfl
theorem modI2 : modI 2 = [64, 103, 111, 116, 112, 99, 114, 101, 108] := rfl
theorem modI3 : modI 3 = [64, 103, 111, 116, 116, 112, 111, 102, 102] := rfl
theorem modI4 : modI 4 = [64, 116, 112, 111, 102, 102] := rfl
theorem modI5 : modI 5 = [64, 100, 116, 112, 111, 102, 102] := rfl
theorem rgR_len {es : List (List Int × Int)} (h : es.all (fun e => Nat.ble e.1.length 4) = true) (s : Int) : (rgR es s).length ≤ 4 := by
  induction es with
  | nil => simp [rgR]
  | cons e es ih =>
    rw [List.all_cons, Bool.and_eq_true] at h
    unfold rgR
    cases s == e.2
    · exact ih h.2
    · exact Nat.le_of_ble_eq_true h.1
theorem rgO_all : rgO.all (fun es => es.all (fun e => Nat.ble e.1.length 4)) = true := by kernel_rfl
theorem regI_len (r s : Int) : (regI r s).length ≤ 4 := by
  unfold regI
  apply rgR_len
  rw [List.getD_eq_getElem?_getD]
  cases hj : rgO[(r + 1).toNat]? with
  | none => rfl
  | some es => exact List.all_eq_true.1 rgO_all es (List.mem_of_getElem? hj)
theorem takeL (l : List Int) : List.take (Int.toNat ((List.length l : Nat) : Int)) l = l := by simp
theorem zne : ((0 : Int) != 0) = false := rfl
theorem cdec {p X : Prop} {inst : Decidable p} : (bif @decide p inst then X else False) = (p ∧ X) := by
  by_cases h : p <;> simp [h]
theorem dtx {p : Prop} {inst : Decidable p} (h : p) : @decide p inst = true := decide_eq_true h
theorem dfx {p : Prop} {inst : Decidable p} (h : ¬ p) : @decide p inst = false := decide_eq_false h
theorem candF {a b : Bool} {X : Prop} : (bif a && b then X else False) = (bif a then (bif b then X else False) else False) := by cases a <;> rfl
theorem ctrF {X : Prop} : (bif true then X else False) = X := rfl
theorem at27 : Tryz.prog.funcs[27]? = some (fnOf Tryz.prog 27) := by kernel_rfl
abbrev Y27a1 : Type := Int → (List Int → Prop) → Prop
set_option maxHeartbeats 4000000 in
set_option maxRecDepth 100000 in
def F27a1  (n : Int) (k1 : List Int → Prop) : Prop :=
  (bif (n != 0) then (bif ((decide (((List.length (numI n)) * 1) ≤ 140737488355328)) && (decide ((List.length (numI n)) ≤ 140737488355328))) then (bif ((decide (((((List.length (numI n)) - 0) + 6) * 1) ≤ 140737488355328)) && (decide ((((List.length (numI n)) - 0) + 6) ≤ 140737488355328))) then (bif (decide (0 < ((List.length ((numI n) ++ ([40, 37, 114, 105, 112, 41] : List Int))) - 0))) then (bif ((decide (0 < ((((List.length ((numI n) ++ ([40, 37, 114, 105, 112, 41] : List Int))) - 0) : Nat) : Int))) && (decide ((Int.toNat ((((List.length ((numI n) ++ ([40, 37, 114, 105, 112, 41] : List Int))) - 0) : Nat) : Int)) ≤ (List.length ((numI n) ++ ([40, 37, 114, 105, 112, 41] : List Int)))))) then (k1 (List.take (Int.toNat ((((List.length ((numI n) ++ ([40, 37, 114, 105, 112, 41] : List Int))) - 0) : Nat) : Int)) ((numI n) ++ ([40, 37, 114, 105, 112, 41] : List Int)))) else False) else False) else False) else False) else (k1 ([40, 37, 114, 105, 112, 41] : List Int)))
theorem F27a1_ok  (n : Int) (K : V → Mem → Prop) : cbody Tryz.prog C7 (fun _ => none) 1000 (fnOf Tryz.prog 27) [(.agg [(.I .i64 3), (.I .i64 0), (.I .i64 (-1)), (.I .i64 (-1)), (.I .i64 0), (.B true), (.B false), (.I .i64 n), (.S ([] : List Int)), (.I .i64 0)])] [] K =
    F27a1  n (fun (u0 : List Int) => K (.S u0) []) := by kernel_rfl
theorem h27a1 (n : Int) (hn0 : -9223372036854775808 ≤ n) (hn1 : n ≤ 9223372036854775807) {k : List Int → Prop} (h : k (memI (-1 : Int) (-1 : Int) (0 : Int) true false n [] (0 : Int))) : F27a1 n k := by
  have l1 := numI_len hn0 hn1
  have l2 := sgnI_len hn0 hn1
  unfold F27a1
  simp only [Nat.sub_zero, takeL, dgS, modS, beq_self_eq_true, Bool.and_true, Bool.true_and, candF, cdec, ctrF]
  try simp (disch := omega) only [dt, df, cond_true, cond_false]
  try simp only [modI0, modI1, modI2, modI3, modI4, modI5, List.length_append, List.length_cons, List.length_nil]
  unfold memI tailI at h
  simp (disch := omega) only [dtx, dfx, cond_true, cond_false, List.append_assoc, List.nil_append, List.cons_append, List.append_nil, beq_self_eq_true, Bool.or_true, Bool.or_false, cons_beq_nil, zne, modI0, modI1, modI2, modI3, modI4, modI5] at h
  cases hn : (n != 0) <;> (try simp only [hn, cond_true, cond_false, cdec, List.append_assoc, List.nil_append, List.cons_append, List.append_nil] at h) <;> (try simp only [hn, cond_true, cond_false, cdec, List.append_assoc, List.nil_append, List.cons_append, List.append_nil]) <;> (repeat' apply And.intro) <;> first | omega | exact h
theorem at36 : Tryz.prog.funcs[36]? = some (fnOf Tryz.prog 36) := by kernel_rfl
abbrev Y36a1 : Type := Int → (List Int → Prop) → Prop
set_option maxHeartbeats 4000000 in
set_option maxRecDepth 100000 in
def F36a1  (n : Int) (k1 : List Int → Prop) : Prop :=
  (bif (n != 0) then (bif (decide ((0 + (List.length (numI n))) ≤ 4611686018427387904)) then (bif (decide (((List.length (numI n)) + 6) ≤ 4611686018427387904)) then (k1 ((numI n) ++ ([40, 37, 114, 105, 112, 41] : List Int))) else False) else False) else (k1 ([40, 37, 114, 105, 112, 41] : List Int)))
theorem F36a1_ok  (n : Int) (K : V → Mem → Prop) : cbody Tryz.prog C7 (fun _ => none) 1000 (fnOf Tryz.prog 36) [(.agg [(.I .i64 3), (.I .i64 0), (.I .i64 (-1)), (.I .i64 (-1)), (.I .i64 0), (.B true), (.B false), (.I .i64 n), (.S ([] : List Int)), (.I .i64 0)])] [] K =
    F36a1  n (fun (u0 : List Int) => K (.S u0) []) := by kernel_rfl
theorem h36a1 (n : Int) (hn0 : -9223372036854775808 ≤ n) (hn1 : n ≤ 9223372036854775807) {k : List Int → Prop} (h : k (memI (-1 : Int) (-1 : Int) (0 : Int) true false n [] (0 : Int))) : F36a1 n k := by
  have l1 := numI_len hn0 hn1
  have l2 := sgnI_len hn0 hn1
  unfold F36a1
  simp only [Nat.sub_zero, takeL, dgS, modS, beq_self_eq_true, Bool.and_true, Bool.true_and, candF, cdec, ctrF]
  try simp (disch := omega) only [dt, df, cond_true, cond_false]
  try simp only [modI0, modI1, modI2, modI3, modI4, modI5, List.length_append, List.length_cons, List.length_nil]
  unfold memI tailI at h
  simp (disch := omega) only [dtx, dfx, cond_true, cond_false, List.append_assoc, List.nil_append, List.cons_append, List.append_nil, beq_self_eq_true, Bool.or_true, Bool.or_false, cons_beq_nil, zne, modI0, modI1, modI2, modI3, modI4, modI5] at h
  cases hn : (n != 0) <;> (try simp only [hn, cond_true, cond_false, cdec, List.append_assoc, List.nil_append, List.cons_append, List.append_nil] at h) <;> (try simp only [hn, cond_true, cond_false, cdec, List.append_assoc, List.nil_append, List.cons_append, List.append_nil]) <;> (repeat' apply And.intro) <;> first | omega | exact h
abbrev Y27a2 : Type := Int → Int → List Int → (List Int → Prop) → Prop
set_option maxHeartbeats 4000000 in
set_option maxRecDepth 100000 in
def F27a2  (n c : Int) (w : List Int) (k1 : List Int → Prop) : Prop :=
  let q0 := ((c :: w) ++ ([] : List Int))
  let q1 := ([40, 37, 114, 105, 112, 41] : List Int)
  let q2 := (List.length ((q0 ++ (sgnI n)) ++ q1))
  let q3 := ((((List.length (q0 ++ q1)) - 0) : Nat) : Int)
  (bif (decide (((List.length (c :: w)) + 0) ≤ 4611686018427387904)) then (bif ((decide (((List.length q0) * 1) ≤ 140737488355328)) && (decide ((List.length q0) ≤ 140737488355328))) then (bif (n != 0) then (bif ((decide (((((List.length q0) - 0) + (List.length (sgnI n))) * 1) ≤ 140737488355328)) && (decide ((((List.length q0) - 0) + (List.length (sgnI n))) ≤ 140737488355328))) then (bif ((decide (((((List.length (q0 ++ (sgnI n))) - 0) + 6) * 1) ≤ 140737488355328)) && (decide ((((List.length (q0 ++ (sgnI n))) - 0) + 6) ≤ 140737488355328))) then (bif (decide (0 < (q2 - 0))) then (bif ((decide (0 < (((q2 - 0) : Nat) : Int))) && (decide ((Int.toNat (((q2 - 0) : Nat) : Int)) ≤ q2))) then (k1 (List.take (Int.toNat (((q2 - 0) : Nat) : Int)) ((q0 ++ (sgnI n)) ++ q1))) else False) else False) else False) else False) else (bif ((decide (((((List.length q0) - 0) + 6) * 1) ≤ 140737488355328)) && (decide ((((List.length q0) - 0) + 6) ≤ 140737488355328))) then (bif (decide (0 < ((List.length (q0 ++ q1)) - 0))) then (bif ((decide (0 < q3)) && (decide ((Int.toNat q3) ≤ (List.length (q0 ++ q1))))) then (k1 (List.take (Int.toNat q3) (q0 ++ q1))) else False) else False) else False)) else False) else False)
theorem F27a2_ok  (n c : Int) (w : List Int) (K : V → Mem → Prop) : cbody Tryz.prog C7 (fun _ => none) 1000 (fnOf Tryz.prog 27) [(.agg [(.I .i64 3), (.I .i64 0), (.I .i64 (-1)), (.I .i64 (-1)), (.I .i64 0), (.B true), (.B false), (.I .i64 n), (.S (c :: w)), (.I .i64 0)])] [] K =
    F27a2  n c w (fun (u0 : List Int) => K (.S u0) []) := by kernel_rfl
theorem h27a2 (n : Int) (c : Int) (w : List Int) (hn0 : -9223372036854775808 ≤ n) (hn1 : n ≤ 9223372036854775807) (hw : (c :: w).length ≤ 255) {k : List Int → Prop} (h : k (memI (-1 : Int) (-1 : Int) (0 : Int) true false n (c :: w) (0 : Int))) : F27a2 n c w k := by
  have l1 := numI_len hn0 hn1
  have l2 := sgnI_len hn0 hn1
  simp only [List.length_cons] at hw
  unfold F27a2
  simp only [Nat.sub_zero, takeL, dgS, modS, beq_self_eq_true, Bool.and_true, Bool.true_and, candF, cdec, ctrF]
  try simp (disch := omega) only [dt, df, cond_true, cond_false]
  try simp only [modI0, modI1, modI2, modI3, modI4, modI5, List.length_append, List.length_cons, List.length_nil]
  unfold memI tailI at h
  simp (disch := omega) only [dtx, dfx, cond_true, cond_false, List.append_assoc, List.nil_append, List.cons_append, List.append_nil, beq_self_eq_true, Bool.or_true, Bool.or_false, cons_beq_nil, zne, modI0, modI1, modI2, modI3, modI4, modI5] at h
  cases hn : (n != 0) <;> (try simp only [hn, cond_true, cond_false, cdec, List.append_assoc, List.nil_append, List.cons_append, List.append_nil] at h) <;> (try simp only [hn, cond_true, cond_false, cdec, List.append_assoc, List.nil_append, List.cons_append, List.append_nil]) <;> (repeat' apply And.intro) <;> first | omega | exact h
abbrev Y36a2 : Type := Int → Int → List Int → (List Int → Prop) → Prop
set_option maxHeartbeats 4000000 in
set_option maxRecDepth 100000 in
def F36a2  (n c : Int) (w : List Int) (k1 : List Int → Prop) : Prop :=
  (bif (decide ((0 + (List.length (c :: w))) ≤ 4611686018427387904)) then (modS 0 ((bif (((decide ((0 + (List.length (c :: w))) ≤ 4611686018427387904)) && ((c :: w) == (c :: w))) && (((c :: w) == (c :: w)) && true)) then (bif (decide (((List.length (c :: w)) + (List.length (modI 0))) ≤ 4611686018427387904)) then (bif (n != 0) then (bif (decide (((List.length ((c :: w) ++ (modI 0))) + (List.length (sgnI n))) ≤ 4611686018427387904)) then (bif (decide (((List.length (((c :: w) ++ (modI 0)) ++ (sgnI n))) + 6) ≤ 4611686018427387904)) then (k1 ((((c :: w) ++ (modI 0)) ++ (sgnI n)) ++ ([40, 37, 114, 105, 112, 41] : List Int))) else False) else False) else (bif (decide (((List.length ((c :: w) ++ (modI 0))) + 6) ≤ 4611686018427387904)) then (k1 (((c :: w) ++ (modI 0)) ++ ([40, 37, 114, 105, 112, 41] : List Int))) else False)) else False) else False))) else False)
theorem F36a2_ok  (n c : Int) (w : List Int) (K : V → Mem → Prop) : cbody Tryz.prog C7 (fun _ => none) 1000 (fnOf Tryz.prog 36) [(.agg [(.I .i64 3), (.I .i64 0), (.I .i64 (-1)), (.I .i64 (-1)), (.I .i64 0), (.B true), (.B false), (.I .i64 n), (.S (c :: w)), (.I .i64 0)])] [] K =
    F36a2  n c w (fun (u0 : List Int) => K (.S u0) []) := by kernel_rfl
theorem h36a2 (n : Int) (c : Int) (w : List Int) (hn0 : -9223372036854775808 ≤ n) (hn1 : n ≤ 9223372036854775807) (hw : (c :: w).length ≤ 255) {k : List Int → Prop} (h : k (memI (-1 : Int) (-1 : Int) (0 : Int) true false n (c :: w) (0 : Int))) : F36a2 n c w k := by
  have l1 := numI_len hn0 hn1
  have l2 := sgnI_len hn0 hn1
  simp only [List.length_cons] at hw
  unfold F36a2
  simp only [Nat.sub_zero, takeL, dgS, modS, beq_self_eq_true, Bool.and_true, Bool.true_and, candF, cdec, ctrF]
  try simp (disch := omega) only [dt, df, cond_true, cond_false]
  try simp only [modI0, modI1, modI2, modI3, modI4, modI5, List.length_append, List.length_cons, List.length_nil]
  unfold memI tailI at h
  simp (disch := omega) only [dtx, dfx, cond_true, cond_false, List.append_assoc, List.nil_append, List.cons_append, List.append_nil, beq_self_eq_true, Bool.or_true, Bool.or_false, cons_beq_nil, zne, modI0, modI1, modI2, modI3, modI4, modI5] at h
  cases hn : (n != 0) <;> (try simp only [hn, cond_true, cond_false, cdec, List.append_assoc, List.nil_append, List.cons_append, List.append_nil] at h) <;> (try simp only [hn, cond_true, cond_false, cdec, List.append_assoc, List.nil_append, List.cons_append, List.append_nil]) <;> (repeat' apply And.intro) <;> first | omega | exact h
abbrev Y27a3 : Type := Int → List Int → (List Int → Prop) → Prop
set_option maxHeartbeats 4000000 in
set_option maxRecDepth 100000 in
def F27a3  (c : Int) (w : List Int) (k1 : List Int → Prop) : Prop :=
  let q0 := ((c :: w) ++ ([64, 103, 111, 116, 112, 99, 114, 101, 108] : List Int))
  let q1 := (List.length (q0 ++ ([40, 37, 114, 105, 112, 41] : List Int)))
  (bif (decide (((List.length (c :: w)) + 9) ≤ 4611686018427387904)) then (bif ((decide (((List.length q0) * 1) ≤ 140737488355328)) && (decide ((List.length q0) ≤ 140737488355328))) then (bif ((decide (((((List.length q0) - 0) + 6) * 1) ≤ 140737488355328)) && (decide ((((List.length q0) - 0) + 6) ≤ 140737488355328))) then (bif (decide (0 < (q1 - 0))) then (bif ((decide (0 < (((q1 - 0) : Nat) : Int))) && (decide ((Int.toNat (((q1 - 0) : Nat) : Int)) ≤ q1))) then (k1 (List.take (Int.toNat (((q1 - 0) : Nat) : Int)) (q0 ++ ([40, 37, 114, 105, 112, 41] : List Int)))) else False) else False) else False) else False) else False)
theorem F27a3_ok  (c : Int) (w : List Int) (K : V → Mem → Prop) : cbody Tryz.prog C7 (fun _ => none) 1000 (fnOf Tryz.prog 27) [(.agg [(.I .i64 3), (.I .i64 0), (.I .i64 (-1)), (.I .i64 (-1)), (.I .i64 0), (.B true), (.B false), (.I .i64 0), (.S (c :: w)), (.I .i64 2)])] [] K =
    F27a3  c w (fun (u0 : List Int) => K (.S u0) []) := by kernel_rfl
theorem h27a3 (c : Int) (w : List Int) (hw : (c :: w).length ≤ 255) {k : List Int → Prop} (h : k (memI (-1 : Int) (-1 : Int) (0 : Int) true false (0 : Int) (c :: w) (2 : Int))) : F27a3 c w k := by
  simp only [List.length_cons] at hw
  unfold F27a3
  simp only [Nat.sub_zero, takeL, dgS, modS, beq_self_eq_true, Bool.and_true, Bool.true_and, candF, cdec, ctrF]
  try simp (disch := omega) only [dt, df, cond_true, cond_false]
  try simp only [modI0, modI1, modI2, modI3, modI4, modI5, List.length_append, List.length_cons, List.length_nil]
  unfold memI tailI at h
  simp (disch := omega) only [dtx, dfx, cond_true, cond_false, List.append_assoc, List.nil_append, List.cons_append, List.append_nil, beq_self_eq_true, Bool.or_true, Bool.or_false, cons_beq_nil, zne, modI0, modI1, modI2, modI3, modI4, modI5] at h
  (try simp only [cond_true, cond_false, cdec, List.append_assoc, List.nil_append, List.cons_append, List.append_nil] at h) <;> (try simp only [cond_true, cond_false, cdec, List.append_assoc, List.nil_append, List.cons_append, List.append_nil]) <;> (repeat' apply And.intro) <;> first | omega | exact h
abbrev Y36a3 : Type := Int → List Int → (List Int → Prop) → Prop
set_option maxHeartbeats 4000000 in
set_option maxRecDepth 100000 in
def F36a3  (c : Int) (w : List Int) (k1 : List Int → Prop) : Prop :=
  (bif (decide ((0 + (List.length (c :: w))) ≤ 4611686018427387904)) then (modS 2 ((bif (((decide ((0 + (List.length (c :: w))) ≤ 4611686018427387904)) && ((c :: w) == (c :: w))) && (((c :: w) == (c :: w)) && true)) then (bif (decide (((List.length (c :: w)) + (List.length (modI 2))) ≤ 4611686018427387904)) then (bif (decide (((List.length ((c :: w) ++ (modI 2))) + 6) ≤ 4611686018427387904)) then (k1 (((c :: w) ++ (modI 2)) ++ ([40, 37, 114, 105, 112, 41] : List Int))) else False) else False) else False))) else False)
theorem F36a3_ok  (c : Int) (w : List Int) (K : V → Mem → Prop) : cbody Tryz.prog C7 (fun _ => none) 1000 (fnOf Tryz.prog 36) [(.agg [(.I .i64 3), (.I .i64 0), (.I .i64 (-1)), (.I .i64 (-1)), (.I .i64 0), (.B true), (.B false), (.I .i64 0), (.S (c :: w)), (.I .i64 2)])] [] K =
    F36a3  c w (fun (u0 : List Int) => K (.S u0) []) := by kernel_rfl
theorem h36a3 (c : Int) (w : List Int) (hw : (c :: w).length ≤ 255) {k : List Int → Prop} (h : k (memI (-1 : Int) (-1 : Int) (0 : Int) true false (0 : Int) (c :: w) (2 : Int))) : F36a3 c w k := by
  simp only [List.length_cons] at hw
  unfold F36a3
  simp only [Nat.sub_zero, takeL, dgS, modS, beq_self_eq_true, Bool.and_true, Bool.true_and, candF, cdec, ctrF]
  try simp (disch := omega) only [dt, df, cond_true, cond_false]
  try simp only [modI0, modI1, modI2, modI3, modI4, modI5, List.length_append, List.length_cons, List.length_nil]
  unfold memI tailI at h
  simp (disch := omega) only [dtx, dfx, cond_true, cond_false, List.append_assoc, List.nil_append, List.cons_append, List.append_nil, beq_self_eq_true, Bool.or_true, Bool.or_false, cons_beq_nil, zne, modI0, modI1, modI2, modI3, modI4, modI5] at h
  (try simp only [cond_true, cond_false, cdec, List.append_assoc, List.nil_append, List.cons_append, List.append_nil] at h) <;> (try simp only [cond_true, cond_false, cdec, List.append_assoc, List.nil_append, List.cons_append, List.append_nil]) <;> (repeat' apply And.intro) <;> first | omega | exact h
abbrev Y27a4 : Type := Int → List Int → (List Int → Prop) → Prop
set_option maxHeartbeats 4000000 in
set_option maxRecDepth 100000 in
def F27a4  (c : Int) (w : List Int) (k1 : List Int → Prop) : Prop :=
  let q0 := ((c :: w) ++ ([64, 103, 111, 116, 116, 112, 111, 102, 102] : List Int))
  let q1 := (List.length (q0 ++ ([40, 37, 114, 105, 112, 41] : List Int)))
  (bif (decide (((List.length (c :: w)) + 9) ≤ 4611686018427387904)) then (bif ((decide (((List.length q0) * 1) ≤ 140737488355328)) && (decide ((List.length q0) ≤ 140737488355328))) then (bif ((decide (((((List.length q0) - 0) + 6) * 1) ≤ 140737488355328)) && (decide ((((List.length q0) - 0) + 6) ≤ 140737488355328))) then (bif (decide (0 < (q1 - 0))) then (bif ((decide (0 < (((q1 - 0) : Nat) : Int))) && (decide ((Int.toNat (((q1 - 0) : Nat) : Int)) ≤ q1))) then (k1 (List.take (Int.toNat (((q1 - 0) : Nat) : Int)) (q0 ++ ([40, 37, 114, 105, 112, 41] : List Int)))) else False) else False) else False) else False) else False)
theorem F27a4_ok  (c : Int) (w : List Int) (K : V → Mem → Prop) : cbody Tryz.prog C7 (fun _ => none) 1000 (fnOf Tryz.prog 27) [(.agg [(.I .i64 3), (.I .i64 0), (.I .i64 (-1)), (.I .i64 (-1)), (.I .i64 0), (.B true), (.B false), (.I .i64 0), (.S (c :: w)), (.I .i64 3)])] [] K =
    F27a4  c w (fun (u0 : List Int) => K (.S u0) []) := by kernel_rfl
theorem h27a4 (c : Int) (w : List Int) (hw : (c :: w).length ≤ 255) {k : List Int → Prop} (h : k (memI (-1 : Int) (-1 : Int) (0 : Int) true false (0 : Int) (c :: w) (3 : Int))) : F27a4 c w k := by
  simp only [List.length_cons] at hw
  unfold F27a4
  simp only [Nat.sub_zero, takeL, dgS, modS, beq_self_eq_true, Bool.and_true, Bool.true_and, candF, cdec, ctrF]
  try simp (disch := omega) only [dt, df, cond_true, cond_false]
  try simp only [modI0, modI1, modI2, modI3, modI4, modI5, List.length_append, List.length_cons, List.length_nil]
  unfold memI tailI at h
  simp (disch := omega) only [dtx, dfx, cond_true, cond_false, List.append_assoc, List.nil_append, List.cons_append, List.append_nil, beq_self_eq_true, Bool.or_true, Bool.or_false, cons_beq_nil, zne, modI0, modI1, modI2, modI3, modI4, modI5] at h
  (try simp only [cond_true, cond_false, cdec, List.append_assoc, List.nil_append, List.cons_append, List.append_nil] at h) <;> (try simp only [cond_true, cond_false, cdec, List.append_assoc, List.nil_append, List.cons_append, List.append_nil]) <;> (repeat' apply And.intro) <;> first | omega | exact h
abbrev Y36a4 : Type := Int → List Int → (List Int → Prop) → Prop
set_option maxHeartbeats 4000000 in
set_option maxRecDepth 100000 in
def F36a4  (c : Int) (w : List Int) (k1 : List Int → Prop) : Prop :=
  (bif (decide ((0 + (List.length (c :: w))) ≤ 4611686018427387904)) then (modS 3 ((bif (((decide ((0 + (List.length (c :: w))) ≤ 4611686018427387904)) && ((c :: w) == (c :: w))) && (((c :: w) == (c :: w)) && true)) then (bif (decide (((List.length (c :: w)) + (List.length (modI 3))) ≤ 4611686018427387904)) then (bif (decide (((List.length ((c :: w) ++ (modI 3))) + 6) ≤ 4611686018427387904)) then (k1 (((c :: w) ++ (modI 3)) ++ ([40, 37, 114, 105, 112, 41] : List Int))) else False) else False) else False))) else False)
theorem F36a4_ok  (c : Int) (w : List Int) (K : V → Mem → Prop) : cbody Tryz.prog C7 (fun _ => none) 1000 (fnOf Tryz.prog 36) [(.agg [(.I .i64 3), (.I .i64 0), (.I .i64 (-1)), (.I .i64 (-1)), (.I .i64 0), (.B true), (.B false), (.I .i64 0), (.S (c :: w)), (.I .i64 3)])] [] K =
    F36a4  c w (fun (u0 : List Int) => K (.S u0) []) := by kernel_rfl
theorem h36a4 (c : Int) (w : List Int) (hw : (c :: w).length ≤ 255) {k : List Int → Prop} (h : k (memI (-1 : Int) (-1 : Int) (0 : Int) true false (0 : Int) (c :: w) (3 : Int))) : F36a4 c w k := by
  simp only [List.length_cons] at hw
  unfold F36a4
  simp only [Nat.sub_zero, takeL, dgS, modS, beq_self_eq_true, Bool.and_true, Bool.true_and, candF, cdec, ctrF]
  try simp (disch := omega) only [dt, df, cond_true, cond_false]
  try simp only [modI0, modI1, modI2, modI3, modI4, modI5, List.length_append, List.length_cons, List.length_nil]
  unfold memI tailI at h
  simp (disch := omega) only [dtx, dfx, cond_true, cond_false, List.append_assoc, List.nil_append, List.cons_append, List.append_nil, beq_self_eq_true, Bool.or_true, Bool.or_false, cons_beq_nil, zne, modI0, modI1, modI2, modI3, modI4, modI5] at h
  (try simp only [cond_true, cond_false, cdec, List.append_assoc, List.nil_append, List.cons_append, List.append_nil] at h) <;> (try simp only [cond_true, cond_false, cdec, List.append_assoc, List.nil_append, List.cons_append, List.append_nil]) <;> (repeat' apply And.intro) <;> first | omega | exact h
abbrev Y27b1 : Type := Int → (List Int → Prop) → Prop
set_option maxHeartbeats 4000000 in
set_option maxRecDepth 100000 in
def F27b1  (n : Int) (k1 : List Int → Prop) : Prop :=
  let q1 := (List.length (([37, 102, 115, 58] : List Int) ++ (numI n)))
  let q0 := (bif ((decide (((4 + (List.length (numI n))) * 1) ≤ 140737488355328)) && (decide ((4 + (List.length (numI n))) ≤ 140737488355328))) then (bif (decide (0 < (q1 - 0))) then (bif ((decide (0 < (((q1 - 0) : Nat) : Int))) && (decide ((Int.toNat (((q1 - 0) : Nat) : Int)) ≤ q1))) then (k1 (List.take (Int.toNat (((q1 - 0) : Nat) : Int)) (([37, 102, 115, 58] : List Int) ++ (numI n)))) else False) else False) else False)
  (bif (n != 0) then q0 else q0)
theorem F27b1_ok  (n : Int) (K : V → Mem → Prop) : cbody Tryz.prog C7 (fun _ => none) 1000 (fnOf Tryz.prog 27) [(.agg [(.I .i64 3), (.I .i64 0), (.I .i64 (-1)), (.I .i64 (-1)), (.I .i64 0), (.B false), (.B true), (.I .i64 n), (.S ([] : List Int)), (.I .i64 0)])] [] K =
    F27b1  n (fun (u0 : List Int) => K (.S u0) []) := by kernel_rfl
theorem h27b1 (n : Int) (hn0 : -9223372036854775808 ≤ n) (hn1 : n ≤ 9223372036854775807) {k : List Int → Prop} (h : k (memI (-1 : Int) (-1 : Int) (0 : Int) false true n [] (0 : Int))) : F27b1 n k := by
  have l1 := numI_len hn0 hn1
  have l2 := sgnI_len hn0 hn1
  unfold F27b1
  simp only [Nat.sub_zero, takeL, dgS, modS, beq_self_eq_true, Bool.and_true, Bool.true_and, candF, cdec, ctrF]
  try simp (disch := omega) only [dt, df, cond_true, cond_false]
  try simp only [modI0, modI1, modI2, modI3, modI4, modI5, List.length_append, List.length_cons, List.length_nil]
  unfold memI tailI at h
  simp (disch := omega) only [dtx, dfx, cond_true, cond_false, List.append_assoc, List.nil_append, List.cons_append, List.append_nil, beq_self_eq_true, Bool.or_true, Bool.or_false, cons_beq_nil, zne, modI0, modI1, modI2, modI3, modI4, modI5] at h
  cases hn : (n != 0) <;> (try simp only [hn, cond_true, cond_false, cdec, List.append_assoc, List.nil_append, List.cons_append, List.append_nil] at h) <;> (try simp only [hn, cond_true, cond_false, cdec, List.append_assoc, List.nil_append, List.cons_append, List.append_nil]) <;> (repeat' apply And.intro) <;> first | omega | exact h
abbrev Y36b1 : Type := Int → (List Int → Prop) → Prop
set_option maxHeartbeats 4000000 in
set_option maxRecDepth 100000 in
def F36b1  (n : Int) (k1 : List Int → Prop) : Prop :=
  (bif (n != 0) then (bif (decide ((4 + (List.length (numI n))) ≤ 4611686018427387904)) then (k1 (([37, 102, 115, 58] : List Int) ++ (numI n))) else False) else (bif (decide ((4 + (List.length (numI n))) ≤ 4611686018427387904)) then (k1 (([37, 102, 115, 58] : List Int) ++ (numI n))) else False))
theorem F36b1_ok  (n : Int) (K : V → Mem → Prop) : cbody Tryz.prog C7 (fun _ => none) 1000 (fnOf Tryz.prog 36) [(.agg [(.I .i64 3), (.I .i64 0), (.I .i64 (-1)), (.I .i64 (-1)), (.I .i64 0), (.B false), (.B true), (.I .i64 n), (.S ([] : List Int)), (.I .i64 0)])] [] K =
    F36b1  n (fun (u0 : List Int) => K (.S u0) []) := by kernel_rfl
theorem h36b1 (n : Int) (hn0 : -9223372036854775808 ≤ n) (hn1 : n ≤ 9223372036854775807) {k : List Int → Prop} (h : k (memI (-1 : Int) (-1 : Int) (0 : Int) false true n [] (0 : Int))) : F36b1 n k := by
  have l1 := numI_len hn0 hn1
  have l2 := sgnI_len hn0 hn1
  unfold F36b1
  simp only [Nat.sub_zero, takeL, dgS, modS, beq_self_eq_true, Bool.and_true, Bool.true_and, candF, cdec, ctrF]
  try simp (disch := omega) only [dt, df, cond_true, cond_false]
  try simp only [modI0, modI1, modI2, modI3, modI4, modI5, List.length_append, List.length_cons, List.length_nil]
  unfold memI tailI at h
  simp (disch := omega) only [dtx, dfx, cond_true, cond_false, List.append_assoc, List.nil_append, List.cons_append, List.append_nil, beq_self_eq_true, Bool.or_true, Bool.or_false, cons_beq_nil, zne, modI0, modI1, modI2, modI3, modI4, modI5] at h
  cases hn : (n != 0) <;> (try simp only [hn, cond_true, cond_false, cdec, List.append_assoc, List.nil_append, List.cons_append, List.append_nil] at h) <;> (try simp only [hn, cond_true, cond_false, cdec, List.append_assoc, List.nil_append, List.cons_append, List.append_nil]) <;> (repeat' apply And.intro) <;> first | omega | exact h
abbrev Y27b2 : Type := Int → Int → List Int → (List Int → Prop) → Prop
set_option maxHeartbeats 4000000 in
set_option maxRecDepth 100000 in
def F27b2  (n c : Int) (w : List Int) (k1 : List Int → Prop) : Prop :=
  let q2 := ((c :: w) ++ ([64, 116, 112, 111, 102, 102] : List Int))
  let q0 := (([37, 102, 115, 58] : List Int) ++ q2)
  let q1 := (List.length (q0 ++ (sgnI n)))
  let q3 := ((List.length q0) - 0)
  (bif (decide (((List.length (c :: w)) + 6) ≤ 4611686018427387904)) then (bif ((decide (((4 + (List.length q2)) * 1) ≤ 140737488355328)) && (decide ((4 + (List.length q2)) ≤ 140737488355328))) then (bif (n != 0) then (bif ((decide (((q3 + (List.length (sgnI n))) * 1) ≤ 140737488355328)) && (decide ((q3 + (List.length (sgnI n))) ≤ 140737488355328))) then (bif (decide (0 < (q1 - 0))) then (bif ((decide (0 < (((q1 - 0) : Nat) : Int))) && (decide ((Int.toNat (((q1 - 0) : Nat) : Int)) ≤ q1))) then (k1 (List.take (Int.toNat (((q1 - 0) : Nat) : Int)) (q0 ++ (sgnI n)))) else False) else False) else False) else (bif (decide (0 < q3)) then (bif ((decide (0 < ((q3 : Nat) : Int))) && (decide ((Int.toNat ((q3 : Nat) : Int)) ≤ (List.length q0)))) then (k1 (List.take (Int.toNat ((q3 : Nat) : Int)) q0)) else False) else False)) else False) else False)
theorem F27b2_ok  (n c : Int) (w : List Int) (K : V → Mem → Prop) : cbody Tryz.prog C7 (fun _ => none) 1000 (fnOf Tryz.prog 27) [(.agg [(.I .i64 3), (.I .i64 0), (.I .i64 (-1)), (.I .i64 (-1)), (.I .i64 0), (.B false), (.B true), (.I .i64 n), (.S (c :: w)), (.I .i64 4)])] [] K =
    F27b2  n c w (fun (u0 : List Int) => K (.S u0) []) := by kernel_rfl
theorem h27b2 (n : Int) (c : Int) (w : List Int) (hn0 : -9223372036854775808 ≤ n) (hn1 : n ≤ 9223372036854775807) (hw : (c :: w).length ≤ 255) {k : List Int → Prop} (h : k (memI (-1 : Int) (-1 : Int) (0 : Int) false true n (c :: w) (4 : Int))) : F27b2 n c w k := by
  have l1 := numI_len hn0 hn1
  have l2 := sgnI_len hn0 hn1
  simp only [List.length_cons] at hw
  unfold F27b2
  simp only [Nat.sub_zero, takeL, dgS, modS, beq_self_eq_true, Bool.and_true, Bool.true_and, candF, cdec, ctrF]
  try simp (disch := omega) only [dt, df, cond_true, cond_false]
  try simp only [modI0, modI1, modI2, modI3, modI4, modI5, List.length_append, List.length_cons, List.length_nil]
  unfold memI tailI at h
  simp (disch := omega) only [dtx, dfx, cond_true, cond_false, List.append_assoc, List.nil_append, List.cons_append, List.append_nil, beq_self_eq_true, Bool.or_true, Bool.or_false, cons_beq_nil, zne, modI0, modI1, modI2, modI3, modI4, modI5] at h
  cases hn : (n != 0) <;> (try simp only [hn, cond_true, cond_false, cdec, List.append_assoc, List.nil_append, List.cons_append, List.append_nil] at h) <;> (try simp only [hn, cond_true, cond_false, cdec, List.append_assoc, List.nil_append, List.cons_append, List.append_nil]) <;> (repeat' apply And.intro) <;> first | omega | exact h
abbrev Y36b2 : Type := Int → Int → List Int → (List Int → Prop) → Prop
set_option maxHeartbeats 4000000 in
set_option maxRecDepth 100000 in
def F36b2  (n c : Int) (w : List Int) (k1 : List Int → Prop) : Prop :=
  (bif (decide ((4 + (List.length (c :: w))) ≤ 4611686018427387904)) then (modS 4 ((bif (((decide ((4 + (List.length (c :: w))) ≤ 4611686018427387904)) && ((([37, 102, 115, 58] : List Int) ++ (c :: w)) == (([37, 102, 115, 58] : List Int) ++ (c :: w)))) && (((c :: w) == (c :: w)) && true)) then (bif (decide (((List.length (([37, 102, 115, 58] : List Int) ++ (c :: w))) + (List.length (modI 4))) ≤ 4611686018427387904)) then (bif (n != 0) then (bif (decide (((List.length ((([37, 102, 115, 58] : List Int) ++ (c :: w)) ++ (modI 4))) + (List.length (sgnI n))) ≤ 4611686018427387904)) then (k1 (((([37, 102, 115, 58] : List Int) ++ (c :: w)) ++ (modI 4)) ++ (sgnI n))) else False) else (k1 ((([37, 102, 115, 58] : List Int) ++ (c :: w)) ++ (modI 4)))) else False) else False))) else False)
theorem F36b2_ok  (n c : Int) (w : List Int) (K : V → Mem → Prop) : cbody Tryz.prog C7 (fun _ => none) 1000 (fnOf Tryz.prog 36) [(.agg [(.I .i64 3), (.I .i64 0), (.I .i64 (-1)), (.I .i64 (-1)), (.I .i64 0), (.B false), (.B true), (.I .i64 n), (.S (c :: w)), (.I .i64 4)])] [] K =
    F36b2  n c w (fun (u0 : List Int) => K (.S u0) []) := by kernel_rfl
theorem h36b2 (n : Int) (c : Int) (w : List Int) (hn0 : -9223372036854775808 ≤ n) (hn1 : n ≤ 9223372036854775807) (hw : (c :: w).length ≤ 255) {k : List Int → Prop} (h : k (memI (-1 : Int) (-1 : Int) (0 : Int) false true n (c :: w) (4 : Int))) : F36b2 n c w k := by
  have l1 := numI_len hn0 hn1
  have l2 := sgnI_len hn0 hn1
  simp only [List.length_cons] at hw
  unfold F36b2
  simp only [Nat.sub_zero, takeL, dgS, modS, beq_self_eq_true, Bool.and_true, Bool.true_and, candF, cdec, ctrF]
  try simp (disch := omega) only [dt, df, cond_true, cond_false]
  try simp only [modI0, modI1, modI2, modI3, modI4, modI5, List.length_append, List.length_cons, List.length_nil]
  unfold memI tailI at h
  simp (disch := omega) only [dtx, dfx, cond_true, cond_false, List.append_assoc, List.nil_append, List.cons_append, List.append_nil, beq_self_eq_true, Bool.or_true, Bool.or_false, cons_beq_nil, zne, modI0, modI1, modI2, modI3, modI4, modI5] at h
  cases hn : (n != 0) <;> (try simp only [hn, cond_true, cond_false, cdec, List.append_assoc, List.nil_append, List.cons_append, List.append_nil] at h) <;> (try simp only [hn, cond_true, cond_false, cdec, List.append_assoc, List.nil_append, List.cons_append, List.append_nil]) <;> (repeat' apply And.intro) <;> first | omega | exact h
abbrev Y27c1 : Type := Int → Int → (List Int → Prop) → Prop
set_option maxHeartbeats 4000000 in
set_option maxRecDepth 100000 in
def F27c1  (b n : Int) (k1 : List Int → Prop) : Prop :=
  let q0 := ((([40, 37] : List Int) ++ (regI b 8)) ++ ([41] : List Int))
  let q1 := (List.length ((numI n) ++ q0))
  let q2 := (List.length q0)
  let q3 := (decide (((List.length (([40, 37] : List Int) ++ (regI b 8))) + 1) ≤ 4611686018427387904))
  (bif (n != 0) then (bif ((decide (((List.length (numI n)) * 1) ≤ 140737488355328)) && (decide ((List.length (numI n)) ≤ 140737488355328))) then (bif (decide ((2 + (List.length (regI b 8))) ≤ 4611686018427387904)) then (bif q3 then (bif ((decide (((((List.length (numI n)) - 0) + q2) * 1) ≤ 140737488355328)) && (decide ((((List.length (numI n)) - 0) + q2) ≤ 140737488355328))) then (bif (decide (0 < (q1 - 0))) then (bif ((decide (0 < (((q1 - 0) : Nat) : Int))) && (decide ((Int.toNat (((q1 - 0) : Nat) : Int)) ≤ q1))) then (k1 (List.take (Int.toNat (((q1 - 0) : Nat) : Int)) ((numI n) ++ q0))) else False) else False) else False) else False) else False) else False) else (bif (decide ((2 + (List.length (regI b 8))) ≤ 4611686018427387904)) then (bif q3 then (bif ((decide ((q2 * 1) ≤ 140737488355328)) && (decide (q2 ≤ 140737488355328))) then (bif (decide (0 < (q2 - 0))) then (bif ((decide (0 < (((q2 - 0) : Nat) : Int))) && (decide ((Int.toNat (((q2 - 0) : Nat) : Int)) ≤ q2))) then (k1 (List.take (Int.toNat (((q2 - 0) : Nat) : Int)) q0)) else False) else False) else False) else False) else False))
theorem F27c1_ok  (b n : Int) (K : V → Mem → Prop) : cbody Tryz.prog C7 (fun _ => none) 1000 (fnOf Tryz.prog 27) [(.agg [(.I .i64 3), (.I .i64 0), (.I .i64 b), (.I .i64 (-1)), (.I .i64 0), (.B false), (.B false), (.I .i64 n), (.S ([] : List Int)), (.I .i64 0)])] [] K =
    F27c1  b n (fun (u0 : List Int) => K (.S u0) []) := by kernel_rfl
theorem h27c1 (b : Int) (n : Int) (hn0 : -9223372036854775808 ≤ n) (hn1 : n ≤ 9223372036854775807) (hb : 0 ≤ b) {k : List Int → Prop} (h : k (memI b (-1 : Int) (0 : Int) false false n [] (0 : Int))) : F27c1 b n k := by
  have l1 := numI_len hn0 hn1
  have l2 := sgnI_len hn0 hn1
  have l3 := regI_len b 8
  unfold F27c1
  simp only [Nat.sub_zero, takeL, dgS, modS, beq_self_eq_true, Bool.and_true, Bool.true_and, candF, cdec, ctrF]
  try simp (disch := omega) only [dt, df, cond_true, cond_false]
  try simp only [modI0, modI1, modI2, modI3, modI4, modI5, List.length_append, List.length_cons, List.length_nil]
  unfold memI tailI at h
  simp (disch := omega) only [dtx, dfx, cond_true, cond_false, List.append_assoc, List.nil_append, List.cons_append, List.append_nil, beq_self_eq_true, Bool.or_true, Bool.or_false, cons_beq_nil, zne, modI0, modI1, modI2, modI3, modI4, modI5] at h
  cases hn : (n != 0) <;> (try simp only [hn, cond_true, cond_false, cdec, List.append_assoc, List.nil_append, List.cons_append, List.append_nil] at h) <;> (try simp only [hn, cond_true, cond_false, cdec, List.append_assoc, List.nil_append, List.cons_append, List.append_nil]) <;> (repeat' apply And.intro) <;> first | omega | exact h
abbrev Y36c1 : Type := Int → Int → (List Int → Prop) → Prop
set_option maxHeartbeats 4000000 in
set_option maxRecDepth 100000 in
def F36c1  (b n : Int) (k1 : List Int → Prop) : Prop :=
  (bif (n != 0) then (bif (decide ((0 + (List.length (numI n))) ≤ 4611686018427387904)) then (bif (decide (b < 0)) then (k1 (numI n)) else (bif (decide (((List.length (numI n)) + 2) ≤ 4611686018427387904)) then (bif (decide (((List.length ((numI n) ++ ([40, 37] : List Int))) + (List.length (regI b 8))) ≤ 4611686018427387904)) then (bif (decide (((List.length (((numI n) ++ ([40, 37] : List Int)) ++ (regI b 8))) + 1) ≤ 4611686018427387904)) then (k1 ((((numI n) ++ ([40, 37] : List Int)) ++ (regI b 8)) ++ ([41] : List Int))) else False) else False) else False)) else False) else (bif (decide (b < 0)) then (k1 ([] : List Int)) else (bif (decide ((2 + (List.length (regI b 8))) ≤ 4611686018427387904)) then (bif (decide (((List.length (([40, 37] : List Int) ++ (regI b 8))) + 1) ≤ 4611686018427387904)) then (k1 ((([40, 37] : List Int) ++ (regI b 8)) ++ ([41] : List Int))) else False) else False)))
theorem F36c1_ok  (b n : Int) (K : V → Mem → Prop) : cbody Tryz.prog C7 (fun _ => none) 1000 (fnOf Tryz.prog 36) [(.agg [(.I .i64 3), (.I .i64 0), (.I .i64 b), (.I .i64 (-1)), (.I .i64 0), (.B false), (.B false), (.I .i64 n), (.S ([] : List Int)), (.I .i64 0)])] [] K =
    F36c1  b n (fun (u0 : List Int) => K (.S u0) []) := by kernel_rfl
theorem h36c1 (b : Int) (n : Int) (hn0 : -9223372036854775808 ≤ n) (hn1 : n ≤ 9223372036854775807) (hb : 0 ≤ b) {k : List Int → Prop} (h : k (memI b (-1 : Int) (0 : Int) false false n [] (0 : Int))) : F36c1 b n k := by
  have l1 := numI_len hn0 hn1
  have l2 := sgnI_len hn0 hn1
  have l3 := regI_len b 8
  unfold F36c1
  simp only [Nat.sub_zero, takeL, dgS, modS, beq_self_eq_true, Bool.and_true, Bool.true_and, candF, cdec, ctrF]
  try simp (disch := omega) only [dt, df, cond_true, cond_false]
  try simp only [modI0, modI1, modI2, modI3, modI4, modI5, List.length_append, List.length_cons, List.length_nil]
  unfold memI tailI at h
  simp (disch := omega) only [dtx, dfx, cond_true, cond_false, List.append_assoc, List.nil_append, List.cons_append, List.append_nil, beq_self_eq_true, Bool.or_true, Bool.or_false, cons_beq_nil, zne, modI0, modI1, modI2, modI3, modI4, modI5] at h
  cases hn : (n != 0) <;> (try simp only [hn, cond_true, cond_false, cdec, List.append_assoc, List.nil_append, List.cons_append, List.append_nil] at h) <;> (try simp only [hn, cond_true, cond_false, cdec, List.append_assoc, List.nil_append, List.cons_append, List.append_nil]) <;> (repeat' apply And.intro) <;> first | omega | exact h
abbrev Y27c2 : Type := Int → Int → Int → List Int → (List Int → Prop) → Prop
set_option maxHeartbeats 4000000 in
set_option maxRecDepth 100000 in
def F27c2  (b n c : Int) (w : List Int) (k1 : List Int → Prop) : Prop :=
  let q0 := ((c :: w) ++ ([64, 116, 112, 111, 102, 102] : List Int))
  let q1 := ((([40, 37] : List Int) ++ (regI b 8)) ++ ([41] : List Int))
  let q2 := (List.length ((q0 ++ (sgnI n)) ++ q1))
  let q3 := (decide (((List.length (([40, 37] : List Int) ++ (regI b 8))) + 1) ≤ 4611686018427387904))
  let q4 := ((((List.length (q0 ++ q1)) - 0) : Nat) : Int)
  (bif (decide (((List.length (c :: w)) + 6) ≤ 4611686018427387904)) then (bif ((decide (((List.length q0) * 1) ≤ 140737488355328)) && (decide ((List.length q0) ≤ 140737488355328))) then (bif (n != 0) then (bif ((decide (((((List.length q0) - 0) + (List.length (sgnI n))) * 1) ≤ 140737488355328)) && (decide ((((List.length q0) - 0) + (List.length (sgnI n))) ≤ 140737488355328))) then (bif (decide ((2 + (List.length (regI b 8))) ≤ 4611686018427387904)) then (bif q3 then (bif ((decide (((((List.length (q0 ++ (sgnI n))) - 0) + (List.length q1)) * 1) ≤ 140737488355328)) && (decide ((((List.length (q0 ++ (sgnI n))) - 0) + (List.length q1)) ≤ 140737488355328))) then (bif (decide (0 < (q2 - 0))) then (bif ((decide (0 < (((q2 - 0) : Nat) : Int))) && (decide ((Int.toNat (((q2 - 0) : Nat) : Int)) ≤ q2))) then (k1 (List.take (Int.toNat (((q2 - 0) : Nat) : Int)) ((q0 ++ (sgnI n)) ++ q1))) else False) else False) else False) else False) else False) else False) else (bif (decide ((2 + (List.length (regI b 8))) ≤ 4611686018427387904)) then (bif q3 then (bif ((decide (((((List.length q0) - 0) + (List.length q1)) * 1) ≤ 140737488355328)) && (decide ((((List.length q0) - 0) + (List.length q1)) ≤ 140737488355328))) then (bif (decide (0 < ((List.length (q0 ++ q1)) - 0))) then (bif ((decide (0 < q4)) && (decide ((Int.toNat q4) ≤ (List.length (q0 ++ q1))))) then (k1 (List.take (Int.toNat q4) (q0 ++ q1))) else False) else False) else False) else False) else False)) else False) else False)
theorem F27c2_ok  (b n c : Int) (w : List Int) (K : V → Mem → Prop) : cbody Tryz.prog C7 (fun _ => none) 1000 (fnOf Tryz.prog 27) [(.agg [(.I .i64 3), (.I .i64 0), (.I .i64 b), (.I .i64 (-1)), (.I .i64 0), (.B false), (.B false), (.I .i64 n), (.S (c :: w)), (.I .i64 4)])] [] K =
    F27c2  b n c w (fun (u0 : List Int) => K (.S u0) []) := by kernel_rfl
theorem h27c2 (b : Int) (n : Int) (c : Int) (w : List Int) (hn0 : -9223372036854775808 ≤ n) (hn1 : n ≤ 9223372036854775807) (hw : (c :: w).length ≤ 255) (hb : 0 ≤ b) {k : List Int → Prop} (h : k (memI b (-1 : Int) (0 : Int) false false n (c :: w) (4 : Int))) : F27c2 b n c w k := by
  have l1 := numI_len hn0 hn1
  have l2 := sgnI_len hn0 hn1
  have l3 := regI_len b 8
  simp only [List.length_cons] at hw
  unfold F27c2
  simp only [Nat.sub_zero, takeL, dgS, modS, beq_self_eq_true, Bool.and_true, Bool.true_and, candF, cdec, ctrF]
  try simp (disch := omega) only [dt, df, cond_true, cond_false]
  try simp only [modI0, modI1, modI2, modI3, modI4, modI5, List.length_append, List.length_cons, List.length_nil]
  unfold memI tailI at h
  simp (disch := omega) only [dtx, dfx, cond_true, cond_false, List.append_assoc, List.nil_append, List.cons_append, List.append_nil, beq_self_eq_true, Bool.or_true, Bool.or_false, cons_beq_nil, zne, modI0, modI1, modI2, modI3, modI4, modI5] at h
  cases hn : (n != 0) <;> (try simp only [hn, cond_true, cond_false, cdec, List.append_assoc, List.nil_append, List.cons_append, List.append_nil] at h) <;> (try simp only [hn, cond_true, cond_false, cdec, List.append_assoc, List.nil_append, List.cons_append, List.append_nil]) <;> (repeat' apply And.intro) <;> first | omega | exact h
abbrev Y36c2 : Type := Int → Int → Int → List Int → (List Int → Prop) → Prop
set_option maxHeartbeats 4000000 in
set_option maxRecDepth 100000 in
def F36c2  (b n c : Int) (w : List Int) (k1 : List Int → Prop) : Prop :=
  let q0 := ((c :: w) ++ (modI 4))
  let q1 := ([40, 37] : List Int)
  (bif (decide ((0 + (List.length (c :: w))) ≤ 4611686018427387904)) then (modS 4 ((bif (((decide ((0 + (List.length (c :: w))) ≤ 4611686018427387904)) && ((c :: w) == (c :: w))) && (((c :: w) == (c :: w)) && true)) then (bif (decide (((List.length (c :: w)) + (List.length (modI 4))) ≤ 4611686018427387904)) then (bif (n != 0) then (bif (decide (((List.length q0) + (List.length (sgnI n))) ≤ 4611686018427387904)) then (bif (decide (b < 0)) then (k1 (q0 ++ (sgnI n))) else (bif (decide (((List.length (q0 ++ (sgnI n))) + 2) ≤ 4611686018427387904)) then (bif (decide (((List.length ((q0 ++ (sgnI n)) ++ q1)) + (List.length (regI b 8))) ≤ 4611686018427387904)) then (bif (decide (((List.length (((q0 ++ (sgnI n)) ++ q1) ++ (regI b 8))) + 1) ≤ 4611686018427387904)) then (k1 ((((q0 ++ (sgnI n)) ++ q1) ++ (regI b 8)) ++ ([41] : List Int))) else False) else False) else False)) else False) else (bif (decide (b < 0)) then (k1 q0) else (bif (decide (((List.length q0) + 2) ≤ 4611686018427387904)) then (bif (decide (((List.length (q0 ++ q1)) + (List.length (regI b 8))) ≤ 4611686018427387904)) then (bif (decide (((List.length ((q0 ++ q1) ++ (regI b 8))) + 1) ≤ 4611686018427387904)) then (k1 (((q0 ++ q1) ++ (regI b 8)) ++ ([41] : List Int))) else False) else False) else False))) else False) else False))) else False)
theorem F36c2_ok  (b n c : Int) (w : List Int) (K : V → Mem → Prop) : cbody Tryz.prog C7 (fun _ => none) 1000 (fnOf Tryz.prog 36) [(.agg [(.I .i64 3), (.I .i64 0), (.I .i64 b), (.I .i64 (-1)), (.I .i64 0), (.B false), (.B false), (.I .i64 n), (.S (c :: w)), (.I .i64 4)])] [] K =
    F36c2  b n c w (fun (u0 : List Int) => K (.S u0) []) := by kernel_rfl
theorem h36c2 (b : Int) (n : Int) (c : Int) (w : List Int) (hn0 : -9223372036854775808 ≤ n) (hn1 : n ≤ 9223372036854775807) (hw : (c :: w).length ≤ 255) (hb : 0 ≤ b) {k : List Int → Prop} (h : k (memI b (-1 : Int) (0 : Int) false false n (c :: w) (4 : Int))) : F36c2 b n c w k := by
  have l1 := numI_len hn0 hn1
  have l2 := sgnI_len hn0 hn1
  have l3 := regI_len b 8
  simp only [List.length_cons] at hw
  unfold F36c2
  simp only [Nat.sub_zero, takeL, dgS, modS, beq_self_eq_true, Bool.and_true, Bool.true_and, candF, cdec, ctrF]
  try simp (disch := omega) only [dt, df, cond_true, cond_false]
  try simp only [modI0, modI1, modI2, modI3, modI4, modI5, List.length_append, List.length_cons, List.length_nil]
  unfold memI tailI at h
  simp (disch := omega) only [dtx, dfx, cond_true, cond_false, List.append_assoc, List.nil_append, List.cons_append, List.append_nil, beq_self_eq_true, Bool.or_true, Bool.or_false, cons_beq_nil, zne, modI0, modI1, modI2, modI3, modI4, modI5] at h
  cases hn : (n != 0) <;> (try simp only [hn, cond_true, cond_false, cdec, List.append_assoc, List.nil_append, List.cons_append, List.append_nil] at h) <;> (try simp only [hn, cond_true, cond_false, cdec, List.append_assoc, List.nil_append, List.cons_append, List.append_nil]) <;> (repeat' apply And.intro) <;> first | omega | exact h
abbrev Y27c3 : Type := Int → Int → Int → List Int → (List Int → Prop) → Prop
set_option maxHeartbeats 4000000 in
set_option maxRecDepth 100000 in
def F27c3  (b n c : Int) (w : List Int) (k1 : List Int → Prop) : Prop :=
  let q0 := ((c :: w) ++ ([64, 100, 116, 112, 111, 102, 102] : List Int))
  let q1 := ((([40, 37] : List Int) ++ (regI b 8)) ++ ([41] : List Int))
  let q2 := (List.length ((q0 ++ (sgnI n)) ++ q1))
  let q3 := (decide (((List.length (([40, 37] : List Int) ++ (regI b 8))) + 1) ≤ 4611686018427387904))
  let q4 := ((((List.length (q0 ++ q1)) - 0) : Nat) : Int)
  (bif (decide (((List.length (c :: w)) + 7) ≤ 4611686018427387904)) then (bif ((decide (((List.length q0) * 1) ≤ 140737488355328)) && (decide ((List.length q0) ≤ 140737488355328))) then (bif (n != 0) then (bif ((decide (((((List.length q0) - 0) + (List.length (sgnI n))) * 1) ≤ 140737488355328)) && (decide ((((List.length q0) - 0) + (List.length (sgnI n))) ≤ 140737488355328))) then (bif (decide ((2 + (List.length (regI b 8))) ≤ 4611686018427387904)) then (bif q3 then (bif ((decide (((((List.length (q0 ++ (sgnI n))) - 0) + (List.length q1)) * 1) ≤ 140737488355328)) && (decide ((((List.length (q0 ++ (sgnI n))) - 0) + (List.length q1)) ≤ 140737488355328))) then (bif (decide (0 < (q2 - 0))) then (bif ((decide (0 < (((q2 - 0) : Nat) : Int))) && (decide ((Int.toNat (((q2 - 0) : Nat) : Int)) ≤ q2))) then (k1 (List.take (Int.toNat (((q2 - 0) : Nat) : Int)) ((q0 ++ (sgnI n)) ++ q1))) else False) else False) else False) else False) else False) else False) else (bif (decide ((2 + (List.length (regI b 8))) ≤ 4611686018427387904)) then (bif q3 then (bif ((decide (((((List.length q0) - 0) + (List.length q1)) * 1) ≤ 140737488355328)) && (decide ((((List.length q0) - 0) + (List.length q1)) ≤ 140737488355328))) then (bif (decide (0 < ((List.length (q0 ++ q1)) - 0))) then (bif ((decide (0 < q4)) && (decide ((Int.toNat q4) ≤ (List.length (q0 ++ q1))))) then (k1 (List.take (Int.toNat q4) (q0 ++ q1))) else False) else False) else False) else False) else False)) else False) else False)
theorem F27c3_ok  (b n c : Int) (w : List Int) (K : V → Mem → Prop) : cbody Tryz.prog C7 (fun _ => none) 1000 (fnOf Tryz.prog 27) [(.agg [(.I .i64 3), (.I .i64 0), (.I .i64 b), (.I .i64 (-1)), (.I .i64 0), (.B false), (.B false), (.I .i64 n), (.S (c :: w)), (.I .i64 5)])] [] K =
    F27c3  b n c w (fun (u0 : List Int) => K (.S u0) []) := by kernel_rfl
theorem h27c3 (b : Int) (n : Int) (c : Int) (w : List Int) (hn0 : -9223372036854775808 ≤ n) (hn1 : n ≤ 9223372036854775807) (hw : (c :: w).length ≤ 255) (hb : 0 ≤ b) {k : List Int → Prop} (h : k (memI b (-1 : Int) (0 : Int) false false n (c :: w) (5 : Int))) : F27c3 b n c w k := by
  have l1 := numI_len hn0 hn1
  have l2 := sgnI_len hn0 hn1
  have l3 := regI_len b 8
  simp only [List.length_cons] at hw
  unfold F27c3
  simp only [Nat.sub_zero, takeL, dgS, modS, beq_self_eq_true, Bool.and_true, Bool.true_and, candF, cdec, ctrF]
  try simp (disch := omega) only [dt, df, cond_true, cond_false]
  try simp only [modI0, modI1, modI2, modI3, modI4, modI5, List.length_append, List.length_cons, List.length_nil]
  unfold memI tailI at h
  simp (disch := omega) only [dtx, dfx, cond_true, cond_false, List.append_assoc, List.nil_append, List.cons_append, List.append_nil, beq_self_eq_true, Bool.or_true, Bool.or_false, cons_beq_nil, zne, modI0, modI1, modI2, modI3, modI4, modI5] at h
  cases hn : (n != 0) <;> (try simp only [hn, cond_true, cond_false, cdec, List.append_assoc, List.nil_append, List.cons_append, List.append_nil] at h) <;> (try simp only [hn, cond_true, cond_false, cdec, List.append_assoc, List.nil_append, List.cons_append, List.append_nil]) <;> (repeat' apply And.intro) <;> first | omega | exact h
abbrev Y36c3 : Type := Int → Int → Int → List Int → (List Int → Prop) → Prop
set_option maxHeartbeats 4000000 in
set_option maxRecDepth 100000 in
def F36c3  (b n c : Int) (w : List Int) (k1 : List Int → Prop) : Prop :=
  let q0 := ((c :: w) ++ (modI 5))
  let q1 := ([40, 37] : List Int)
  (bif (decide ((0 + (List.length (c :: w))) ≤ 4611686018427387904)) then (modS 5 ((bif (((decide ((0 + (List.length (c :: w))) ≤ 4611686018427387904)) && ((c :: w) == (c :: w))) && (((c :: w) == (c :: w)) && true)) then (bif (decide (((List.length (c :: w)) + (List.length (modI 5))) ≤ 4611686018427387904)) then (bif (n != 0) then (bif (decide (((List.length q0) + (List.length (sgnI n))) ≤ 4611686018427387904)) then (bif (decide (b < 0)) then (k1 (q0 ++ (sgnI n))) else (bif (decide (((List.length (q0 ++ (sgnI n))) + 2) ≤ 4611686018427387904)) then (bif (decide (((List.length ((q0 ++ (sgnI n)) ++ q1)) + (List.length (regI b 8))) ≤ 4611686018427387904)) then (bif (decide (((List.length (((q0 ++ (sgnI n)) ++ q1) ++ (regI b 8))) + 1) ≤ 4611686018427387904)) then (k1 ((((q0 ++ (sgnI n)) ++ q1) ++ (regI b 8)) ++ ([41] : List Int))) else False) else False) else False)) else False) else (bif (decide (b < 0)) then (k1 q0) else (bif (decide (((List.length q0) + 2) ≤ 4611686018427387904)) then (bif (decide (((List.length (q0 ++ q1)) + (List.length (regI b 8))) ≤ 4611686018427387904)) then (bif (decide (((List.length ((q0 ++ q1) ++ (regI b 8))) + 1) ≤ 4611686018427387904)) then (k1 (((q0 ++ q1) ++ (regI b 8)) ++ ([41] : List Int))) else False) else False) else False))) else False) else False))) else False)
theorem F36c3_ok  (b n c : Int) (w : List Int) (K : V → Mem → Prop) : cbody Tryz.prog C7 (fun _ => none) 1000 (fnOf Tryz.prog 36) [(.agg [(.I .i64 3), (.I .i64 0), (.I .i64 b), (.I .i64 (-1)), (.I .i64 0), (.B false), (.B false), (.I .i64 n), (.S (c :: w)), (.I .i64 5)])] [] K =
    F36c3  b n c w (fun (u0 : List Int) => K (.S u0) []) := by kernel_rfl
theorem h36c3 (b : Int) (n : Int) (c : Int) (w : List Int) (hn0 : -9223372036854775808 ≤ n) (hn1 : n ≤ 9223372036854775807) (hw : (c :: w).length ≤ 255) (hb : 0 ≤ b) {k : List Int → Prop} (h : k (memI b (-1 : Int) (0 : Int) false false n (c :: w) (5 : Int))) : F36c3 b n c w k := by
  have l1 := numI_len hn0 hn1
  have l2 := sgnI_len hn0 hn1
  have l3 := regI_len b 8
  simp only [List.length_cons] at hw
  unfold F36c3
  simp only [Nat.sub_zero, takeL, dgS, modS, beq_self_eq_true, Bool.and_true, Bool.true_and, candF, cdec, ctrF]
  try simp (disch := omega) only [dt, df, cond_true, cond_false]
  try simp only [modI0, modI1, modI2, modI3, modI4, modI5, List.length_append, List.length_cons, List.length_nil]
  unfold memI tailI at h
  simp (disch := omega) only [dtx, dfx, cond_true, cond_false, List.append_assoc, List.nil_append, List.cons_append, List.append_nil, beq_self_eq_true, Bool.or_true, Bool.or_false, cons_beq_nil, zne, modI0, modI1, modI2, modI3, modI4, modI5] at h
  cases hn : (n != 0) <;> (try simp only [hn, cond_true, cond_false, cdec, List.append_assoc, List.nil_append, List.cons_append, List.append_nil] at h) <;> (try simp only [hn, cond_true, cond_false, cdec, List.append_assoc, List.nil_append, List.cons_append, List.append_nil]) <;> (repeat' apply And.intro) <;> first | omega | exact h
abbrev Y27d1 : Type := Int → Int → Int → Int → (List Int → Prop) → Prop
set_option maxHeartbeats 4000000 in
set_option maxRecDepth 100000 in
def F27d1  (b x s n : Int) (k1 : List Int → Prop) : Prop :=
  let q2 := (([40, 37] : List Int) ++ (regI b 8))
  let q0 := (q2 ++ ([44, 37] : List Int))
  let q6 := ((q0 ++ (regI x 8)) ++ ([44] : List Int))
  let q1 := ((q6 ++ (numI s)) ++ ([41] : List Int))
  let q9 := (decide (((List.length (q0 ++ (regI x 8))) + 1) ≤ 4611686018427387904))
  let q8 := (decide (((List.length q0) + (List.length (regI x 8))) ≤ 4611686018427387904))
  let q7 := (decide (((List.length q2) + 2) ≤ 4611686018427387904))
  let q4 := (decide ((2 + (List.length (regI b 8))) ≤ 4611686018427387904))
  let q3 := ((q9 && (q6 == q6)) && ((q8 && ((q0 ++ (regI x 8)) == (q0 ++ (regI x 8)))) && ((q7 && (q0 == q0)) && ((q4 && (q2 == q2)) && true))))
  let q5 := (q2 ++ ([41] : List Int))
  let q10 := (List.length ((numI n) ++ q1))
  let q11 := (List.length ((numI n) ++ q5))
  let q12 := (List.length q1)
  let q13 := (List.length q5)
  let q14 := (List.length (numI n))
  (bif (n != 0) then (bif ((decide ((q14 * 1) ≤ 140737488355328)) && (decide (q14 ≤ 140737488355328))) then (bif (decide (x ≥ 0)) then (bif ((s == s) && ((x == x) && true)) then (bif q4 then (bif q7 then (bif ((q7 && (q0 == q0)) && ((q4 && (q2 == q2)) && ((s == s) && true))) then (bif q8 then (bif q9 then (bif q3 then (bif (decide (((List.length q6) + (List.length (numI s))) ≤ 4611686018427387904)) then (bif (decide (((List.length (q6 ++ (numI s))) + 1) ≤ 4611686018427387904)) then (bif ((decide ((((q14 - 0) + q12) * 1) ≤ 140737488355328)) && (decide (((q14 - 0) + q12) ≤ 140737488355328))) then (bif (decide (0 < (q10 - 0))) then (bif ((decide (0 < (((q10 - 0) : Nat) : Int))) && (decide ((Int.toNat (((q10 - 0) : Nat) : Int)) ≤ q10))) then (k1 (List.take (Int.toNat (((q10 - 0) : Nat) : Int)) ((numI n) ++ q1))) else False) else False) else False) else False) else False) else False) else False) else False) else False) else False) else False) else False) else (bif q4 then (bif (decide (((List.length q2) + 1) ≤ 4611686018427387904)) then (bif ((decide ((((q14 - 0) + q13) * 1) ≤ 140737488355328)) && (decide (((q14 - 0) + q13) ≤ 140737488355328))) then (bif (decide (0 < (q11 - 0))) then (bif ((decide (0 < (((q11 - 0) : Nat) : Int))) && (decide ((Int.toNat (((q11 - 0) : Nat) : Int)) ≤ q11))) then (k1 (List.take (Int.toNat (((q11 - 0) : Nat) : Int)) ((numI n) ++ q5))) else False) else False) else False) else False) else False)) else False) else (bif (decide (x ≥ 0)) then (bif ((s == s) && ((x == x) && true)) then (bif q4 then (bif q7 then (bif ((q7 && (q0 == q0)) && ((q4 && (q2 == q2)) && ((s == s) && true))) then (bif q8 then (bif q9 then (bif q3 then (bif (decide (((List.length q6) + (List.length (numI s))) ≤ 4611686018427387904)) then (bif (decide (((List.length (q6 ++ (numI s))) + 1) ≤ 4611686018427387904)) then (bif ((decide ((q12 * 1) ≤ 140737488355328)) && (decide (q12 ≤ 140737488355328))) then (bif (decide (0 < (q12 - 0))) then (bif ((decide (0 < (((q12 - 0) : Nat) : Int))) && (decide ((Int.toNat (((q12 - 0) : Nat) : Int)) ≤ q12))) then (k1 (List.take (Int.toNat (((q12 - 0) : Nat) : Int)) q1)) else False) else False) else False) else False) else False) else False) else False) else False) else False) else False) else False) else False) else (bif q4 then (bif (decide (((List.length q2) + 1) ≤ 4611686018427387904)) then (bif ((decide ((q13 * 1) ≤ 140737488355328)) && (decide (q13 ≤ 140737488355328))) then (bif (decide (0 < (q13 - 0))) then (bif ((decide (0 < (((q13 - 0) : Nat) : Int))) && (decide ((Int.toNat (((q13 - 0) : Nat) : Int)) ≤ q13))) then (k1 (List.take (Int.toNat (((q13 - 0) : Nat) : Int)) q5)) else False) else False) else False) else False) else False)))
theorem F27d1_ok  (b x s n : Int) (K : V → Mem → Prop) : cbody Tryz.prog C7 (fun _ => none) 1000 (fnOf Tryz.prog 27) [(.agg [(.I .i64 3), (.I .i64 0), (.I .i64 b), (.I .i64 x), (.I .i64 s), (.B false), (.B false), (.I .i64 n), (.S ([] : List Int)), (.I .i64 0)])] [] K =
    F27d1  b x s n (fun (u0 : List Int) => K (.S u0) []) := by kernel_rfl
theorem h27d1 (b : Int) (x : Int) (s : Int) (n : Int) (hn0 : -9223372036854775808 ≤ n) (hn1 : n ≤ 9223372036854775807) (hx : 0 ≤ x) (hs0 : 0 ≤ s) (hs1 : s ≤ 8) (hb : 0 ≤ b) {k : List Int → Prop} (h : k (memI b x s false false n [] (0 : Int))) : F27d1 b x s n k := by
  have l1 := numI_len hn0 hn1
  have l2 := sgnI_len hn0 hn1
  have l3 := regI_len b 8
  have l4 := regI_len x 8
  have l5 := numI_len (n := s) (by omega) (by omega)
  unfold F27d1
  simp only [Nat.sub_zero, takeL, dgS, modS, beq_self_eq_true, Bool.and_true, Bool.true_and, candF, cdec, ctrF]
  try simp (disch := omega) only [dt, df, cond_true, cond_false]
  try simp only [modI0, modI1, modI2, modI3, modI4, modI5, List.length_append, List.length_cons, List.length_nil]
  unfold memI tailI at h
  simp (disch := omega) only [dtx, dfx, cond_true, cond_false, List.append_assoc, List.nil_append, List.cons_append, List.append_nil, beq_self_eq_true, Bool.or_true, Bool.or_false, cons_beq_nil, zne, modI0, modI1, modI2, modI3, modI4, modI5] at h
  cases hn : (n != 0) <;> (try simp only [hn, cond_true, cond_false, cdec, List.append_assoc, List.nil_append, List.cons_append, List.append_nil] at h) <;> (try simp only [hn, cond_true, cond_false, cdec, List.append_assoc, List.nil_append, List.cons_append, List.append_nil]) <;> (repeat' apply And.intro) <;> first | omega | exact h
abbrev Y36d1 : Type := Int → Int → Int → Int → (List Int → Prop) → Prop
set_option maxHeartbeats 4000000 in
set_option maxRecDepth 100000 in
def F36d1  (b x s n : Int) (k1 : List Int → Prop) : Prop :=
  let q3 := ([40, 37] : List Int)
  let q0 := (((numI n) ++ q3) ++ (regI b 8))
  let q11 := (q3 ++ (regI b 8))
  let q1 := (q11 ++ ([44, 37] : List Int))
  let q2 := (q0 ++ ([44, 37] : List Int))
  let q10 := (decide (((List.length (numI n)) + 2) ≤ 4611686018427387904))
  let q4 := ((q10 && (((numI n) ++ q3) == ((numI n) ++ q3))) && (((numI n) == (numI n)) && true))
  let q5 := (decide (((List.length ((numI n) ++ q3)) + (List.length (regI b 8))) ≤ 4611686018427387904))
  let q6 := (decide ((2 + (List.length (regI b 8))) ≤ 4611686018427387904))
  let q13 := (regI x 8)
  let q7 := ((q2 ++ q13) ++ ([44] : List Int))
  let q8 := ((q1 ++ q13) ++ ([44] : List Int))
  let q9 := (decide (((List.length q11) + 2) ≤ 4611686018427387904))
  let q12 := (decide (((List.length q0) + 2) ≤ 4611686018427387904))
  (bif (n != 0) then (bif (decide ((0 + (List.length (numI n))) ≤ 4611686018427387904)) then (bif (decide (b < 0)) then (k1 (numI n)) else (bif (decide (x < 0)) then (bif q10 then (bif q5 then (bif (decide (((List.length q0) + 1) ≤ 4611686018427387904)) then (k1 (q0 ++ ([41] : List Int))) else False) else False) else False) else (bif q10 then (bif ((s == s) && ((x == x) && q4)) then (bif q5 then (bif q12 then (bif ((q12 && (q2 == q2)) && ((q5 && (q0 == q0)) && ((s == s) && q4))) then (bif (decide (((List.length q2) + (List.length q13)) ≤ 4611686018427387904)) then (bif (decide (((List.length (q2 ++ q13)) + 1) ≤ 4611686018427387904)) then (dgS s ((bif (((decide (((List.length (q2 ++ q13)) + 1) ≤ 4611686018427387904)) && (q7 == q7)) && (((decide (((List.length q2) + (List.length q13)) ≤ 4611686018427387904)) && ((q2 ++ q13) == (q2 ++ q13))) && ((q12 && (q2 == q2)) && ((q5 && (q0 == q0)) && q4)))) then (bif (decide (((List.length q7) + (List.length (numI s))) ≤ 4611686018427387904)) then (bif (decide (((List.length (q7 ++ (numI s))) + 1) ≤ 4611686018427387904)) then (k1 ((q7 ++ (numI s)) ++ ([41] : List Int))) else False) else False) else False))) else False) else False) else False) else False) else False) else False) else False))) else False) else (bif (decide (b < 0)) then (k1 ([] : List Int)) else (bif (decide (x < 0)) then (bif q6 then (bif (decide (((List.length q11) + 1) ≤ 4611686018427387904)) then (k1 (q11 ++ ([41] : List Int))) else False) else False) else (bif ((s == s) && ((x == x) && true)) then (bif q6 then (bif q9 then (bif ((q9 && (q1 == q1)) && ((q6 && (q11 == q11)) && ((s == s) && true))) then (bif (decide (((List.length q1) + (List.length q13)) ≤ 4611686018427387904)) then (bif (decide (((List.length (q1 ++ q13)) + 1) ≤ 4611686018427387904)) then (dgS s ((bif (((decide (((List.length (q1 ++ q13)) + 1) ≤ 4611686018427387904)) && (q8 == q8)) && (((decide (((List.length q1) + (List.length q13)) ≤ 4611686018427387904)) && ((q1 ++ q13) == (q1 ++ q13))) && ((q9 && (q1 == q1)) && ((q6 && (q11 == q11)) && true)))) then (bif (decide (((List.length q8) + (List.length (numI s))) ≤ 4611686018427387904)) then (bif (decide (((List.length (q8 ++ (numI s))) + 1) ≤ 4611686018427387904)) then (k1 ((q8 ++ (numI s)) ++ ([41] : List Int))) else False) else False) else False))) else False) else False) else False) else False) else False) else False))))
theorem F36d1_ok  (b x s n : Int) (K : V → Mem → Prop) : cbody Tryz.prog C7 (fun _ => none) 1000 (fnOf Tryz.prog 36) [(.agg [(.I .i64 3), (.I .i64 0), (.I .i64 b), (.I .i64 x), (.I .i64 s), (.B false), (.B false), (.I .i64 n), (.S ([] : List Int)), (.I .i64 0)])] [] K =
    F36d1  b x s n (fun (u0 : List Int) => K (.S u0) []) := by kernel_rfl
theorem h36d1 (b : Int) (x : Int) (s : Int) (n : Int) (hn0 : -9223372036854775808 ≤ n) (hn1 : n ≤ 9223372036854775807) (hx : 0 ≤ x) (hs0 : 0 ≤ s) (hs1 : s ≤ 8) (hb : 0 ≤ b) {k : List Int → Prop} (h : k (memI b x s false false n [] (0 : Int))) : F36d1 b x s n k := by
  have l1 := numI_len hn0 hn1
  have l2 := sgnI_len hn0 hn1
  have l3 := regI_len b 8
  have l4 := regI_len x 8
  have l5 := numI_len (n := s) (by omega) (by omega)
  unfold F36d1
  simp only [Nat.sub_zero, takeL, dgS, modS, beq_self_eq_true, Bool.and_true, Bool.true_and, candF, cdec, ctrF]
  try simp (disch := omega) only [dt, df, cond_true, cond_false]
  try simp only [modI0, modI1, modI2, modI3, modI4, modI5, List.length_append, List.length_cons, List.length_nil]
  unfold memI tailI at h
  simp (disch := omega) only [dtx, dfx, cond_true, cond_false, List.append_assoc, List.nil_append, List.cons_append, List.append_nil, beq_self_eq_true, Bool.or_true, Bool.or_false, cons_beq_nil, zne, modI0, modI1, modI2, modI3, modI4, modI5] at h
  cases hn : (n != 0) <;> (try simp only [hn, cond_true, cond_false, cdec, List.append_assoc, List.nil_append, List.cons_append, List.append_nil] at h) <;> (try simp only [hn, cond_true, cond_false, cdec, List.append_assoc, List.nil_append, List.cons_append, List.append_nil]) <;> (repeat' apply And.intro) <;> first | omega | exact h
abbrev Y27d2 : Type := Int → Int → Int → Int → Int → List Int → (List Int → Prop) → Prop
set_option maxHeartbeats 4000000 in
set_option maxRecDepth 100000 in
def F27d2  (b x s n c : Int) (w : List Int) (k1 : List Int → Prop) : Prop :=
  let q3 := (([40, 37] : List Int) ++ (regI b 8))
  let q0 := (q3 ++ ([44, 37] : List Int))
  let q1 := ((c :: w) ++ ([64, 116, 112, 111, 102, 102] : List Int))
  let q7 := ((q0 ++ (regI x 8)) ++ ([44] : List Int))
  let q2 := ((q7 ++ (numI s)) ++ ([41] : List Int))
  let q11 := (decide (((List.length (q0 ++ (regI x 8))) + 1) ≤ 4611686018427387904))
  let q10 := (decide (((List.length q0) + (List.length (regI x 8))) ≤ 4611686018427387904))
  let q8 := (decide (((List.length q3) + 2) ≤ 4611686018427387904))
  let q5 := (decide ((2 + (List.length (regI b 8))) ≤ 4611686018427387904))
  let q4 := ((q11 && (q7 == q7)) && ((q10 && ((q0 ++ (regI x 8)) == (q0 ++ (regI x 8)))) && ((q8 && (q0 == q0)) && ((q5 && (q3 == q3)) && true))))
  let q6 := (q3 ++ ([41] : List Int))
  let q9 := (q1 ++ (sgnI n))
  let q12 := ((List.length q1) - 0)
  let q13 := ((((List.length (q9 ++ q2)) - 0) : Nat) : Int)
  let q14 := ((((List.length (q9 ++ q6)) - 0) : Nat) : Int)
  let q15 := ((((List.length (q1 ++ q2)) - 0) : Nat) : Int)
  let q16 := ((((List.length (q1 ++ q6)) - 0) : Nat) : Int)
  (bif (decide (((List.length (c :: w)) + 6) ≤ 4611686018427387904)) then (bif ((decide (((List.length q1) * 1) ≤ 140737488355328)) && (decide ((List.length q1) ≤ 140737488355328))) then (bif (n != 0) then (bif ((decide (((q12 + (List.length (sgnI n))) * 1) ≤ 140737488355328)) && (decide ((q12 + (List.length (sgnI n))) ≤ 140737488355328))) then (bif (decide (x ≥ 0)) then (bif ((s == s) && ((x == x) && true)) then (bif q5 then (bif q8 then (bif ((q8 && (q0 == q0)) && ((q5 && (q3 == q3)) && ((s == s) && true))) then (bif q10 then (bif q11 then (bif q4 then (bif (decide (((List.length q7) + (List.length (numI s))) ≤ 4611686018427387904)) then (bif (decide (((List.length (q7 ++ (numI s))) + 1) ≤ 4611686018427387904)) then (bif ((decide (((((List.length q9) - 0) + (List.length q2)) * 1) ≤ 140737488355328)) && (decide ((((List.length q9) - 0) + (List.length q2)) ≤ 140737488355328))) then (bif (decide (0 < ((List.length (q9 ++ q2)) - 0))) then (bif ((decide (0 < q13)) && (decide ((Int.toNat q13) ≤ (List.length (q9 ++ q2))))) then (k1 (List.take (Int.toNat q13) (q9 ++ q2))) else False) else False) else False) else False) else False) else False) else False) else False) else False) else False) else False) else False) else (bif q5 then (bif (decide (((List.length q3) + 1) ≤ 4611686018427387904)) then (bif ((decide (((((List.length q9) - 0) + (List.length q6)) * 1) ≤ 140737488355328)) && (decide ((((List.length q9) - 0) + (List.length q6)) ≤ 140737488355328))) then (bif (decide (0 < ((List.length (q9 ++ q6)) - 0))) then (bif ((decide (0 < q14)) && (decide ((Int.toNat q14) ≤ (List.length (q9 ++ q6))))) then (k1 (List.take (Int.toNat q14) (q9 ++ q6))) else False) else False) else False) else False) else False)) else False) else (bif (decide (x ≥ 0)) then (bif ((s == s) && ((x == x) && true)) then (bif q5 then (bif q8 then (bif ((q8 && (q0 == q0)) && ((q5 && (q3 == q3)) && ((s == s) && true))) then (bif q10 then (bif q11 then (bif q4 then (bif (decide (((List.length q7) + (List.length (numI s))) ≤ 4611686018427387904)) then (bif (decide (((List.length (q7 ++ (numI s))) + 1) ≤ 4611686018427387904)) then (bif ((decide (((q12 + (List.length q2)) * 1) ≤ 140737488355328)) && (decide ((q12 + (List.length q2)) ≤ 140737488355328))) then (bif (decide (0 < ((List.length (q1 ++ q2)) - 0))) then (bif ((decide (0 < q15)) && (decide ((Int.toNat q15) ≤ (List.length (q1 ++ q2))))) then (k1 (List.take (Int.toNat q15) (q1 ++ q2))) else False) else False) else False) else False) else False) else False) else False) else False) else False) else False) else False) else False) else (bif q5 then (bif (decide (((List.length q3) + 1) ≤ 4611686018427387904)) then (bif ((decide (((q12 + (List.length q6)) * 1) ≤ 140737488355328)) && (decide ((q12 + (List.length q6)) ≤ 140737488355328))) then (bif (decide (0 < ((List.length (q1 ++ q6)) - 0))) then (bif ((decide (0 < q16)) && (decide ((Int.toNat q16) ≤ (List.length (q1 ++ q6))))) then (k1 (List.take (Int.toNat q16) (q1 ++ q6))) else False) else False) else False) else False) else False))) else False) else False)
theorem F27d2_ok  (b x s n c : Int) (w : List Int) (K : V → Mem → Prop) : cbody Tryz.prog C7 (fun _ => none) 1000 (fnOf Tryz.prog 27) [(.agg [(.I .i64 3), (.I .i64 0), (.I .i64 b), (.I .i64 x), (.I .i64 s), (.B false), (.B false), (.I .i64 n), (.S (c :: w)), (.I .i64 4)])] [] K =
    F27d2  b x s n c w (fun (u0 : List Int) => K (.S u0) []) := by kernel_rfl
theorem h27d2 (b : Int) (x : Int) (s : Int) (n : Int) (c : Int) (w : List Int) (hn0 : -9223372036854775808 ≤ n) (hn1 : n ≤ 9223372036854775807) (hw : (c :: w).length ≤ 255) (hx : 0 ≤ x) (hs0 : 0 ≤ s) (hs1 : s ≤ 8) (hb : 0 ≤ b) {k : List Int → Prop} (h : k (memI b x s false false n (c :: w) (4 : Int))) : F27d2 b x s n c w k := by
  have l1 := numI_len hn0 hn1
  have l2 := sgnI_len hn0 hn1
  have l3 := regI_len b 8
  have l4 := regI_len x 8
  have l5 := numI_len (n := s) (by omega) (by omega)
  simp only [List.length_cons] at hw
  unfold F27d2
  simp only [Nat.sub_zero, takeL, dgS, modS, beq_self_eq_true, Bool.and_true, Bool.true_and, candF, cdec, ctrF]
  try simp (disch := omega) only [dt, df, cond_true, cond_false]
  try simp only [modI0, modI1, modI2, modI3, modI4, modI5, List.length_append, List.length_cons, List.length_nil]
  unfold memI tailI at h
  simp (disch := omega) only [dtx, dfx, cond_true, cond_false, List.append_assoc, List.nil_append, List.cons_append, List.append_nil, beq_self_eq_true, Bool.or_true, Bool.or_false, cons_beq_nil, zne, modI0, modI1, modI2, modI3, modI4, modI5] at h
  cases hn : (n != 0) <;> (try simp only [hn, cond_true, cond_false, cdec, List.append_assoc, List.nil_append, List.cons_append, List.append_nil] at h) <;> (try simp only [hn, cond_true, cond_false, cdec, List.append_assoc, List.nil_append, List.cons_append, List.append_nil]) <;> (repeat' apply And.intro) <;> first | omega | exact h
abbrev Y36d2 : Type := Int → Int → Int → Int → Int → List Int → (List Int → Prop) → Prop
set_option maxHeartbeats 4000000 in
set_option maxRecDepth 100000 in
def F36d2  (b x s n c : Int) (w : List Int) (k1 : List Int → Prop) : Prop :=
  let q4 := ((c :: w) ++ (modI 4))
  let q0 := ((q4 ++ (sgnI n)) ++ ([40, 37] : List Int))
  let q1 := (q4 ++ ([40, 37] : List Int))
  let q11 := (regI b 8)
  let q2 := ((q0 ++ q11) ++ ([44, 37] : List Int))
  let q3 := ((q1 ++ q11) ++ ([44, 37] : List Int))
  let q12 := (decide (((List.length (q4 ++ (sgnI n))) + 2) ≤ 4611686018427387904))
  let q5 := ((q12 && (q0 == q0)) && (((q4 ++ (sgnI n)) == (q4 ++ (sgnI n))) && true))
  let q6 := (decide (((List.length q0) + (List.length q11)) ≤ 4611686018427387904))
  let q7 := (decide (((List.length q1) + (List.length q11)) ≤ 4611686018427387904))
  let q8 := (decide (((List.length q4) + 2) ≤ 4611686018427387904))
  let q15 := (regI x 8)
  let q9 := ((q2 ++ q15) ++ ([44] : List Int))
  let q10 := ((q3 ++ q15) ++ ([44] : List Int))
  let q13 := (decide (((List.length (q0 ++ q11)) + 2) ≤ 4611686018427387904))
  let q14 := (decide (((List.length (q1 ++ q11)) + 2) ≤ 4611686018427387904))
  let q16 := ((q8 && (q1 == q1)) && ((q4 == q4) && true))
  (bif (decide ((0 + (List.length (c :: w))) ≤ 4611686018427387904)) then (modS 4 ((bif (((decide ((0 + (List.length (c :: w))) ≤ 4611686018427387904)) && ((c :: w) == (c :: w))) && (((c :: w) == (c :: w)) && true)) then (bif (decide (((List.length (c :: w)) + (List.length (modI 4))) ≤ 4611686018427387904)) then (bif (n != 0) then (bif (decide (((List.length q4) + (List.length (sgnI n))) ≤ 4611686018427387904)) then (bif (decide (b < 0)) then (k1 (q4 ++ (sgnI n))) else (bif (decide (x < 0)) then (bif q12 then (bif q6 then (bif (decide (((List.length (q0 ++ q11)) + 1) ≤ 4611686018427387904)) then (k1 ((q0 ++ q11) ++ ([41] : List Int))) else False) else False) else False) else (bif q12 then (bif ((s == s) && ((x == x) && q5)) then (bif q6 then (bif q13 then (bif ((q13 && (q2 == q2)) && ((q6 && ((q0 ++ q11) == (q0 ++ q11))) && ((s == s) && q5))) then (bif (decide (((List.length q2) + (List.length q15)) ≤ 4611686018427387904)) then (bif (decide (((List.length (q2 ++ q15)) + 1) ≤ 4611686018427387904)) then (dgS s ((bif (((decide (((List.length (q2 ++ q15)) + 1) ≤ 4611686018427387904)) && (q9 == q9)) && (((decide (((List.length q2) + (List.length q15)) ≤ 4611686018427387904)) && ((q2 ++ q15) == (q2 ++ q15))) && ((q13 && (q2 == q2)) && ((q6 && ((q0 ++ q11) == (q0 ++ q11))) && q5)))) then (bif (decide (((List.length q9) + (List.length (numI s))) ≤ 4611686018427387904)) then (bif (decide (((List.length (q9 ++ (numI s))) + 1) ≤ 4611686018427387904)) then (k1 ((q9 ++ (numI s)) ++ ([41] : List Int))) else False) else False) else False))) else False) else False) else False) else False) else False) else False) else False))) else False) else (bif (decide (b < 0)) then (k1 q4) else (bif (decide (x < 0)) then (bif q8 then (bif q7 then (bif (decide (((List.length (q1 ++ q11)) + 1) ≤ 4611686018427387904)) then (k1 ((q1 ++ q11) ++ ([41] : List Int))) else False) else False) else False) else (bif q8 then (bif ((s == s) && ((x == x) && q16)) then (bif q7 then (bif q14 then (bif ((q14 && (q3 == q3)) && ((q7 && ((q1 ++ q11) == (q1 ++ q11))) && ((s == s) && q16))) then (bif (decide (((List.length q3) + (List.length q15)) ≤ 4611686018427387904)) then (bif (decide (((List.length (q3 ++ q15)) + 1) ≤ 4611686018427387904)) then (dgS s ((bif (((decide (((List.length (q3 ++ q15)) + 1) ≤ 4611686018427387904)) && (q10 == q10)) && (((decide (((List.length q3) + (List.length q15)) ≤ 4611686018427387904)) && ((q3 ++ q15) == (q3 ++ q15))) && ((q14 && (q3 == q3)) && ((q7 && ((q1 ++ q11) == (q1 ++ q11))) && q16)))) then (bif (decide (((List.length q10) + (List.length (numI s))) ≤ 4611686018427387904)) then (bif (decide (((List.length (q10 ++ (numI s))) + 1) ≤ 4611686018427387904)) then (k1 ((q10 ++ (numI s)) ++ ([41] : List Int))) else False) else False) else False))) else False) else False) else False) else False) else False) else False) else False)))) else False) else False))) else False)
theorem F36d2_ok  (b x s n c : Int) (w : List Int) (K : V → Mem → Prop) : cbody Tryz.prog C7 (fun _ => none) 1000 (fnOf Tryz.prog 36) [(.agg [(.I .i64 3), (.I .i64 0), (.I .i64 b), (.I .i64 x), (.I .i64 s), (.B false), (.B false), (.I .i64 n), (.S (c :: w)), (.I .i64 4)])] [] K =
    F36d2  b x s n c w (fun (u0 : List Int) => K (.S u0) []) := by kernel_rfl
theorem h36d2 (b : Int) (x : Int) (s : Int) (n : Int) (c : Int) (w : List Int) (hn0 : -9223372036854775808 ≤ n) (hn1 : n ≤ 9223372036854775807) (hw : (c :: w).length ≤ 255) (hx : 0 ≤ x) (hs0 : 0 ≤ s) (hs1 : s ≤ 8) (hb : 0 ≤ b) {k : List Int → Prop} (h : k (memI b x s false false n (c :: w) (4 : Int))) : F36d2 b x s n c w k := by
  have l1 := numI_len hn0 hn1
  have l2 := sgnI_len hn0 hn1
  have l3 := regI_len b 8
  have l4 := regI_len x 8
  have l5 := numI_len (n := s) (by omega) (by omega)
  simp only [List.length_cons] at hw
  unfold F36d2
  simp only [Nat.sub_zero, takeL, dgS, modS, beq_self_eq_true, Bool.and_true, Bool.true_and, candF, cdec, ctrF]
  try simp (disch := omega) only [dt, df, cond_true, cond_false]
  try simp only [modI0, modI1, modI2, modI3, modI4, modI5, List.length_append, List.length_cons, List.length_nil]
  unfold memI tailI at h
  simp (disch := omega) only [dtx, dfx, cond_true, cond_false, List.append_assoc, List.nil_append, List.cons_append, List.append_nil, beq_self_eq_true, Bool.or_true, Bool.or_false, cons_beq_nil, zne, modI0, modI1, modI2, modI3, modI4, modI5] at h
  cases hn : (n != 0) <;> (try simp only [hn, cond_true, cond_false, cdec, List.append_assoc, List.nil_append, List.cons_append, List.append_nil] at h) <;> (try simp only [hn, cond_true, cond_false, cdec, List.append_assoc, List.nil_append, List.cons_append, List.append_nil]) <;> (repeat' apply And.intro) <;> first | omega | exact h
abbrev Y27d3 : Type := Int → Int → Int → Int → Int → List Int → (List Int → Prop) → Prop
set_option maxHeartbeats 4000000 in
set_option maxRecDepth 100000 in
def F27d3  (b x s n c : Int) (w : List Int) (k1 : List Int → Prop) : Prop :=
  let q3 := (([40, 37] : List Int) ++ (regI b 8))
  let q0 := (q3 ++ ([44, 37] : List Int))
  let q1 := ((c :: w) ++ ([64, 100, 116, 112, 111, 102, 102] : List Int))
  let q7 := ((q0 ++ (regI x 8)) ++ ([44] : List Int))
  let q2 := ((q7 ++ (numI s)) ++ ([41] : List Int))
  let q11 := (decide (((List.length (q0 ++ (regI x 8))) + 1) ≤ 4611686018427387904))
  let q10 := (decide (((List.length q0) + (List.length (regI x 8))) ≤ 4611686018427387904))
  let q8 := (decide (((List.length q3) + 2) ≤ 4611686018427387904))
  let q5 := (decide ((2 + (List.length (regI b 8))) ≤ 4611686018427387904))
  let q4 := ((q11 && (q7 == q7)) && ((q10 && ((q0 ++ (regI x 8)) == (q0 ++ (regI x 8)))) && ((q8 && (q0 == q0)) && ((q5 && (q3 == q3)) && true))))
  let q6 := (q3 ++ ([41] : List Int))
  let q9 := (q1 ++ (sgnI n))
  let q12 := ((List.length q1) - 0)
  let q13 := ((((List.length (q9 ++ q2)) - 0) : Nat) : Int)
  let q14 := ((((List.length (q9 ++ q6)) - 0) : Nat) : Int)
  let q15 := ((((List.length (q1 ++ q2)) - 0) : Nat) : Int)
  let q16 := ((((List.length (q1 ++ q6)) - 0) : Nat) : Int)
  (bif (decide (((List.length (c :: w)) + 7) ≤ 4611686018427387904)) then (bif ((decide (((List.length q1) * 1) ≤ 140737488355328)) && (decide ((List.length q1) ≤ 140737488355328))) then (bif (n != 0) then (bif ((decide (((q12 + (List.length (sgnI n))) * 1) ≤ 140737488355328)) && (decide ((q12 + (List.length (sgnI n))) ≤ 140737488355328))) then (bif (decide (x ≥ 0)) then (bif ((s == s) && ((x == x) && true)) then (bif q5 then (bif q8 then (bif ((q8 && (q0 == q0)) && ((q5 && (q3 == q3)) && ((s == s) && true))) then (bif q10 then (bif q11 then (bif q4 then (bif (decide (((List.length q7) + (List.length (numI s))) ≤ 4611686018427387904)) then (bif (decide (((List.length (q7 ++ (numI s))) + 1) ≤ 4611686018427387904)) then (bif ((decide (((((List.length q9) - 0) + (List.length q2)) * 1) ≤ 140737488355328)) && (decide ((((List.length q9) - 0) + (List.length q2)) ≤ 140737488355328))) then (bif (decide (0 < ((List.length (q9 ++ q2)) - 0))) then (bif ((decide (0 < q13)) && (decide ((Int.toNat q13) ≤ (List.length (q9 ++ q2))))) then (k1 (List.take (Int.toNat q13) (q9 ++ q2))) else False) else False) else False) else False) else False) else False) else False) else False) else False) else False) else False) else False) else (bif q5 then (bif (decide (((List.length q3) + 1) ≤ 4611686018427387904)) then (bif ((decide (((((List.length q9) - 0) + (List.length q6)) * 1) ≤ 140737488355328)) && (decide ((((List.length q9) - 0) + (List.length q6)) ≤ 140737488355328))) then (bif (decide (0 < ((List.length (q9 ++ q6)) - 0))) then (bif ((decide (0 < q14)) && (decide ((Int.toNat q14) ≤ (List.length (q9 ++ q6))))) then (k1 (List.take (Int.toNat q14) (q9 ++ q6))) else False) else False) else False) else False) else False)) else False) else (bif (decide (x ≥ 0)) then (bif ((s == s) && ((x == x) && true)) then (bif q5 then (bif q8 then (bif ((q8 && (q0 == q0)) && ((q5 && (q3 == q3)) && ((s == s) && true))) then (bif q10 then (bif q11 then (bif q4 then (bif (decide (((List.length q7) + (List.length (numI s))) ≤ 4611686018427387904)) then (bif (decide (((List.length (q7 ++ (numI s))) + 1) ≤ 4611686018427387904)) then (bif ((decide (((q12 + (List.length q2)) * 1) ≤ 140737488355328)) && (decide ((q12 + (List.length q2)) ≤ 140737488355328))) then (bif (decide (0 < ((List.length (q1 ++ q2)) - 0))) then (bif ((decide (0 < q15)) && (decide ((Int.toNat q15) ≤ (List.length (q1 ++ q2))))) then (k1 (List.take (Int.toNat q15) (q1 ++ q2))) else False) else False) else False) else False) else False) else False) else False) else False) else False) else False) else False) else False) else (bif q5 then (bif (decide (((List.length q3) + 1) ≤ 4611686018427387904)) then (bif ((decide (((q12 + (List.length q6)) * 1) ≤ 140737488355328)) && (decide ((q12 + (List.length q6)) ≤ 140737488355328))) then (bif (decide (0 < ((List.length (q1 ++ q6)) - 0))) then (bif ((decide (0 < q16)) && (decide ((Int.toNat q16) ≤ (List.length (q1 ++ q6))))) then (k1 (List.take (Int.toNat q16) (q1 ++ q6))) else False) else False) else False) else False) else False))) else False) else False)
theorem F27d3_ok  (b x s n c : Int) (w : List Int) (K : V → Mem → Prop) : cbody Tryz.prog C7 (fun _ => none) 1000 (fnOf Tryz.prog 27) [(.agg [(.I .i64 3), (.I .i64 0), (.I .i64 b), (.I .i64 x), (.I .i64 s), (.B false), (.B false), (.I .i64 n), (.S (c :: w)), (.I .i64 5)])] [] K =
    F27d3  b x s n c w (fun (u0 : List Int) => K (.S u0) []) := by kernel_rfl
theorem h27d3 (b : Int) (x : Int) (s : Int) (n : Int) (c : Int) (w : List Int) (hn0 : -9223372036854775808 ≤ n) (hn1 : n ≤ 9223372036854775807) (hw : (c :: w).length ≤ 255) (hx : 0 ≤ x) (hs0 : 0 ≤ s) (hs1 : s ≤ 8) (hb : 0 ≤ b) {k : List Int → Prop} (h : k (memI b x s false false n (c :: w) (5 : Int))) : F27d3 b x s n c w k := by
  have l1 := numI_len hn0 hn1
  have l2 := sgnI_len hn0 hn1
  have l3 := regI_len b 8
  have l4 := regI_len x 8
  have l5 := numI_len (n := s) (by omega) (by omega)
  simp only [List.length_cons] at hw
  unfold F27d3
  simp only [Nat.sub_zero, takeL, dgS, modS, beq_self_eq_true, Bool.and_true, Bool.true_and, candF, cdec, ctrF]
  try simp (disch := omega) only [dt, df, cond_true, cond_false]
  try simp only [modI0, modI1, modI2, modI3, modI4, modI5, List.length_append, List.length_cons, List.length_nil]
  unfold memI tailI at h
  simp (disch := omega) only [dtx, dfx, cond_true, cond_false, List.append_assoc, List.nil_append, List.cons_append, List.append_nil, beq_self_eq_true, Bool.or_true, Bool.or_false, cons_beq_nil, zne, modI0, modI1, modI2, modI3, modI4, modI5] at h
  cases hn : (n != 0) <;> (try simp only [hn, cond_true, cond_false, cdec, List.append_assoc, List.nil_append, List.cons_append, List.append_nil] at h) <;> (try simp only [hn, cond_true, cond_false, cdec, List.append_assoc, List.nil_append, List.cons_append, List.append_nil]) <;> (repeat' apply And.intro) <;> first | omega | exact h
abbrev Y36d3 : Type := Int → Int → Int → Int → Int → List Int → (List Int → Prop) → Prop
set_option maxHeartbeats 4000000 in
set_option maxRecDepth 100000 in
def F36d3  (b x s n c : Int) (w : List Int) (k1 : List Int → Prop) : Prop :=
  let q4 := ((c :: w) ++ (modI 5))
  let q0 := ((q4 ++ (sgnI n)) ++ ([40, 37] : List Int))
  let q1 := (q4 ++ ([40, 37] : List Int))
  let q11 := (regI b 8)
  let q2 := ((q0 ++ q11) ++ ([44, 37] : List Int))
  let q3 := ((q1 ++ q11) ++ ([44, 37] : List Int))
  let q12 := (decide (((List.length (q4 ++ (sgnI n))) + 2) ≤ 4611686018427387904))
  let q5 := ((q12 && (q0 == q0)) && (((q4 ++ (sgnI n)) == (q4 ++ (sgnI n))) && true))
  let q6 := (decide (((List.length q0) + (List.length q11)) ≤ 4611686018427387904))
  let q7 := (decide (((List.length q1) + (List.length q11)) ≤ 4611686018427387904))
  let q8 := (decide (((List.length q4) + 2) ≤ 4611686018427387904))
  let q15 := (regI x 8)
  let q9 := ((q2 ++ q15) ++ ([44] : List Int))
  let q10 := ((q3 ++ q15) ++ ([44] : List Int))
  let q13 := (decide (((List.length (q0 ++ q11)) + 2) ≤ 4611686018427387904))
  let q14 := (decide (((List.length (q1 ++ q11)) + 2) ≤ 4611686018427387904))
  let q16 := ((q8 && (q1 == q1)) && ((q4 == q4) && true))
  (bif (decide ((0 + (List.length (c :: w))) ≤ 4611686018427387904)) then (modS 5 ((bif (((decide ((0 + (List.length (c :: w))) ≤ 4611686018427387904)) && ((c :: w) == (c :: w))) && (((c :: w) == (c :: w)) && true)) then (bif (decide (((List.length (c :: w)) + (List.length (modI 5))) ≤ 4611686018427387904)) then (bif (n != 0) then (bif (decide (((List.length q4) + (List.length (sgnI n))) ≤ 4611686018427387904)) then (bif (decide (b < 0)) then (k1 (q4 ++ (sgnI n))) else (bif (decide (x < 0)) then (bif q12 then (bif q6 then (bif (decide (((List.length (q0 ++ q11)) + 1) ≤ 4611686018427387904)) then (k1 ((q0 ++ q11) ++ ([41] : List Int))) else False) else False) else False) else (bif q12 then (bif ((s == s) && ((x == x) && q5)) then (bif q6 then (bif q13 then (bif ((q13 && (q2 == q2)) && ((q6 && ((q0 ++ q11) == (q0 ++ q11))) && ((s == s) && q5))) then (bif (decide (((List.length q2) + (List.length q15)) ≤ 4611686018427387904)) then (bif (decide (((List.length (q2 ++ q15)) + 1) ≤ 4611686018427387904)) then (dgS s ((bif (((decide (((List.length (q2 ++ q15)) + 1) ≤ 4611686018427387904)) && (q9 == q9)) && (((decide (((List.length q2) + (List.length q15)) ≤ 4611686018427387904)) && ((q2 ++ q15) == (q2 ++ q15))) && ((q13 && (q2 == q2)) && ((q6 && ((q0 ++ q11) == (q0 ++ q11))) && q5)))) then (bif (decide (((List.length q9) + (List.length (numI s))) ≤ 4611686018427387904)) then (bif (decide (((List.length (q9 ++ (numI s))) + 1) ≤ 4611686018427387904)) then (k1 ((q9 ++ (numI s)) ++ ([41] : List Int))) else False) else False) else False))) else False) else False) else False) else False) else False) else False) else False))) else False) else (bif (decide (b < 0)) then (k1 q4) else (bif (decide (x < 0)) then (bif q8 then (bif q7 then (bif (decide (((List.length (q1 ++ q11)) + 1) ≤ 4611686018427387904)) then (k1 ((q1 ++ q11) ++ ([41] : List Int))) else False) else False) else False) else (bif q8 then (bif ((s == s) && ((x == x) && q16)) then (bif q7 then (bif q14 then (bif ((q14 && (q3 == q3)) && ((q7 && ((q1 ++ q11) == (q1 ++ q11))) && ((s == s) && q16))) then (bif (decide (((List.length q3) + (List.length q15)) ≤ 4611686018427387904)) then (bif (decide (((List.length (q3 ++ q15)) + 1) ≤ 4611686018427387904)) then (dgS s ((bif (((decide (((List.length (q3 ++ q15)) + 1) ≤ 4611686018427387904)) && (q10 == q10)) && (((decide (((List.length q3) + (List.length q15)) ≤ 4611686018427387904)) && ((q3 ++ q15) == (q3 ++ q15))) && ((q14 && (q3 == q3)) && ((q7 && ((q1 ++ q11) == (q1 ++ q11))) && q16)))) then (bif (decide (((List.length q10) + (List.length (numI s))) ≤ 4611686018427387904)) then (bif (decide (((List.length (q10 ++ (numI s))) + 1) ≤ 4611686018427387904)) then (k1 ((q10 ++ (numI s)) ++ ([41] : List Int))) else False) else False) else False))) else False) else False) else False) else False) else False) else False) else False)))) else False) else False))) else False)
theorem F36d3_ok  (b x s n c : Int) (w : List Int) (K : V → Mem → Prop) : cbody Tryz.prog C7 (fun _ => none) 1000 (fnOf Tryz.prog 36) [(.agg [(.I .i64 3), (.I .i64 0), (.I .i64 b), (.I .i64 x), (.I .i64 s), (.B false), (.B false), (.I .i64 n), (.S (c :: w)), (.I .i64 5)])] [] K =
    F36d3  b x s n c w (fun (u0 : List Int) => K (.S u0) []) := by kernel_rfl
theorem h36d3 (b : Int) (x : Int) (s : Int) (n : Int) (c : Int) (w : List Int) (hn0 : -9223372036854775808 ≤ n) (hn1 : n ≤ 9223372036854775807) (hw : (c :: w).length ≤ 255) (hx : 0 ≤ x) (hs0 : 0 ≤ s) (hs1 : s ≤ 8) (hb : 0 ≤ b) {k : List Int → Prop} (h : k (memI b x s false false n (c :: w) (5 : Int))) : F36d3 b x s n c w k := by
  have l1 := numI_len hn0 hn1
  have l2 := sgnI_len hn0 hn1
  have l3 := regI_len b 8
  have l4 := regI_len x 8
  have l5 := numI_len (n := s) (by omega) (by omega)
  simp only [List.length_cons] at hw
  unfold F36d3
  simp only [Nat.sub_zero, takeL, dgS, modS, beq_self_eq_true, Bool.and_true, Bool.true_and, candF, cdec, ctrF]
  try simp (disch := omega) only [dt, df, cond_true, cond_false]
  try simp only [modI0, modI1, modI2, modI3, modI4, modI5, List.length_append, List.length_cons, List.length_nil]
  unfold memI tailI at h
  simp (disch := omega) only [dtx, dfx, cond_true, cond_false, List.append_assoc, List.nil_append, List.cons_append, List.append_nil, beq_self_eq_true, Bool.or_true, Bool.or_false, cons_beq_nil, zne, modI0, modI1, modI2, modI3, modI4, modI5] at h
  cases hn : (n != 0) <;> (try simp only [hn, cond_true, cond_false, cdec, List.append_assoc, List.nil_append, List.cons_append, List.append_nil] at h) <;> (try simp only [hn, cond_true, cond_false, cdec, List.append_assoc, List.nil_append, List.cons_append, List.append_nil]) <;> (repeat' apply And.intro) <;> first | omega | exact h
theorem rngAt {E : Wh} {n : Int} : ∀ {vs : List V} {cs : List Value} (i : Nat), VsRel E vs cs → vs[i]? = some (.I .i64 n) → -9223372036854775808 ≤ n ∧ n ≤ 9223372036854775807 := by
  intro vs cs i h hi
  obtain ⟨c, _, h2⟩ := h.look i _ hi
  exact rngI h2
theorem rngAgg {E : Wh} {n : Int} {vs us : List V} {cs : List Value} (i : Nat) (h : VsRel E (.agg vs :: us) cs) (hi : vs[i]? = some (.I .i64 n)) : -9223372036854775808 ≤ n ∧ n ≤ 9223372036854775807 := by
  simp only [VsRel] at h
  obtain ⟨c, r, _, h, _⟩ := h
  simp only [VRel] at h
  obtain ⟨cs, _, h, _⟩ := h
  exact rngAt i h hi
theorem name_shape {w : List Int} (h : nameB w = true) : ∃ c w', w = c :: w' ∧ (c :: w').length ≤ 255 := by
  cases w with
  | nil => simp [nameB] at h
  | cons c w' =>
    refine ⟨c, w', rfl, ?_⟩
    simp only [nameB, Bool.and_eq_true, decide_eq_true_eq] at h
    exact h.1.2
theorem mem_shapes {k r b x s : Int} {p f : Bool} {n : Int} {w : List Int} {m : Int} (h : memB k r b x s p f n w m = true) : k = 3 ∧ r = 0 ∧
    ((p = true ∧ f = false ∧ b = -1 ∧ x = -1 ∧ s = 0 ∧ (w = [] ∧ m = 0 ∨ ∃ c w', w = c :: w' ∧ (c :: w').length ≤ 255 ∧ (m = 0 ∨ m = 2 ∧ n = 0 ∨ m = 3 ∧ n = 0))) ∨
     (p = false ∧ f = true ∧ b = -1 ∧ x = -1 ∧ s = 0 ∧ (w = [] ∧ m = 0 ∨ ∃ c w', w = c :: w' ∧ (c :: w').length ≤ 255 ∧ m = 4)) ∨
     (p = false ∧ f = false ∧ 0 ≤ b ∧ (w = [] ∧ m = 0 ∨ ∃ c w', w = c :: w' ∧ (c :: w').length ≤ 255 ∧ (m = 4 ∨ m = 5)) ∧ (x = -1 ∧ s = 0 ∨ 0 ≤ x ∧ 0 ≤ s ∧ s ≤ 8))) := by
  unfold memB at h
  rw [Bool.and_eq_true, Bool.and_eq_true, Bool.and_eq_true, beq_iff_eq, beq_iff_eq] at h
  obtain ⟨⟨⟨h1, h2⟩, h3⟩, h⟩ := h
  refine ⟨h1, h3, ?_⟩
  have nm : ∀ {X Y : Bool}, (bif w == [] then X else nameB w && Y) = true → w = [] ∧ X = true ∨ ∃ c w', w = c :: w' ∧ (c :: w').length ≤ 255 ∧ Y = true := by
    intro X Y hh
    by_cases hw : w = []
    · subst hw; exact .inl ⟨rfl, hh⟩
    · have e : (w == []) = false := by simpa using hw
      rw [e, cond_false, Bool.and_eq_true] at hh
      obtain ⟨c, w', h4, h5⟩ := name_shape hh.1
      exact .inr ⟨c, w', h4, h5, hh.2⟩
  cases p with
  | true =>
    left
    simp only [cond_true, Bool.and_eq_true, beq_iff_eq, Bool.not_eq_true'] at h
    obtain ⟨⟨⟨⟨g1, g2⟩, g3⟩, g4⟩, g5⟩ := h
    refine ⟨rfl, g4, g1, g2, g3, ?_⟩
    rcases nm g5 with ⟨a1, a2⟩ | ⟨c, w', a1, a2, a3⟩
    · exact .inl ⟨a1, by simpa using a2⟩
    · refine .inr ⟨c, w', a1, a2, ?_⟩
      simp only [Bool.or_eq_true, Bool.and_eq_true, beq_iff_eq] at a3
      rcases a3 with a3 | ⟨a3 | a3, a4⟩
      · exact .inl a3
      · exact .inr (.inl ⟨a3, a4⟩)
      · exact .inr (.inr ⟨a3, a4⟩)
  | false =>
    right
    cases f with
    | true =>
      left
      simp only [cond_true, cond_false, Bool.and_eq_true, beq_iff_eq] at h
      obtain ⟨⟨⟨g1, g2⟩, g3⟩, g5⟩ := h
      refine ⟨rfl, rfl, g1, g2, g3, ?_⟩
      rcases nm g5 with ⟨a1, a2⟩ | ⟨c, w', a1, a2, a3⟩
      · exact .inl ⟨a1, by simpa using a2⟩
      · exact .inr ⟨c, w', a1, a2, by simpa using a3⟩
    | false =>
      right
      simp only [cond_false, Bool.and_eq_true, decide_eq_true_eq] at h
      obtain ⟨⟨⟨g1, g2⟩, g5⟩, g6⟩ := h
      refine ⟨rfl, rfl, g1, ?_, ?_⟩
      · rcases nm g5 with ⟨a1, a2⟩ | ⟨c, w', a1, a2, a3⟩
        · exact .inl ⟨a1, by simpa using a2⟩
        · exact .inr ⟨c, w', a1, a2, by simpa using a3⟩
      · by_cases hx : x = -1
        · subst hx; exact .inl ⟨rfl, by simpa using g6⟩
        · have e : (x == -1) = false := by simpa using hx
          rw [e, cond_false] at g6
          simp only [Bool.and_eq_true, Bool.or_eq_true, decide_eq_true_eq, beq_iff_eq, bne_iff_ne] at g6
          obtain ⟨⟨⟨q1, q2⟩, q3⟩, q4⟩ := g6
          exact .inr ⟨q1, by omega, by omega⟩
def memP : Prim := fun args m K =>
  match args, m with
  | [.agg [.I .i64 k, .I .i64 r, .I .i64 b, .I .i64 x, .I .i64 s, .B p, .B f, .I .i64 n, .S w, .I .i64 o]], [] => memB k r b x s p f n w o = true ∧ K (.S (memI b x s p f n w o)) []
  | _, _ => False
theorem P27_ok : PrimOk Tryz.prog 27 memP := by
  intro args m K E w cargs hS ha h
  unfold memP at h
  split at h
  · rename_i k r b x s p f n w o
    obtain ⟨hm, h⟩ := h
    have hn := rngAgg 7 ha rfl
    replace hm := mem_shapes hm
    obtain ⟨rfl, rfl, hm⟩ := hm
    rcases hm with ⟨rfl, rfl, rfl, rfl, rfl, ⟨rfl, rfl⟩ | ⟨c, w', rfl, hw, rfl | ⟨rfl, rfl⟩ | ⟨rfl, rfl⟩⟩⟩ | ⟨rfl, rfl, rfl, rfl, rfl, ⟨rfl, rfl⟩ | ⟨c, w', rfl, hw, rfl⟩⟩ | ⟨rfl, rfl, hb, ⟨rfl, rfl⟩ | ⟨c, w', rfl, hw, rfl | rfl⟩, ⟨rfl, rfl⟩ | ⟨hx, hs0, hs1⟩⟩
    · exact cbody_use named C7_ok at27 (l := 0) rfl (LoopsOk.none _ _) (F27a1_ok n K) hS ha (h27a1 n hn.1 hn.2 (k := fun u => K (.S u) []) h)
    · exact cbody_use named C7_ok at27 (l := 0) rfl (LoopsOk.none _ _) (F27a2_ok n c w' K) hS ha (h27a2 n c w' hn.1 hn.2 hw (k := fun u => K (.S u) []) h)
    · exact cbody_use named C7_ok at27 (l := 0) rfl (LoopsOk.none _ _) (F27a3_ok c w' K) hS ha (h27a3 c w' hw (k := fun u => K (.S u) []) h)
    · exact cbody_use named C7_ok at27 (l := 0) rfl (LoopsOk.none _ _) (F27a4_ok c w' K) hS ha (h27a4 c w' hw (k := fun u => K (.S u) []) h)
    · exact cbody_use named C7_ok at27 (l := 0) rfl (LoopsOk.none _ _) (F27b1_ok n K) hS ha (h27b1 n hn.1 hn.2 (k := fun u => K (.S u) []) h)
    · exact cbody_use named C7_ok at27 (l := 0) rfl (LoopsOk.none _ _) (F27b2_ok n c w' K) hS ha (h27b2 n c w' hn.1 hn.2 hw (k := fun u => K (.S u) []) h)
    · exact cbody_use named C7_ok at27 (l := 0) rfl (LoopsOk.none _ _) (F27c1_ok b n K) hS ha (h27c1 b n hn.1 hn.2 hb (k := fun u => K (.S u) []) h)
    · exact cbody_use named C7_ok at27 (l := 0) rfl (LoopsOk.none _ _) (F27d1_ok b x s n K) hS ha (h27d1 b x s n hn.1 hn.2 hx hs0 hs1 hb (k := fun u => K (.S u) []) h)
    · exact cbody_use named C7_ok at27 (l := 0) rfl (LoopsOk.none _ _) (F27c2_ok b n c w' K) hS ha (h27c2 b n c w' hn.1 hn.2 hw hb (k := fun u => K (.S u) []) h)
    · exact cbody_use named C7_ok at27 (l := 0) rfl (LoopsOk.none _ _) (F27d2_ok b x s n c w' K) hS ha (h27d2 b x s n c w' hn.1 hn.2 hw hx hs0 hs1 hb (k := fun u => K (.S u) []) h)
    · exact cbody_use named C7_ok at27 (l := 0) rfl (LoopsOk.none _ _) (F27c3_ok b n c w' K) hS ha (h27c3 b n c w' hn.1 hn.2 hw hb (k := fun u => K (.S u) []) h)
    · exact cbody_use named C7_ok at27 (l := 0) rfl (LoopsOk.none _ _) (F27d3_ok b x s n c w' K) hS ha (h27d3 b x s n c w' hn.1 hn.2 hw hx hs0 hs1 hb (k := fun u => K (.S u) []) h)
  · cases h
theorem P36_ok : PrimOk Tryz.prog 36 memP := by
  intro args m K E w cargs hS ha h
  unfold memP at h
  split at h
  · rename_i k r b x s p f n w o
    obtain ⟨hm, h⟩ := h
    have hn := rngAgg 7 ha rfl
    replace hm := mem_shapes hm
    obtain ⟨rfl, rfl, hm⟩ := hm
    rcases hm with ⟨rfl, rfl, rfl, rfl, rfl, ⟨rfl, rfl⟩ | ⟨c, w', rfl, hw, rfl | ⟨rfl, rfl⟩ | ⟨rfl, rfl⟩⟩⟩ | ⟨rfl, rfl, rfl, rfl, rfl, ⟨rfl, rfl⟩ | ⟨c, w', rfl, hw, rfl⟩⟩ | ⟨rfl, rfl, hb, ⟨rfl, rfl⟩ | ⟨c, w', rfl, hw, rfl | rfl⟩, ⟨rfl, rfl⟩ | ⟨hx, hs0, hs1⟩⟩
    · exact cbody_use named C7_ok at36 (l := 0) rfl (LoopsOk.none _ _) (F36a1_ok n K) hS ha (h36a1 n hn.1 hn.2 (k := fun u => K (.S u) []) h)
    · exact cbody_use named C7_ok at36 (l := 0) rfl (LoopsOk.none _ _) (F36a2_ok n c w' K) hS ha (h36a2 n c w' hn.1 hn.2 hw (k := fun u => K (.S u) []) h)
    · exact cbody_use named C7_ok at36 (l := 0) rfl (LoopsOk.none _ _) (F36a3_ok c w' K) hS ha (h36a3 c w' hw (k := fun u => K (.S u) []) h)
    · exact cbody_use named C7_ok at36 (l := 0) rfl (LoopsOk.none _ _) (F36a4_ok c w' K) hS ha (h36a4 c w' hw (k := fun u => K (.S u) []) h)
    · exact cbody_use named C7_ok at36 (l := 0) rfl (LoopsOk.none _ _) (F36b1_ok n K) hS ha (h36b1 n hn.1 hn.2 (k := fun u => K (.S u) []) h)
    · exact cbody_use named C7_ok at36 (l := 0) rfl (LoopsOk.none _ _) (F36b2_ok n c w' K) hS ha (h36b2 n c w' hn.1 hn.2 hw (k := fun u => K (.S u) []) h)
    · exact cbody_use named C7_ok at36 (l := 0) rfl (LoopsOk.none _ _) (F36c1_ok b n K) hS ha (h36c1 b n hn.1 hn.2 hb (k := fun u => K (.S u) []) h)
    · exact cbody_use named C7_ok at36 (l := 0) rfl (LoopsOk.none _ _) (F36d1_ok b x s n K) hS ha (h36d1 b x s n hn.1 hn.2 hx hs0 hs1 hb (k := fun u => K (.S u) []) h)
    · exact cbody_use named C7_ok at36 (l := 0) rfl (LoopsOk.none _ _) (F36c2_ok b n c w' K) hS ha (h36c2 b n c w' hn.1 hn.2 hw hb (k := fun u => K (.S u) []) h)
    · exact cbody_use named C7_ok at36 (l := 0) rfl (LoopsOk.none _ _) (F36d2_ok b x s n c w' K) hS ha (h36d2 b x s n c w' hn.1 hn.2 hw hx hs0 hs1 hb (k := fun u => K (.S u) []) h)
    · exact cbody_use named C7_ok at36 (l := 0) rfl (LoopsOk.none _ _) (F36c3_ok b n c w' K) hS ha (h36c3 b n c w' hn.1 hn.2 hw hb (k := fun u => K (.S u) []) h)
    · exact cbody_use named C7_ok at36 (l := 0) rfl (LoopsOk.none _ _) (F36d3_ok b x s n c w' K) hS ha (h36d3 b x s n c w' hn.1 hn.2 hw hx hs0 hs1 hb (k := fun u => K (.S u) []) h)
  · cases h
def prims8 : Prims := fun f =>
  match Nat.beq f 27 with
  | true => some memP
  | false =>
  match Nat.beq f 36 with
  | true => some memP
  | false => prims7 f
theorem prims8_ok : PrimsOk Tryz.prog prims8 := by
  intro f g hg
  unfold prims8 at hg
  split at hg
  · rename_i hf
    obtain rfl := Nat.eq_of_beq_eq_true hf
    cases hg
    exact P27_ok
  · skip
    split at hg
    · rename_i hf
      obtain rfl := Nat.eq_of_beq_eq_true hf
      cases hg
      exact P36_ok
    · skip
      exact prims7_ok f g hg
def C8 : CC := call Tryz.prog prims8 1000
theorem C8_ok : CallsOk Tryz.prog C8 := call_sound named prims8_ok 1000
end Go.Proofs.YtkbijhfikkjhpaaGreatDoor.frm
set_option linter.unusedVariables false
set_option linter.unusedSimpArgs false
set_option maxHeartbeats 4000000
set_option maxRecDepth 100000
namespace Go.Proofs.YtkbijhfikkjhpaaGreatDoor.frm
open Go Go.Ab Go.Proofs.YtkbijhfikkjhpaaGreatDoor.fc
def opdI (k r b x s : Int) (p f : Bool) (n : Int) (w : List Int) (m z : Int) : List Int :=
  bif k == 1 then 37 :: regI r z else bif k == 2 then 36 :: numI n else bif k == 3 then memI b x s p f n w m else bif w == [] then 46 :: sgnI n else w ++ modI m
def okO (k r b x s : Int) (p f : Bool) (n : Int) (w : List Int) (m : Int) : Bool := regB k r b x s p f n w m || immB k r b x s p f n w m || memB k r b x s p f n w m || tgtB k r b x s p f n w m
def opdS (k r b x s : Int) (p f : Bool) (n : Int) (w : List Int) (m : Int) (X : Prop) : Prop := okO k r b x s p f n w m = true ∧ X
def joi1 (sep u : List Int) (X : Prop) : Prop := sep = [44, 32] ∧ X
def joi2 (sep u v : List Int) (X : Prop) : Prop := (sep = [44, 32] ∧ u.length ≤ 10000 ∧ v.length ≤ 10000) ∧ X
theorem at12 : Tryz.prog.funcs[12]? = some (fnOf Tryz.prog 12) := by kernel_rfl
abbrev Y12r : Type := Int → Int → (List Int → Prop) → Prop
set_option maxHeartbeats 4000000 in
set_option maxRecDepth 100000 in
def F12r  (r : Int) (z : Int) (k1 : List Int → Prop) : Prop :=
  (bif (decide (((1 : Nat) + (List.length (regI r z))) ≤ (4611686018427387904 : Nat))) then (k1 (([(37 : Int)] : List Int) ++ (regI r z))) else False)
theorem F12r_ok  (r : Int) (z : Int) (K : V → Mem → Prop) : cbody Tryz.prog C8 (fun _ => none) 1000 (fnOf Tryz.prog 12) [(.agg [(.I .i64 (1 : Int)), (.I .i64 r), (.I .i64 (0 : Int)), (.I .i64 (0 : Int)), (.I .i64 (0 : Int)), (.B false), (.B false), (.I .i64 (0 : Int)), (.S ([] : List Int)), (.I .i64 (0 : Int))]), (.I .i64 z)] [] K =
    F12r  r z (fun (u0 : List Int) => K (.S u0) []) := by kernel_rfl
theorem at16 : Tryz.prog.funcs[16]? = some (fnOf Tryz.prog 16) := by kernel_rfl
abbrev Y16r : Type := Int → Int → (List Int → Prop) → Prop
set_option maxHeartbeats 4000000 in
set_option maxRecDepth 100000 in
def F16r  (r : Int) (z : Int) (k1 : List Int → Prop) : Prop :=
  (bif (decide (((1 : Nat) + (List.length (regI r z))) ≤ (4611686018427387904 : Nat))) then (k1 (([(37 : Int)] : List Int) ++ (regI r z))) else False)
theorem F16r_ok  (r : Int) (z : Int) (K : V → Mem → Prop) : cbody Tryz.prog C8 (fun _ => none) 1000 (fnOf Tryz.prog 16) [(.agg [(.I .i64 (1 : Int)), (.I .i64 r), (.I .i64 (0 : Int)), (.I .i64 (0 : Int)), (.I .i64 (0 : Int)), (.B false), (.B false), (.I .i64 (0 : Int)), (.S ([] : List Int)), (.I .i64 (0 : Int))]), (.I .i64 z)] [] K =
    F16r  r z (fun (u0 : List Int) => K (.S u0) []) := by kernel_rfl
abbrev Y12i : Type := Int → Int → (List Int → Prop) → Prop
set_option maxHeartbeats 4000000 in
set_option maxRecDepth 100000 in
def F12i  (n : Int) (z : Int) (k1 : List Int → Prop) : Prop :=
  (bif (decide (((1 : Nat) + (List.length (numI n))) ≤ (4611686018427387904 : Nat))) then (k1 (([(36 : Int)] : List Int) ++ (numI n))) else False)
theorem F12i_ok  (n : Int) (z : Int) (K : V → Mem → Prop) : cbody Tryz.prog C8 (fun _ => none) 1000 (fnOf Tryz.prog 12) [(.agg [(.I .i64 (2 : Int)), (.I .i64 (0 : Int)), (.I .i64 (0 : Int)), (.I .i64 (0 : Int)), (.I .i64 (0 : Int)), (.B false), (.B false), (.I .i64 n), (.S ([] : List Int)), (.I .i64 (0 : Int))]), (.I .i64 z)] [] K =
    F12i  n z (fun (u0 : List Int) => K (.S u0) []) := by kernel_rfl
abbrev Y16i : Type := Int → Int → (List Int → Prop) → Prop
set_option maxHeartbeats 4000000 in
set_option maxRecDepth 100000 in
def F16i  (n : Int) (z : Int) (k1 : List Int → Prop) : Prop :=
  (bif (decide (((1 : Nat) + (List.length (numI n))) ≤ (4611686018427387904 : Nat))) then (k1 (([(36 : Int)] : List Int) ++ (numI n))) else False)
theorem F16i_ok  (n : Int) (z : Int) (K : V → Mem → Prop) : cbody Tryz.prog C8 (fun _ => none) 1000 (fnOf Tryz.prog 16) [(.agg [(.I .i64 (2 : Int)), (.I .i64 (0 : Int)), (.I .i64 (0 : Int)), (.I .i64 (0 : Int)), (.I .i64 (0 : Int)), (.B false), (.B false), (.I .i64 n), (.S ([] : List Int)), (.I .i64 (0 : Int))]), (.I .i64 z)] [] K =
    F16i  n z (fun (u0 : List Int) => K (.S u0) []) := by kernel_rfl
abbrev Y12m : Type := Int → Int → Int → Int → Bool → Bool → Int → List Int → Int → Int → (List Int → Prop) → Prop
set_option maxHeartbeats 4000000 in
set_option maxRecDepth 100000 in
def F12m  (r : Int) (b : Int) (x : Int) (s : Int) (p : Bool) (f : Bool) (n : Int) (w : List Int) (o : Int) (z : Int) (k1 : List Int → Prop) : Prop :=
  (memB (3 : Int) r b x s p f n w o = true ∧ (k1 (memI b x s p f n w o)))
theorem F12m_ok  (r : Int) (b : Int) (x : Int) (s : Int) (p : Bool) (f : Bool) (n : Int) (w : List Int) (o : Int) (z : Int) (K : V → Mem → Prop) : cbody Tryz.prog C8 (fun _ => none) 1000 (fnOf Tryz.prog 12) [(.agg [(.I .i64 (3 : Int)), (.I .i64 r), (.I .i64 b), (.I .i64 x), (.I .i64 s), (.B p), (.B f), (.I .i64 n), (.S w), (.I .i64 o)]), (.I .i64 z)] [] K =
    F12m  r b x s p f n w o z (fun (u0 : List Int) => K (.S u0) []) := by kernel_rfl
abbrev Y16m : Type := Int → Int → Int → Int → Bool → Bool → Int → List Int → Int → Int → (List Int → Prop) → Prop
set_option maxHeartbeats 4000000 in
set_option maxRecDepth 100000 in
def F16m  (r : Int) (b : Int) (x : Int) (s : Int) (p : Bool) (f : Bool) (n : Int) (w : List Int) (o : Int) (z : Int) (k1 : List Int → Prop) : Prop :=
  (memB (3 : Int) r b x s p f n w o = true ∧ (k1 (memI b x s p f n w o)))
theorem F16m_ok  (r : Int) (b : Int) (x : Int) (s : Int) (p : Bool) (f : Bool) (n : Int) (w : List Int) (o : Int) (z : Int) (K : V → Mem → Prop) : cbody Tryz.prog C8 (fun _ => none) 1000 (fnOf Tryz.prog 16) [(.agg [(.I .i64 (3 : Int)), (.I .i64 r), (.I .i64 b), (.I .i64 x), (.I .i64 s), (.B p), (.B f), (.I .i64 n), (.S w), (.I .i64 o)]), (.I .i64 z)] [] K =
    F16m  r b x s p f n w o z (fun (u0 : List Int) => K (.S u0) []) := by kernel_rfl
abbrev Y12t : Type := Int → Int → (List Int → Prop) → Prop
set_option maxHeartbeats 4000000 in
set_option maxRecDepth 100000 in
def F12t  (n : Int) (z : Int) (k1 : List Int → Prop) : Prop :=
  (bif (decide (((1 : Nat) + (List.length (sgnI n))) ≤ (4611686018427387904 : Nat))) then (k1 (([(46 : Int)] : List Int) ++ (sgnI n))) else False)
theorem F12t_ok  (n : Int) (z : Int) (K : V → Mem → Prop) : cbody Tryz.prog C8 (fun _ => none) 1000 (fnOf Tryz.prog 12) [(.agg [(.I .i64 (4 : Int)), (.I .i64 (0 : Int)), (.I .i64 (0 : Int)), (.I .i64 (0 : Int)), (.I .i64 (0 : Int)), (.B false), (.B false), (.I .i64 n), (.S ([] : List Int)), (.I .i64 (0 : Int))]), (.I .i64 z)] [] K =
    F12t  n z (fun (u0 : List Int) => K (.S u0) []) := by kernel_rfl
abbrev Y16t : Type := Int → Int → (List Int → Prop) → Prop
set_option maxHeartbeats 4000000 in
set_option maxRecDepth 100000 in
def F16t  (n : Int) (z : Int) (k1 : List Int → Prop) : Prop :=
  (bif (decide (((1 : Nat) + (List.length (sgnI n))) ≤ (4611686018427387904 : Nat))) then (k1 (([(46 : Int)] : List Int) ++ (sgnI n))) else False)
theorem F16t_ok  (n : Int) (z : Int) (K : V → Mem → Prop) : cbody Tryz.prog C8 (fun _ => none) 1000 (fnOf Tryz.prog 16) [(.agg [(.I .i64 (4 : Int)), (.I .i64 (0 : Int)), (.I .i64 (0 : Int)), (.I .i64 (0 : Int)), (.I .i64 (0 : Int)), (.B false), (.B false), (.I .i64 n), (.S ([] : List Int)), (.I .i64 (0 : Int))]), (.I .i64 z)] [] K =
    F16t  n z (fun (u0 : List Int) => K (.S u0) []) := by kernel_rfl
abbrev Y12t0 : Type := Int → List Int → Int → (List Int → Prop) → Prop
set_option maxHeartbeats 4000000 in
set_option maxRecDepth 100000 in
def F12t0  (c : Int) (w : List Int) (z : Int) (k1 : List Int → Prop) : Prop :=
  (k1 (c :: w))
theorem F12t0_ok  (c : Int) (w : List Int) (z : Int) (K : V → Mem → Prop) : cbody Tryz.prog C8 (fun _ => none) 1000 (fnOf Tryz.prog 12) [(.agg [(.I .i64 (4 : Int)), (.I .i64 (0 : Int)), (.I .i64 (0 : Int)), (.I .i64 (0 : Int)), (.I .i64 (0 : Int)), (.B false), (.B false), (.I .i64 (0 : Int)), (.S (c :: w)), (.I .i64 (0 : Int))]), (.I .i64 z)] [] K =
    F12t0  c w z (fun (u0 : List Int) => K (.S u0) []) := by kernel_rfl
abbrev Y16t0 : Type := Int → List Int → Int → (List Int → Prop) → Prop
set_option maxHeartbeats 4000000 in
set_option maxRecDepth 100000 in
def F16t0  (c : Int) (w : List Int) (z : Int) (k1 : List Int → Prop) : Prop :=
  (modS (0 : Int) ((bif (((c :: w) == (c :: w)) && true) then (bif (decide (((List.length (c :: w)) + (List.length (modI (0 : Int)))) ≤ (4611686018427387904 : Nat))) then (k1 ((c :: w) ++ (modI (0 : Int)))) else False) else False)))
theorem F16t0_ok  (c : Int) (w : List Int) (z : Int) (K : V → Mem → Prop) : cbody Tryz.prog C8 (fun _ => none) 1000 (fnOf Tryz.prog 16) [(.agg [(.I .i64 (4 : Int)), (.I .i64 (0 : Int)), (.I .i64 (0 : Int)), (.I .i64 (0 : Int)), (.I .i64 (0 : Int)), (.B false), (.B false), (.I .i64 (0 : Int)), (.S (c :: w)), (.I .i64 (0 : Int))]), (.I .i64 z)] [] K =
    F16t0  c w z (fun (u0 : List Int) => K (.S u0) []) := by kernel_rfl
abbrev Y12t1 : Type := Int → List Int → Int → (List Int → Prop) → Prop
set_option maxHeartbeats 4000000 in
set_option maxRecDepth 100000 in
def F12t1  (c : Int) (w : List Int) (z : Int) (k1 : List Int → Prop) : Prop :=
  (bif (decide (((List.length (c :: w)) + (4 : Nat)) ≤ (4611686018427387904 : Nat))) then (k1 ((c :: w) ++ ([(64 : Int), (112 : Int), (108 : Int), (116 : Int)] : List Int))) else False)
theorem F12t1_ok  (c : Int) (w : List Int) (z : Int) (K : V → Mem → Prop) : cbody Tryz.prog C8 (fun _ => none) 1000 (fnOf Tryz.prog 12) [(.agg [(.I .i64 (4 : Int)), (.I .i64 (0 : Int)), (.I .i64 (0 : Int)), (.I .i64 (0 : Int)), (.I .i64 (0 : Int)), (.B false), (.B false), (.I .i64 (0 : Int)), (.S (c :: w)), (.I .i64 (1 : Int))]), (.I .i64 z)] [] K =
    F12t1  c w z (fun (u0 : List Int) => K (.S u0) []) := by kernel_rfl
abbrev Y16t1 : Type := Int → List Int → Int → (List Int → Prop) → Prop
set_option maxHeartbeats 4000000 in
set_option maxRecDepth 100000 in
def F16t1  (c : Int) (w : List Int) (z : Int) (k1 : List Int → Prop) : Prop :=
  (modS (1 : Int) ((bif (((c :: w) == (c :: w)) && true) then (bif (decide (((List.length (c :: w)) + (List.length (modI (1 : Int)))) ≤ (4611686018427387904 : Nat))) then (k1 ((c :: w) ++ (modI (1 : Int)))) else False) else False)))
theorem F16t1_ok  (c : Int) (w : List Int) (z : Int) (K : V → Mem → Prop) : cbody Tryz.prog C8 (fun _ => none) 1000 (fnOf Tryz.prog 16) [(.agg [(.I .i64 (4 : Int)), (.I .i64 (0 : Int)), (.I .i64 (0 : Int)), (.I .i64 (0 : Int)), (.I .i64 (0 : Int)), (.B false), (.B false), (.I .i64 (0 : Int)), (.S (c :: w)), (.I .i64 (1 : Int))]), (.I .i64 z)] [] K =
    F16t1  c w z (fun (u0 : List Int) => K (.S u0) []) := by kernel_rfl
theorem reg_shape {k r b x s : Int} {p f : Bool} {n : Int} {w : List Int} {m : Int} (h : regB k r b x s p f n w m = true) : k = 1 ∧ b = 0 ∧ x = 0 ∧ s = 0 ∧ p = false ∧ f = false ∧ n = 0 ∧ w = [] ∧ m = 0 := by
  simp only [regB, Bool.and_eq_true, beq_iff_eq, Bool.not_eq_true', decide_eq_true_eq] at h
  simp_all
theorem imm_shape {k r b x s : Int} {p f : Bool} {n : Int} {w : List Int} {m : Int} (h : immB k r b x s p f n w m = true) : k = 2 ∧ r = 0 ∧ b = 0 ∧ x = 0 ∧ s = 0 ∧ p = false ∧ f = false ∧ w = [] ∧ m = 0 := by
  simp only [immB, Bool.and_eq_true, beq_iff_eq, Bool.not_eq_true', decide_eq_true_eq] at h
  simp_all
theorem tgt_shape {k r b x s : Int} {p f : Bool} {n : Int} {w : List Int} {m : Int} (h : tgtB k r b x s p f n w m = true) : k = 4 ∧ r = 0 ∧ b = 0 ∧ x = 0 ∧ s = 0 ∧ p = false ∧ f = false ∧
    (w = [] ∧ m = 0 ∨ ∃ c w', w = c :: w' ∧ (c :: w').length ≤ 255 ∧ n = 0 ∧ (m = 0 ∨ m = 1)) := by
  unfold tgtB at h
  rw [Bool.and_eq_true] at h
  obtain ⟨h, h2⟩ := h
  simp only [Bool.and_eq_true, beq_iff_eq, Bool.not_eq_true'] at h
  obtain ⟨⟨⟨⟨⟨⟨h1, h3⟩, h4⟩, h5⟩, h6⟩, h7⟩, h8⟩ := h
  refine ⟨h1, h3, h4, h5, h6, h7, h8, ?_⟩
  by_cases hw : w = []
  · subst hw
    left
    have h2' : (m == 0 && wideB n) = true := h2
    simp only [Bool.and_eq_true, beq_iff_eq] at h2'
    exact ⟨rfl, h2'.1⟩
  · have e : (w == []) = false := by simpa using hw
    rw [e, cond_false] at h2
    simp only [Bool.and_eq_true, Bool.or_eq_true, beq_iff_eq] at h2
    obtain ⟨⟨g1, g2⟩, g3⟩ := h2
    obtain ⟨c, w', g4, g5⟩ := name_shape g2
    exact .inr ⟨c, w', g4, g5, g1, g3⟩
theorem mem_k {k r b x s : Int} {p f : Bool} {n : Int} {w : List Int} {m : Int} (h : memB k r b x s p f n w m = true) : k = 3 := (mem_shapes h).1
def opdP : Prim := fun args m K =>
  match args, m with
  | [.agg [.I .i64 k, .I .i64 r, .I .i64 b, .I .i64 x, .I .i64 s, .B p, .B f, .I .i64 n, .S w, .I .i64 o], .I .i64 z], [] => opdS k r b x s p f n w o (K (.S (opdI k r b x s p f n w o z)) [])
  | _, _ => False
theorem P12_ok : PrimOk Tryz.prog 12 opdP := by
  intro args m K E w cargs hS ha h
  unfold opdP at h
  split at h
  · rename_i k r b x s p f n w o z
    obtain ⟨ho, h⟩ := h
    have hn := rngAgg 7 ha rfl
    have hl1 := numI_len hn.1 hn.2
    have hl2 := sgnI_len hn.1 hn.2
    have hl3 := regI_len r z
    simp only [okO, Bool.or_eq_true] at ho
    rcases ho with ((ho | ho) | ho) | ho
    · replace ho := reg_shape ho
      obtain ⟨rfl, rfl, rfl, rfl, rfl, rfl, rfl, rfl, rfl⟩ := ho
      refine cbody_use named C8_ok at12 (l := 0) rfl (LoopsOk.none _ _) (F12r_ok r z K) hS ha ?_
      unfold F12r
      rw [dt (by omega), cond_true]
      exact h
    · replace ho := imm_shape ho
      obtain ⟨rfl, rfl, rfl, rfl, rfl, rfl, rfl, rfl, rfl⟩ := ho
      refine cbody_use named C8_ok at12 (l := 0) rfl (LoopsOk.none _ _) (F12i_ok n z K) hS ha ?_
      unfold F12i
      rw [dt (by omega), cond_true]
      exact h
    · have hk := mem_k ho
      subst hk
      exact cbody_use named C8_ok at12 (l := 0) rfl (LoopsOk.none _ _) (F12m_ok r b x s p f n w o z K) hS ha ⟨ho, h⟩
    · replace ho := tgt_shape ho
      obtain ⟨rfl, rfl, rfl, rfl, rfl, rfl, rfl, ho⟩ := ho
      rcases ho with ⟨rfl, rfl⟩ | ⟨c, w', rfl, hw, rfl, rfl | rfl⟩
      · refine cbody_use named C8_ok at12 (l := 0) rfl (LoopsOk.none _ _) (F12t_ok n z K) hS ha ?_
        unfold F12t
        rw [dt (by omega), cond_true]
        exact h
      · refine cbody_use named C8_ok at12 (l := 0) rfl (LoopsOk.none _ _) (F12t0_ok c w' z K) hS ha ?_
        have h1 : K (.S ((c :: w') ++ [])) [] := h
        rw [List.append_nil] at h1
        exact h1
      · refine cbody_use named C8_ok at12 (l := 0) rfl (LoopsOk.none _ _) (F12t1_ok c w' z K) hS ha ?_
        unfold F12t1
        rw [dt (by omega), cond_true]
        exact h
  · cases h
theorem P16_ok : PrimOk Tryz.prog 16 opdP := by
  intro args m K E w cargs hS ha h
  unfold opdP at h
  split at h
  · rename_i k r b x s p f n w o z
    obtain ⟨ho, h⟩ := h
    have hn := rngAgg 7 ha rfl
    have hl1 := numI_len hn.1 hn.2
    have hl2 := sgnI_len hn.1 hn.2
    have hl3 := regI_len r z
    simp only [okO, Bool.or_eq_true] at ho
    rcases ho with ((ho | ho) | ho) | ho
    · replace ho := reg_shape ho
      obtain ⟨rfl, rfl, rfl, rfl, rfl, rfl, rfl, rfl, rfl⟩ := ho
      refine cbody_use named C8_ok at16 (l := 0) rfl (LoopsOk.none _ _) (F16r_ok r z K) hS ha ?_
      unfold F16r
      rw [dt (by omega), cond_true]
      exact h
    · replace ho := imm_shape ho
      obtain ⟨rfl, rfl, rfl, rfl, rfl, rfl, rfl, rfl, rfl⟩ := ho
      refine cbody_use named C8_ok at16 (l := 0) rfl (LoopsOk.none _ _) (F16i_ok n z K) hS ha ?_
      unfold F16i
      rw [dt (by omega), cond_true]
      exact h
    · have hk := mem_k ho
      subst hk
      exact cbody_use named C8_ok at16 (l := 0) rfl (LoopsOk.none _ _) (F16m_ok r b x s p f n w o z K) hS ha ⟨ho, h⟩
    · replace ho := tgt_shape ho
      obtain ⟨rfl, rfl, rfl, rfl, rfl, rfl, rfl, ho⟩ := ho
      rcases ho with ⟨rfl, rfl⟩ | ⟨c, w', rfl, hw, rfl, rfl | rfl⟩
      · refine cbody_use named C8_ok at16 (l := 0) rfl (LoopsOk.none _ _) (F16t_ok n z K) hS ha ?_
        unfold F16t
        rw [dt (by omega), cond_true]
        exact h
      · refine cbody_use named C8_ok at16 (l := 0) rfl (LoopsOk.none _ _) (F16t0_ok c w' z K) hS ha ?_
        refine ⟨by omega, ?_⟩
        rw [Bool.and_true, beq_self_eq_true, cond_true, modI0, dt (by simp only [List.length_cons, List.length_nil] at *; omega), cond_true]
        exact h
      · refine cbody_use named C8_ok at16 (l := 0) rfl (LoopsOk.none _ _) (F16t1_ok c w' z K) hS ha ?_
        refine ⟨by omega, ?_⟩
        rw [Bool.and_true, beq_self_eq_true, cond_true, modI1, dt (by simp only [List.length_cons, List.length_nil] at *; omega), cond_true]
        exact h
  · cases h
def prims9 : Prims := fun f =>
  match Nat.beq f 85 with
  | true => some (pMakeB 5)
  | false => prims8 f
theorem M85_ok : PrimOk Tryz.prog 85 (pMakeB 5) := pMakeB_ok (ps := #[3]) (t := 51) (stands (by kernel_rfl) (by kernel_rfl) (by kernel_rfl) (by kernel_rfl) (by kernel_rfl)) (by kernel_rfl)
theorem prims9_ok : PrimsOk Tryz.prog prims9 := by
  intro f g hg
  unfold prims9 at hg
  split at hg
  · rename_i hf
    obtain rfl := Nat.eq_of_beq_eq_true hf
    cases hg
    exact M85_ok
  · skip
    exact prims8_ok f g hg
def C9 : CC := call Tryz.prog prims9 1000
theorem C9_ok : CallsOk Tryz.prog C9 := call_sound named prims9_ok 1000
theorem at13 : Tryz.prog.funcs[13]? = some (fnOf Tryz.prog 13) := by kernel_rfl
abbrev Y13a : Type := List Int → (Prop) → Prop
set_option maxHeartbeats 4000000 in
set_option maxRecDepth 100000 in
def F13a  (u : List Int) (k1 : Prop) : Prop :=
  (k1)
theorem F13a_ok  (u : List Int) (K : V → Mem → Prop) : cbody Tryz.prog C9 (fun _ => none) 1000 (fnOf Tryz.prog 13) [(.sl 0 (0 : Nat) (none : Option Nat) (none : Option Nat)), (.S ([(44 : Int), (32 : Int)] : List Int))] [⟨[.strs ([u] : List (List Int))], 9, false, false⟩] K =
    F13a  u (K (.S u) [⟨[.strs ([u] : List (List Int))], 9, false, false⟩]) := by kernel_rfl
abbrev Y13b : Type := List Int → List Int → (List Int → Prop) → Prop
set_option maxHeartbeats 4000000 in
set_option maxRecDepth 100000 in
def F13b  (u : List Int) (v : List Int) (k1 : List Int → Prop) : Prop :=
  (bif (decide ((((List.length u) : Nat) : Int) > (9223372036854775805 : Int))) then False else (bif (decide ((((List.length v) : Nat) : Int) > (IntKind.wrap .i64 ((9223372036854775807 : Int) - (IntKind.wrap .i64 ((2 : Int) + (((List.length u) : Nat) : Int))))))) then False else (bif (decide ((IntKind.wrap .i64 ((IntKind.wrap .i64 ((2 : Int) + (((List.length u) : Nat) : Int))) + (((List.length v) : Nat) : Int))) < (0 : Int))) then False else (bif (decide ((0 : Int) < (IntKind.wrap .i64 ((IntKind.wrap .i64 ((2 : Int) + (((List.length u) : Nat) : Int))) + (((List.length v) : Nat) : Int))))) then ((decide ((0 : Int) ≤ (IntKind.wrap .i64 ((0 : Int) + (IntKind.wrap .i64 ((IntKind.wrap .i64 ((2 : Int) + (((List.length u) : Nat) : Int))) + (((List.length v) : Nat) : Int)))))) && decide ((IntKind.wrap .i64 ((0 : Int) + (IntKind.wrap .i64 ((IntKind.wrap .i64 ((2 : Int) + (((List.length u) : Nat) : Int))) + (((List.length v) : Nat) : Int))))) ≤ (140737488355328 : Int))) = true ∧ ∀ xs1 : List Int, List.length xs1 = Int.toNat (IntKind.wrap .i64 ((0 : Int) + (IntKind.wrap .i64 ((IntKind.wrap .i64 ((2 : Int) + (((List.length u) : Nat) : Int))) + (((List.length v) : Nat) : Int))))) → (bif (decide ((0 : Nat) ≤ ((List.length xs1) - (0 : Nat)))) then (bif ((decide ((((0 : Nat) + (List.length u)) * (1 : Nat)) ≤ (140737488355328 : Nat))) && (decide (((0 : Nat) + (List.length u)) ≤ (140737488355328 : Nat)))) then (bif ((decide (((((List.length ((List.take (0 : Nat) xs1) ++ u)) - (0 : Nat)) + (2 : Nat)) * (1 : Nat)) ≤ (140737488355328 : Nat))) && (decide ((((List.length ((List.take (0 : Nat) xs1) ++ u)) - (0 : Nat)) + (2 : Nat)) ≤ (140737488355328 : Nat)))) then (bif ((decide (((((List.length (((List.take (0 : Nat) xs1) ++ u) ++ ([(44 : Int), (32 : Int)] : List Int))) - (0 : Nat)) + (List.length v)) * (1 : Nat)) ≤ (140737488355328 : Nat))) && (decide ((((List.length (((List.take (0 : Nat) xs1) ++ u) ++ ([(44 : Int), (32 : Int)] : List Int))) - (0 : Nat)) + (List.length v)) ≤ (140737488355328 : Nat)))) then (bif (decide ((0 : Nat) < ((List.length ((((List.take (0 : Nat) xs1) ++ u) ++ ([(44 : Int), (32 : Int)] : List Int)) ++ v)) - (0 : Nat)))) then (bif ((decide ((0 : Int) < ((((List.length ((((List.take (0 : Nat) xs1) ++ u) ++ ([(44 : Int), (32 : Int)] : List Int)) ++ v)) - (0 : Nat)) : Nat) : Int))) && (decide ((Int.toNat ((((List.length ((((List.take (0 : Nat) xs1) ++ u) ++ ([(44 : Int), (32 : Int)] : List Int)) ++ v)) - (0 : Nat)) : Nat) : Int)) ≤ (List.length ((((List.take (0 : Nat) xs1) ++ u) ++ ([(44 : Int), (32 : Int)] : List Int)) ++ v))))) then (k1 (List.take (Int.toNat ((((List.length ((((List.take (0 : Nat) xs1) ++ u) ++ ([(44 : Int), (32 : Int)] : List Int)) ++ v)) - (0 : Nat)) : Nat) : Int)) ((((List.take (0 : Nat) xs1) ++ u) ++ ([(44 : Int), (32 : Int)] : List Int)) ++ v))) else False) else False) else False) else False) else False) else False)) else (bif ((decide (((List.length u) * (1 : Nat)) ≤ (140737488355328 : Nat))) && (decide ((List.length u) ≤ (140737488355328 : Nat)))) then (bif ((decide (((((List.length u) - (0 : Nat)) + (2 : Nat)) * (1 : Nat)) ≤ (140737488355328 : Nat))) && (decide ((((List.length u) - (0 : Nat)) + (2 : Nat)) ≤ (140737488355328 : Nat)))) then (bif ((decide (((((List.length (u ++ ([(44 : Int), (32 : Int)] : List Int))) - (0 : Nat)) + (List.length v)) * (1 : Nat)) ≤ (140737488355328 : Nat))) && (decide ((((List.length (u ++ ([(44 : Int), (32 : Int)] : List Int))) - (0 : Nat)) + (List.length v)) ≤ (140737488355328 : Nat)))) then (bif (decide ((0 : Nat) < ((List.length ((u ++ ([(44 : Int), (32 : Int)] : List Int)) ++ v)) - (0 : Nat)))) then (bif ((decide ((0 : Int) < ((((List.length ((u ++ ([(44 : Int), (32 : Int)] : List Int)) ++ v)) - (0 : Nat)) : Nat) : Int))) && (decide ((Int.toNat ((((List.length ((u ++ ([(44 : Int), (32 : Int)] : List Int)) ++ v)) - (0 : Nat)) : Nat) : Int)) ≤ (List.length ((u ++ ([(44 : Int), (32 : Int)] : List Int)) ++ v))))) then (k1 (List.take (Int.toNat ((((List.length ((u ++ ([(44 : Int), (32 : Int)] : List Int)) ++ v)) - (0 : Nat)) : Nat) : Int)) ((u ++ ([(44 : Int), (32 : Int)] : List Int)) ++ v))) else False) else False) else False) else False) else False)))))
theorem F13b_ok  (u : List Int) (v : List Int) (K : V → Mem → Prop) : cbody Tryz.prog C9 (fun _ => none) 1000 (fnOf Tryz.prog 13) [(.sl 0 (0 : Nat) (none : Option Nat) (none : Option Nat)), (.S ([(44 : Int), (32 : Int)] : List Int))] [⟨[.strs ([u, v] : List (List Int))], 9, false, false⟩] K =
    F13b  u v (fun (u0 : List Int) => K (.S u0) [⟨[.strs ([u, v] : List (List Int))], 9, false, false⟩]) := by kernel_rfl
def jP : Prim := fun args m K =>
  match args, m with
  | [.sl 0 0 none none, .S sep], [⟨[.strs [u]], 9, false, false⟩] => joi1 sep u (K (.S u) [⟨[.strs [u]], 9, false, false⟩])
  | [.sl 0 0 none none, .S sep], [⟨[.strs [u, v]], 9, false, false⟩] => joi2 sep u v (K (.S (u ++ ([44, 32] ++ v))) [⟨[.strs [u, v]], 9, false, false⟩])
  | _, _ => False
theorem wl {x : Nat} (h : x ≤ 1000000) : IntKind.wrap .i64 (x : Int) = (x : Int) := wid (by omega) (by omega)
theorem h13b {u v : List Int} (hu : u.length ≤ 10000) (hv : v.length ≤ 10000) {k : List Int → Prop} (h : k (u ++ ([44, 32] ++ v))) : F13b u v k := by
  unfold F13b
  have e1 : (2 : Int) + ((u.length : Nat) : Int) = ((2 + u.length : Nat) : Int) := by omega
  have e2 : ((2 + u.length : Nat) : Int) + ((v.length : Nat) : Int) = ((2 + u.length + v.length : Nat) : Int) := by omega
  have e3 : (0 : Int) + ((2 + u.length + v.length : Nat) : Int) = ((2 + u.length + v.length : Nat) : Int) := by omega
  rw [e1, wl (by omega), e2, wl (by omega), e3, wl (by omega)]
  rw [wid (x := (9223372036854775807 : Int) - ((2 + u.length : Nat) : Int)) (by omega) (by omega)]
  rw [df (by omega : ¬ ((u.length : Nat) : Int) > 9223372036854775805), cond_false]
  rw [df (by omega : ¬ ((v.length : Nat) : Int) > 9223372036854775807 - ((2 + u.length : Nat) : Int)), cond_false]
  rw [df (by omega : ¬ ((2 + u.length + v.length : Nat) : Int) < 0), cond_false, dt (by omega : (0 : Int) < ((2 + u.length + v.length : Nat) : Int)), cond_true]
  refine ⟨by rw [Bool.and_eq_true, decide_eq_true_eq, decide_eq_true_eq]; omega, fun xs hxs => ?_⟩
  have ek : List.take 0 xs = [] := rfl
  rw [ek]
  simp only [Nat.sub_zero, takeL, candF, cdec, ctrF, List.nil_append]
  simp only [List.length_append, List.length_cons, List.length_nil, List.append_assoc]
  have hk : k (u ++ ([44, 32] ++ v)) := h
  (repeat' apply And.intro) <;> first | omega | exact hk
theorem P13_ok : PrimOk Tryz.prog 13 jP := by
  intro args m K E w cargs hS ha h
  unfold jP at h
  split at h
  · rename_i sep u
    obtain ⟨rfl, h⟩ := h
    exact cbody_use named C9_ok at13 (l := 1) rfl (LoopsOk.none _ _) (F13a_ok u K) hS ha h
  · rename_i sep u v
    obtain ⟨⟨rfl, hu, hv⟩, h⟩ := h
    exact cbody_use named C9_ok at13 (l := 1) rfl (LoopsOk.none _ _) (F13b_ok u v K) hS ha (h13b (k := fun u0 => K (.S u0) [⟨[.strs [u, v]], 9, false, false⟩]) hu hv h)
  · cases h
def primsA : Prims := fun f =>
  match Nat.beq f 12 with
  | true => some opdP
  | false =>
  match Nat.beq f 16 with
  | true => some opdP
  | false =>
  match Nat.beq f 13 with
  | true => some jP
  | false => prims8 f
theorem primsA_ok : PrimsOk Tryz.prog primsA := by
  intro f g hg
  unfold primsA at hg
  split at hg
  · rename_i hf
    obtain rfl := Nat.eq_of_beq_eq_true hf
    cases hg
    exact P12_ok
  · skip
    split at hg
    · rename_i hf
      obtain rfl := Nat.eq_of_beq_eq_true hf
      cases hg
      exact P16_ok
    · skip
      split at hg
      · rename_i hf
        obtain rfl := Nat.eq_of_beq_eq_true hf
        cases hg
        exact P13_ok
      · skip
        exact prims8_ok f g hg
def CA : CC := call Tryz.prog primsA 1000
theorem CA_ok : CallsOk Tryz.prog CA := call_sound named primsA_ok 1000
end Go.Proofs.YtkbijhfikkjhpaaGreatDoor.frm
