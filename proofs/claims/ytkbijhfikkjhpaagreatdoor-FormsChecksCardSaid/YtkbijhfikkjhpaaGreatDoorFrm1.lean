import Derived.Test.YtkbijhfikkjhpaaGreatDoorProg
import Derived.Test.YtkbijhfikkjhpaaGreatDoorFrmC
set_option linter.unusedVariables false
set_option linter.unusedSimpArgs false
set_option maxHeartbeats 4000000
set_option maxRecDepth 100000
namespace Go.Proofs.YtkbijhfikkjhpaaGreatDoor.frm
open Go Go.Ab
theorem named : Named Tryz.prog := by
  have h : Tryz.prog.funcs.toList.all (fun fn => !(fn.name == "runtime.NumGoroutine")) = true := by kernel_rfl
  intro g fn hf
  have := List.all_eq_true.1 h fn (by rw [Array.getElem?_eq_some_iff] at hf; obtain ⟨h1, rfl⟩ := hf; simp)
  simpa using this
def prims0 : Prims := fun f =>
  match Nat.beq f 103 with
  | true => some pIdx
  | false => match Nat.beq f 84 with
  | true => some pSame
  | false => match Nat.beq f 85 with
  | true => some (pMake 5)
  | false => none
theorem stands {f : FuncId} {e : Array Value → Sem Value} (hf : Tryz.prog.funcs[f]? = some (fnOf Tryz.prog f)) (h1 : ((fnOf Tryz.prog f).name == "runtime.NumGoroutine") = false) (h2 : (fnOf Tryz.prog f).body.isNone = true)
    (h3 : Extern.findNext (fnOf Tryz.prog f) = none) (h4 : Extern.find (fnOf Tryz.prog f) = some e) : Stands Tryz.prog f e := ⟨_, hf, h1, h2, h3, h4⟩
theorem prims0_ok : PrimsOk Tryz.prog prims0 := by
  intro f g hg
  unfold prims0 at hg
  split at hg
  · rename_i hf
    obtain rfl := Nat.eq_of_beq_eq_true hf
    cases hg
    exact pIdx_ok (stands (by kernel_rfl) (by kernel_rfl) (by kernel_rfl) (by kernel_rfl) (by kernel_rfl))
  · split at hg
    · rename_i hf
      obtain rfl := Nat.eq_of_beq_eq_true hf
      cases hg
      exact pSame_ok (stands (by kernel_rfl) (by kernel_rfl) (by kernel_rfl) (by kernel_rfl) (by kernel_rfl))
    · split at hg
      · rename_i hf
        obtain rfl := Nat.eq_of_beq_eq_true hf
        cases hg
        exact pMake_ok (ps := #[3]) (t := 51) (stands (by kernel_rfl) (by kernel_rfl) (by kernel_rfl) (by kernel_rfl) (by kernel_rfl)) (by kernel_rfl)
      · cases hg
theorem bytesI_le {E : Wh} {w : List Int} {cargs : List Value} (ha : VsRel E [.S w] cargs) : w.length ≤ 9223372036854775807 := by
  simp only [VsRel, VRel] at ha
  obtain ⟨c, r, _, ⟨s, _, hs, hl⟩, _⟩ := ha
  rw [← hs, bytesI_len]; exact hl
def C0 : CC := call Tryz.prog prims0 1000
theorem C0_ok : CallsOk Tryz.prog C0 := call_sound named prims0_ok 1000
abbrev YL86_4 : Type := Code → List Int → Int → Int → (Prop) → (Prop) → Prop
def HL86_4  (rec : Int → Prop) (xs_0 : List Int) (i_13 i_14 : Int) (k1 k2 : Prop) : Prop :=
  (bif (decide (i_14 < i_13)) then (bif ((decide ((0 : Int) ≤ i_14)) && (decide (i_14 < (((List.length xs_0) : Nat) : Int)))) then (bif (decide ((List.getD xs_0 (Int.toNat i_14) (0 : Int)) < (33 : Int))) then k1 else (bif ((decide ((0 : Int) ≤ i_14)) && (decide (i_14 < (((List.length xs_0) : Nat) : Int)))) then (bif (decide ((List.getD xs_0 (Int.toNat i_14) (0 : Int)) > (126 : Int))) then k1 else (bif ((decide ((0 : Int) ≤ i_14)) && (decide (i_14 < (((List.length xs_0) : Nat) : Int)))) then (bif (decide ((idxB ([(40 : Int), (41 : Int), (44 : Int), (64 : Int), (36 : Int), (37 : Int), (42 : Int), (35 : Int), (59 : Int), (58 : Int), (34 : Int), (39 : Int)] : List Int) (List.getD xs_0 (Int.toNat i_14) (0 : Int))) ≥ (0 : Int))) then k1 else (rec (IntKind.wrap .i64 (i_14 + (1 : Int))))) else False)) else False)) else False) else k2)
def RL86_4  : Nat → List Int → Int → Int → (Prop) → (Prop) → Prop
  | 0, _, _, _, _, _ => False
  | n + 1, xs_0, i_13, i_14, k1, k2 => HL86_4  (fun (i_14 : Int) => RL86_4  n xs_0 i_13 i_14 k1 k2) xs_0 i_13 i_14 k1 k2
noncomputable def XL86_4 : Code := sub [true, true, false, true, false, false] (bodyOf Tryz.prog 86)
theorem HL86_4_ok  (n : Nat) (xs_0 : List Int) (i_13 i_14 : Int) (K : Ex → Env → Mem → Prop) : cround 0 [0, 13, 14] [2] (fun ρ m K => cexec Tryz.prog C0 (fun _ => none) 0 1000 XL86_4 ρ m K) (n + 1) (selE 35 [(0, (.S xs_0)), (13, (.I .i64 i_13)), (14, (.I .i64 i_14))]) [] K =
    HL86_4  (fun (i_14 : Int) => cround 0 [0, 13, 14] [2] (fun ρ m K => cexec Tryz.prog C0 (fun _ => none) 0 1000 XL86_4 ρ m K) n (selE 35 [(0, (.S xs_0)), (13, (.I .i64 i_13)), (14, (.I .i64 i_14))]) [] K) xs_0 i_13 i_14 (K .ret (selE 35 [(2, (.B false))]) []) (K (.exit 0) (selE 35 [(2, .undef)]) []) := by kernel_rfl
theorem RL86_4_ok  (K : Ex → Env → Mem → Prop) : ∀ (n : Nat) (xs_0 : List Int) (i_13 i_14 : Int), cround 0 [0, 13, 14] [2] (fun ρ m K => cexec Tryz.prog C0 (fun _ => none) 0 1000 XL86_4 ρ m K) n (selE 35 [(0, (.S xs_0)), (13, (.I .i64 i_13)), (14, (.I .i64 i_14))]) [] K = RL86_4  n xs_0 i_13 i_14 (K .ret (selE 35 [(2, (.B false))]) []) (K (.exit 0) (selE 35 [(2, .undef)]) [])
  | 0, xs_0, i_13, i_14 => rfl
  | n + 1, xs_0, i_13, i_14 => by
    have ih := RL86_4_ok  K n
    rw [HL86_4_ok  n xs_0 i_13 i_14 K]
    show HL86_4  _ xs_0 i_13 i_14 (K .ret (selE 35 [(2, (.B false))]) []) (K (.exit 0) (selE 35 [(2, .undef)]) []) = HL86_4  _ xs_0 i_13 i_14 (K .ret (selE 35 [(2, (.B false))]) []) (K (.exit 0) (selE 35 [(2, .undef)]) [])
    refine congrArg (fun r => HL86_4  r xs_0 i_13 i_14 (K .ret (selE 35 [(2, (.B false))]) []) (K (.exit 0) (selE 35 [(2, .undef)]) [])) ?_
    funext i_14
    exact ih xs_0 i_13 i_14
def GL86_4 : YL86_4 := fun x xs_0 i_13 i_14 k1 k2 => x = XL86_4 ∧ ∃ n, RL86_4  n xs_0 i_13 i_14 k1 k2
def VL86_4 (l : YL86_4) (F : Prop) (x : Code) (ρ : Env) (m : Mem) (K : Ex → Env → Mem → Prop) : Prop :=
  match ρ.has (35 - 1) with
  | true => (seeS (ρ.get 0) F fun xs_0 => (seeI .i64 (ρ.get 13) F fun i_13 => (seeI .i64 (ρ.get 14) F fun i_14 => (seeNil m F (l x xs_0 i_13 i_14 (K .ret (selE 35 [(2, (.B false))]) []) (K (.exit 0) (selE 35 [(2, .undef)]) []))))))
  | false => False
def WL86_4 (l : YL86_4) (W : Masks) : Masks := fun r =>
  match Nat.beq r 4 with
  | true => some fun x ρ m K => VL86_4 l (match W r with | some lf => lf x ρ m K | none => False) x (tidyE 0 [0, 13, 14] ρ m) (tidyM 0 [0, 13, 14] ρ m) K
  | false => W r
set_option maxRecDepth 100000 in
theorem WL86_4_ok {W : Masks} (hW : LoopsOk Tryz.prog 0 W) : LoopsOk Tryz.prog 0 (WL86_4 GL86_4 W) := by
  intro r lf h
  unfold WL86_4 at h
  split at h
  · cases h
    intro x E0 m0 w0 J hS0 ha hJ ρ m K E a w Q hS hρ hd h hQ
    have fb : (match W r with | some lf => lf x ρ m K | none => False) → (Code.loop x).wp Tryz.prog Q a w := fun h => by
      split at h
      · rename_i lf hlf
        exact hW r lf hlf x hS0 ha hJ ρ m K E a w Q hS hρ hd h hQ
      · cases h
    obtain ⟨E2, hS2, hρ2⟩ := tidy_rel hS0 hS hρ [0, 13, 14]
    rw [ha] at hS2 hρ2
    unfold VL86_4 at h
    split at h
    · rename_i hlen
      replace h := seeS_use h
      rcases h with h | ⟨xs_0, e1, h⟩
      · exact fb h
      replace h := seeI_use h
      rcases h with h | ⟨i_13, e2, h⟩
      · exact fb h
      replace h := seeI_use h
      rcases h with h | ⟨i_14, e3, h⟩
      · exact fb h
      replace h := seeNil_use h
      rcases h with h | ⟨eqm, h⟩
      · exact fb h
      obtain ⟨rfl, n, h⟩ := h
      exact loop_use named C0_ok (LoopsOk.none _ _) (RL86_4_ok  K n _ _ _) h hS0 ha hJ hlen ⟨e1, e2, e3, trivial⟩ (eqm ▸ hS2) hρ2 hd hQ
    · cases h
  · exact hW r lf h
theorem at86 : Tryz.prog.funcs[86]? = some (fnOf Tryz.prog 86) := by kernel_rfl
def F86  (l86_4 : YL86_4) (w : List Int) (k1 k2 : Prop) : Prop :=
  (bif (decide ((((List.length w) : Nat) : Int) < (1 : Int))) then k1 else (bif (decide ((((List.length w) : Nat) : Int) > (255 : Int))) then k1 else (l86_4 XL86_4 w (((List.length w) : Nat) : Int) (0 : Int) ((k1)) ((k2)))))
theorem F86_ok  (l86_4 : YL86_4) (w : List Int) (K : V → Mem → Prop) : cbody Tryz.prog C0 (WL86_4 l86_4 (fun _ => none)) 1000 (fnOf Tryz.prog 86) [(.S w)] [] K =
    F86  l86_4 w (K (.B false) []) (K (.B true) []) := by kernel_rfl
def G86 := F86  GL86_4
set_option maxHeartbeats 4000000 in
theorem h86 (w : List Int)  (k : Bool → Prop) (h : k (nameB w)) : G86 w (k false) (k true) := by
  unfold G86 F86
  refine cond_ind (fun c => ?_) (fun c => ?_)
  · refine Eq.mp (congrArg k ?_) h
    simp [nameB] at *
    intro h1; omega
  refine cond_ind (fun c2 => ?_) (fun c2 => ?_)
  · refine Eq.mp (congrArg k ?_) h
    simp [nameB] at *
    intro h1 h2; omega
  refine ⟨rfl, w.length + 1, ?_⟩
  have hh : k ((w.drop 0).all fun c => !badC c) := by
    refine Eq.mp (congrArg k ?_) h
    simp at c c2
    simp only [nameB, List.drop_zero]
    rw [dt (show 1 ≤ w.length by omega), dt (show w.length ≤ 255 by omega)]
    rfl
  have key : ∀ (d j : Nat), j + d = w.length → w.length ≤ 255 → k ((w.drop j).all fun c => !badC c) → RL86_4 (d + 1) w (w.length : Int) (j : Int) (k false) (k true) := by
    intro d
    induction d with
    | zero =>
      intro j hj _ hk
      have e : w.drop j = [] := by simp; omega
      rw [e] at hk
      show HL86_4 _ _ _ _ _ _
      unfold HL86_4
      rw [df (show ¬ (j : Int) < (w.length : Int) by omega)]
      exact hk
    | succ d ih =>
      intro j hj hl hk
      have hjl : j < w.length := by omega
      have ih' := ih (j + 1) (by omega) hl
      rw [List.drop_eq_getElem_cons hjl, List.all_cons] at hk
      have eg : List.getD w (Int.toNat (j : Int)) (0 : Int) = w[j] := by simp [hjl]
      have ei := idxF_ge [40, 41, 44, 64, 36, 37, 42, 35, 59, 58, 34, 39] w[j] 0 (by omega)
      show HL86_4 _ _ _ _ _ _
      unfold HL86_4
      rw [dt (show (j : Int) < (w.length : Int) by omega), dt (show (0 : Int) ≤ (j : Int) by omega), eg]
      simp only [Bool.and_true, Bool.and_self, cond_true]
      unfold idxB
      rw [ei, wid (by omega) (by omega)]
      refine cond_ind (fun a1 => ?_) (fun a1 => ?_)
      · have eb : badC w[j] = true := by unfold badC; rw [a1]; simp
        rw [eb] at hk; exact hk
      refine cond_ind (fun a2 => ?_) (fun a2 => ?_)
      · have eb : badC w[j] = true := by unfold badC; rw [a2]; simp
        rw [eb] at hk; exact hk
      refine cond_ind (fun a3 => ?_) (fun a3 => ?_)
      · have eb : badC w[j] = true := by unfold badC; rw [a3]; simp
        rw [eb] at hk; exact hk
      have eb : badC w[j] = false := by unfold badC; rw [a1, a2, a3]; rfl
      rw [eb] at hk
      exact ih' hk
  have c2' : w.length ≤ 255 := by simp at c2; omega
  exact key w.length 0 (by omega) c2' hh
theorem H86 (w : List Int) {E : Wh} {w' : World} {cargs : Array Value} {K : V → Mem → Prop} (hS : Sim E [] w') (ha : VsRel E [(.S w)] cargs.toList) (h : K (.B (nameB w)) []) :
    ((∃ fn, Tryz.prog.funcs[86]? = some fn ∧ fn.body.isSome = true) ∧ Calls Tryz.prog 86 cargs w' (Ret K E [] w')) ∨ ∃ cv w1, (callFunc 86 cargs).run Tryz.prog w' = .ok (.value cv) w1 ∧ Ret K E [] w' (.returned cv) w1 :=
  cbody_use named C0_ok at86 (l := 0) rfl (WL86_4_ok (LoopsOk.none _ _)) (F86_ok  GL86_4 w K) hS ha (h86 w  (fun u => K (.B u) []) h)

def P86 : Prim := fun args m K =>
  let F := False
  (seeCons args F fun a1 q2 => (seeS a1 F fun w => (seeNil q2 F (seeNil m F (K (.B (nameB w)) [])))))
set_option maxRecDepth 100000 in
theorem P86_ok : PrimOk Tryz.prog 86 P86 := by
  intro args m K E w cargs hS ha h
  unfold P86 at h
  dsimp only at h
  replace h := seeCons_use h
  rcases h with h | ⟨a1, q2, rfl, h⟩
  · exact h.elim
  replace h := seeS_use h
  rcases h with h | ⟨w, rfl, h⟩
  · exact h.elim
  replace h := seeNil_use h
  rcases h with h | ⟨rfl, h⟩
  · exact h.elim
  replace h := seeNil_use h
  rcases h with h | ⟨rfl, h⟩
  · exact h.elim
  exact H86 w hS ha h
abbrev YL88_2 : Type := Code → List Int → Int → (Prop) → (Prop) → Prop
def HL88_2  (rec : Int → Prop) (xs_0 : List Int) (i_3 : Int) (k1 k2 : Prop) : Prop :=
  (bif (decide (i_3 < (((List.length xs_0) : Nat) : Int))) then (bif ((decide ((0 : Int) ≤ i_3)) && (decide (i_3 < (((List.length xs_0) : Nat) : Int)))) then (bif ((List.getD xs_0 (Int.toNat i_3) (0 : Int)) == (40 : Int)) then (bif ((List.getD xs_0 (Int.toNat i_3) (0 : Int)) == (40 : Int)) then k1 else (bif ((decide ((0 : Int) ≤ i_3)) && (decide (i_3 < (((List.length xs_0) : Nat) : Int)))) then (bif (decide ((List.getD xs_0 (Int.toNat i_3) (0 : Int)) < (33 : Int))) then k1 else (bif ((decide ((0 : Int) ≤ i_3)) && (decide (i_3 < (((List.length xs_0) : Nat) : Int)))) then (bif (decide ((List.getD xs_0 (Int.toNat i_3) (0 : Int)) > (126 : Int))) then k1 else (rec (IntKind.wrap .i64 (i_3 + (1 : Int))))) else False)) else False)) else (bif ((List.getD xs_0 (Int.toNat i_3) (0 : Int)) == (41 : Int)) then (bif ((List.getD xs_0 (Int.toNat i_3) (0 : Int)) == (41 : Int)) then k1 else (bif ((decide ((0 : Int) ≤ i_3)) && (decide (i_3 < (((List.length xs_0) : Nat) : Int)))) then (bif (decide ((List.getD xs_0 (Int.toNat i_3) (0 : Int)) < (33 : Int))) then k1 else (bif ((decide ((0 : Int) ≤ i_3)) && (decide (i_3 < (((List.length xs_0) : Nat) : Int)))) then (bif (decide ((List.getD xs_0 (Int.toNat i_3) (0 : Int)) > (126 : Int))) then k1 else (rec (IntKind.wrap .i64 (i_3 + (1 : Int))))) else False)) else False)) else (bif ((List.getD xs_0 (Int.toNat i_3) (0 : Int)) == (44 : Int)) then (bif ((List.getD xs_0 (Int.toNat i_3) (0 : Int)) == (44 : Int)) then k1 else (bif ((decide ((0 : Int) ≤ i_3)) && (decide (i_3 < (((List.length xs_0) : Nat) : Int)))) then (bif (decide ((List.getD xs_0 (Int.toNat i_3) (0 : Int)) < (33 : Int))) then k1 else (bif ((decide ((0 : Int) ≤ i_3)) && (decide (i_3 < (((List.length xs_0) : Nat) : Int)))) then (bif (decide ((List.getD xs_0 (Int.toNat i_3) (0 : Int)) > (126 : Int))) then k1 else (rec (IntKind.wrap .i64 (i_3 + (1 : Int))))) else False)) else False)) else (bif ((List.getD xs_0 (Int.toNat i_3) (0 : Int)) == (64 : Int)) then (bif ((List.getD xs_0 (Int.toNat i_3) (0 : Int)) == (64 : Int)) then k1 else (bif ((decide ((0 : Int) ≤ i_3)) && (decide (i_3 < (((List.length xs_0) : Nat) : Int)))) then (bif (decide ((List.getD xs_0 (Int.toNat i_3) (0 : Int)) < (33 : Int))) then k1 else (bif ((decide ((0 : Int) ≤ i_3)) && (decide (i_3 < (((List.length xs_0) : Nat) : Int)))) then (bif (decide ((List.getD xs_0 (Int.toNat i_3) (0 : Int)) > (126 : Int))) then k1 else (rec (IntKind.wrap .i64 (i_3 + (1 : Int))))) else False)) else False)) else (bif ((List.getD xs_0 (Int.toNat i_3) (0 : Int)) == (36 : Int)) then (bif ((List.getD xs_0 (Int.toNat i_3) (0 : Int)) == (36 : Int)) then k1 else (bif ((decide ((0 : Int) ≤ i_3)) && (decide (i_3 < (((List.length xs_0) : Nat) : Int)))) then (bif (decide ((List.getD xs_0 (Int.toNat i_3) (0 : Int)) < (33 : Int))) then k1 else (bif ((decide ((0 : Int) ≤ i_3)) && (decide (i_3 < (((List.length xs_0) : Nat) : Int)))) then (bif (decide ((List.getD xs_0 (Int.toNat i_3) (0 : Int)) > (126 : Int))) then k1 else (rec (IntKind.wrap .i64 (i_3 + (1 : Int))))) else False)) else False)) else (bif ((List.getD xs_0 (Int.toNat i_3) (0 : Int)) == (37 : Int)) then (bif ((List.getD xs_0 (Int.toNat i_3) (0 : Int)) == (37 : Int)) then k1 else (bif ((decide ((0 : Int) ≤ i_3)) && (decide (i_3 < (((List.length xs_0) : Nat) : Int)))) then (bif (decide ((List.getD xs_0 (Int.toNat i_3) (0 : Int)) < (33 : Int))) then k1 else (bif ((decide ((0 : Int) ≤ i_3)) && (decide (i_3 < (((List.length xs_0) : Nat) : Int)))) then (bif (decide ((List.getD xs_0 (Int.toNat i_3) (0 : Int)) > (126 : Int))) then k1 else (rec (IntKind.wrap .i64 (i_3 + (1 : Int))))) else False)) else False)) else (bif ((List.getD xs_0 (Int.toNat i_3) (0 : Int)) == (42 : Int)) then (bif ((List.getD xs_0 (Int.toNat i_3) (0 : Int)) == (42 : Int)) then k1 else (bif ((decide ((0 : Int) ≤ i_3)) && (decide (i_3 < (((List.length xs_0) : Nat) : Int)))) then (bif (decide ((List.getD xs_0 (Int.toNat i_3) (0 : Int)) < (33 : Int))) then k1 else (bif ((decide ((0 : Int) ≤ i_3)) && (decide (i_3 < (((List.length xs_0) : Nat) : Int)))) then (bif (decide ((List.getD xs_0 (Int.toNat i_3) (0 : Int)) > (126 : Int))) then k1 else (rec (IntKind.wrap .i64 (i_3 + (1 : Int))))) else False)) else False)) else (bif ((List.getD xs_0 (Int.toNat i_3) (0 : Int)) == (35 : Int)) then (bif ((List.getD xs_0 (Int.toNat i_3) (0 : Int)) == (35 : Int)) then k1 else (bif ((decide ((0 : Int) ≤ i_3)) && (decide (i_3 < (((List.length xs_0) : Nat) : Int)))) then (bif (decide ((List.getD xs_0 (Int.toNat i_3) (0 : Int)) < (33 : Int))) then k1 else (bif ((decide ((0 : Int) ≤ i_3)) && (decide (i_3 < (((List.length xs_0) : Nat) : Int)))) then (bif (decide ((List.getD xs_0 (Int.toNat i_3) (0 : Int)) > (126 : Int))) then k1 else (rec (IntKind.wrap .i64 (i_3 + (1 : Int))))) else False)) else False)) else (bif ((List.getD xs_0 (Int.toNat i_3) (0 : Int)) == (59 : Int)) then (bif ((List.getD xs_0 (Int.toNat i_3) (0 : Int)) == (59 : Int)) then k1 else (bif ((decide ((0 : Int) ≤ i_3)) && (decide (i_3 < (((List.length xs_0) : Nat) : Int)))) then (bif (decide ((List.getD xs_0 (Int.toNat i_3) (0 : Int)) < (33 : Int))) then k1 else (bif ((decide ((0 : Int) ≤ i_3)) && (decide (i_3 < (((List.length xs_0) : Nat) : Int)))) then (bif (decide ((List.getD xs_0 (Int.toNat i_3) (0 : Int)) > (126 : Int))) then k1 else (rec (IntKind.wrap .i64 (i_3 + (1 : Int))))) else False)) else False)) else (bif ((List.getD xs_0 (Int.toNat i_3) (0 : Int)) == (58 : Int)) then (bif ((List.getD xs_0 (Int.toNat i_3) (0 : Int)) == (58 : Int)) then k1 else (bif ((decide ((0 : Int) ≤ i_3)) && (decide (i_3 < (((List.length xs_0) : Nat) : Int)))) then (bif (decide ((List.getD xs_0 (Int.toNat i_3) (0 : Int)) < (33 : Int))) then k1 else (bif ((decide ((0 : Int) ≤ i_3)) && (decide (i_3 < (((List.length xs_0) : Nat) : Int)))) then (bif (decide ((List.getD xs_0 (Int.toNat i_3) (0 : Int)) > (126 : Int))) then k1 else (rec (IntKind.wrap .i64 (i_3 + (1 : Int))))) else False)) else False)) else (bif ((List.getD xs_0 (Int.toNat i_3) (0 : Int)) == (34 : Int)) then (bif ((List.getD xs_0 (Int.toNat i_3) (0 : Int)) == (34 : Int)) then k1 else (bif ((decide ((0 : Int) ≤ i_3)) && (decide (i_3 < (((List.length xs_0) : Nat) : Int)))) then (bif (decide ((List.getD xs_0 (Int.toNat i_3) (0 : Int)) < (33 : Int))) then k1 else (bif ((decide ((0 : Int) ≤ i_3)) && (decide (i_3 < (((List.length xs_0) : Nat) : Int)))) then (bif (decide ((List.getD xs_0 (Int.toNat i_3) (0 : Int)) > (126 : Int))) then k1 else (rec (IntKind.wrap .i64 (i_3 + (1 : Int))))) else False)) else False)) else (bif ((List.getD xs_0 (Int.toNat i_3) (0 : Int)) == (39 : Int)) then k1 else (bif ((decide ((0 : Int) ≤ i_3)) && (decide (i_3 < (((List.length xs_0) : Nat) : Int)))) then (bif (decide ((List.getD xs_0 (Int.toNat i_3) (0 : Int)) < (33 : Int))) then k1 else (bif ((decide ((0 : Int) ≤ i_3)) && (decide (i_3 < (((List.length xs_0) : Nat) : Int)))) then (bif (decide ((List.getD xs_0 (Int.toNat i_3) (0 : Int)) > (126 : Int))) then k1 else (rec (IntKind.wrap .i64 (i_3 + (1 : Int))))) else False)) else False))))))))))))) else False) else k2)
def RL88_2  : Nat → List Int → Int → (Prop) → (Prop) → Prop
  | 0, _, _, _, _ => False
  | n + 1, xs_0, i_3, k1, k2 => HL88_2  (fun (i_3 : Int) => RL88_2  n xs_0 i_3 k1 k2) xs_0 i_3 k1 k2
noncomputable def XL88_2 : Code := sub [true, false, true, false, false] (bodyOf Tryz.prog 88)
theorem HL88_2_ok  (n : Nat) (xs_0 : List Int) (i_3 : Int) (K : Ex → Env → Mem → Prop) : cround 0 [0, 3] [0, 2] (fun ρ m K => cexec Tryz.prog C0 (fun _ => none) 0 1000 XL88_2 ρ m K) (n + 1) (selE 44 [(0, (.S xs_0)), (3, (.I .i64 i_3))]) [] K =
    HL88_2  (fun (i_3 : Int) => cround 0 [0, 3] [0, 2] (fun ρ m K => cexec Tryz.prog C0 (fun _ => none) 0 1000 XL88_2 ρ m K) n (selE 44 [(0, (.S xs_0)), (3, (.I .i64 i_3))]) [] K) xs_0 i_3 (K .ret (selE 44 [(0, (.S xs_0)), (2, (.B false))]) []) (K (.exit 0) (selE 44 [(0, (.S xs_0)), (2, .undef)]) []) := by kernel_rfl
theorem RL88_2_ok  (K : Ex → Env → Mem → Prop) : ∀ (n : Nat) (xs_0 : List Int) (i_3 : Int), cround 0 [0, 3] [0, 2] (fun ρ m K => cexec Tryz.prog C0 (fun _ => none) 0 1000 XL88_2 ρ m K) n (selE 44 [(0, (.S xs_0)), (3, (.I .i64 i_3))]) [] K = RL88_2  n xs_0 i_3 (K .ret (selE 44 [(0, (.S xs_0)), (2, (.B false))]) []) (K (.exit 0) (selE 44 [(0, (.S xs_0)), (2, .undef)]) [])
  | 0, xs_0, i_3 => rfl
  | n + 1, xs_0, i_3 => by
    have ih := RL88_2_ok  K n
    rw [HL88_2_ok  n xs_0 i_3 K]
    show HL88_2  _ xs_0 i_3 (K .ret (selE 44 [(0, (.S xs_0)), (2, (.B false))]) []) (K (.exit 0) (selE 44 [(0, (.S xs_0)), (2, .undef)]) []) = HL88_2  _ xs_0 i_3 (K .ret (selE 44 [(0, (.S xs_0)), (2, (.B false))]) []) (K (.exit 0) (selE 44 [(0, (.S xs_0)), (2, .undef)]) [])
    refine congrArg (fun r => HL88_2  r xs_0 i_3 (K .ret (selE 44 [(0, (.S xs_0)), (2, (.B false))]) []) (K (.exit 0) (selE 44 [(0, (.S xs_0)), (2, .undef)]) [])) ?_
    funext i_3
    exact ih xs_0 i_3
def GL88_2 : YL88_2 := fun x xs_0 i_3 k1 k2 => x = XL88_2 ∧ ∃ n, RL88_2  n xs_0 i_3 k1 k2
def VL88_2 (l : YL88_2) (F : Prop) (x : Code) (ρ : Env) (m : Mem) (K : Ex → Env → Mem → Prop) : Prop :=
  match ρ.has (44 - 1) with
  | true => (seeS (ρ.get 0) F fun xs_0 => (seeI .i64 (ρ.get 3) F fun i_3 => (seeNil m F (l x xs_0 i_3 (K .ret (selE 44 [(0, (.S xs_0)), (2, (.B false))]) []) (K (.exit 0) (selE 44 [(0, (.S xs_0)), (2, .undef)]) [])))))
  | false => False
def WL88_2 (l : YL88_2) (W : Masks) : Masks := fun r =>
  match Nat.beq r 2 with
  | true => some fun x ρ m K => VL88_2 l (match W r with | some lf => lf x ρ m K | none => False) x (tidyE 0 [0, 3] ρ m) (tidyM 0 [0, 3] ρ m) K
  | false => W r
set_option maxRecDepth 100000 in
theorem WL88_2_ok {W : Masks} (hW : LoopsOk Tryz.prog 0 W) : LoopsOk Tryz.prog 0 (WL88_2 GL88_2 W) := by
  intro r lf h
  unfold WL88_2 at h
  split at h
  · cases h
    intro x E0 m0 w0 J hS0 ha hJ ρ m K E a w Q hS hρ hd h hQ
    have fb : (match W r with | some lf => lf x ρ m K | none => False) → (Code.loop x).wp Tryz.prog Q a w := fun h => by
      split at h
      · rename_i lf hlf
        exact hW r lf hlf x hS0 ha hJ ρ m K E a w Q hS hρ hd h hQ
      · cases h
    obtain ⟨E2, hS2, hρ2⟩ := tidy_rel hS0 hS hρ [0, 3]
    rw [ha] at hS2 hρ2
    unfold VL88_2 at h
    split at h
    · rename_i hlen
      replace h := seeS_use h
      rcases h with h | ⟨xs_0, e1, h⟩
      · exact fb h
      replace h := seeI_use h
      rcases h with h | ⟨i_3, e2, h⟩
      · exact fb h
      replace h := seeNil_use h
      rcases h with h | ⟨eqm, h⟩
      · exact fb h
      obtain ⟨rfl, n, h⟩ := h
      exact loop_use named C0_ok (LoopsOk.none _ _) (RL88_2_ok  K n _ _) h hS0 ha hJ hlen ⟨e1, e2, trivial⟩ (eqm ▸ hS2) hρ2 hd hQ
    · cases h
  · exact hW r lf h
theorem at88 : Tryz.prog.funcs[88]? = some (fnOf Tryz.prog 88) := by kernel_rfl
def F88  (l88_2 : YL88_2) (w : List Int) (k1 : Prop) (k2 : Bool → Prop) : Prop :=
  (l88_2 XL88_2 w (0 : Int) ((k1)) ((bif (decide ((((List.length w) : Nat) : Int) ≥ (1 : Int))) then (k2 (decide ((((List.length w) : Nat) : Int) ≤ (255 : Int)))) else k1)))
theorem F88_ok  (l88_2 : YL88_2) (w : List Int) (K : V → Mem → Prop) : cbody Tryz.prog C0 (WL88_2 l88_2 (fun _ => none)) 1000 (fnOf Tryz.prog 88) [(.S w)] [] K =
    F88  l88_2 w (K (.B false) []) (fun (u0 : Bool) => K (.B u0) []) := by kernel_rfl
def G88 := F88  GL88_2
set_option maxHeartbeats 4000000 in
theorem h88 (w : List Int) (hl : w.length ≤ 9223372036854775807) (k : Bool → Prop) (h : k (nameB w)) : G88 w (k false) (fun (u0 : Bool) => k u0) := by
  unfold G88 F88
  refine ⟨rfl, w.length + 1, ?_⟩
  have hh : k (decide (1 ≤ w.length) && decide (w.length ≤ 255) && (w.drop 0).all fun c => !badC c) := h
  have key : ∀ (d j : Nat), j + d = w.length → k (decide (1 ≤ w.length) && decide (w.length ≤ 255) && (w.drop j).all fun c => !badC c) →
      RL88_2 (d + 1) w (j : Int) (k false) (bif decide (((w.length : Nat) : Int) ≥ (1 : Int)) then k (decide (((w.length : Nat) : Int) ≤ (255 : Int))) else k false) := by
    intro d
    induction d with
    | zero =>
      intro j hj hk
      have e : w.drop j = [] := by simp; omega
      rw [e] at hk
      show HL88_2 _ _ _ _ _
      unfold HL88_2
      rw [df (show ¬ (j : Int) < (w.length : Int) by omega)]
      simp only [cond_false]
      refine cond_ind (fun a1 => ?_) (fun a1 => ?_) <;> refine Eq.mp (congrArg k ?_) hk <;> rw [Bool.eq_iff_iff] <;> simp at * <;> omega
    | succ d ih =>
      intro j hj hk
      have hjl : j < w.length := by omega
      have ih' := ih (j + 1) (by omega)
      rw [List.drop_eq_getElem_cons hjl, List.all_cons] at hk
      have eg : List.getD w (Int.toNat (j : Int)) (0 : Int) = w[j] := by simp [hjl]
      show HL88_2 _ _ _ _ _
      unfold HL88_2
      rw [dt (show (j : Int) < (w.length : Int) by omega), dt (show (0 : Int) ≤ (j : Int) by omega), eg]
      simp only [Bool.and_true, Bool.and_self, cond_true]
      rw [wid (by omega) (by omega)]
      have done : badC w[j] = true → k false := by
        intro hb; rw [hb] at hk; simpa using hk
      have next : badC w[j] = false → RL88_2 (d + 1) w ((j : Int) + 1) (k false) (bif decide (((w.length : Nat) : Int) ≥ (1 : Int)) then k (decide (((w.length : Nat) : Int) ≤ (255 : Int))) else k false) := by
        intro hb; rw [hb] at hk; exact ih' (by simpa using hk)
      generalize RL88_2 (d + 1) w ((j : Int) + 1) (k false) (bif decide (((w.length : Nat) : Int) ≥ (1 : Int)) then k (decide (((w.length : Nat) : Int) ≤ (255 : Int))) else k false) = R at *
      generalize w[j] = c at *
      (repeat' refine cond_ind (fun _ => ?_) (fun _ => ?_)) <;> first | (apply done; simp_all [badC]; done) | (apply next; simp_all [badC]; done)
  exact key w.length 0 (by omega) hh
theorem H88 (w : List Int) {E : Wh} {w' : World} {cargs : Array Value} {K : V → Mem → Prop} (hS : Sim E [] w') (ha : VsRel E [(.S w)] cargs.toList) (h : K (.B (nameB w)) []) :
    ((∃ fn, Tryz.prog.funcs[88]? = some fn ∧ fn.body.isSome = true) ∧ Calls Tryz.prog 88 cargs w' (Ret K E [] w')) ∨ ∃ cv w1, (callFunc 88 cargs).run Tryz.prog w' = .ok (.value cv) w1 ∧ Ret K E [] w' (.returned cv) w1 :=
  cbody_use named C0_ok at88 (l := 0) rfl (WL88_2_ok (LoopsOk.none _ _)) (F88_ok  GL88_2 w K) hS ha (h88 w (bytesI_le ha) (fun u => K (.B u) []) h)

def P88 : Prim := fun args m K =>
  let F := False
  (seeCons args F fun a1 q2 => (seeS a1 F fun w => (seeNil q2 F (seeNil m F (K (.B (nameB w)) [])))))
set_option maxRecDepth 100000 in
theorem P88_ok : PrimOk Tryz.prog 88 P88 := by
  intro args m K E w cargs hS ha h
  unfold P88 at h
  dsimp only at h
  replace h := seeCons_use h
  rcases h with h | ⟨a1, q2, rfl, h⟩
  · exact h.elim
  replace h := seeS_use h
  rcases h with h | ⟨w, rfl, h⟩
  · exact h.elim
  replace h := seeNil_use h
  rcases h with h | ⟨rfl, h⟩
  · exact h.elim
  replace h := seeNil_use h
  rcases h with h | ⟨rfl, h⟩
  · exact h.elim
  exact H88 w hS ha h
def prims1 : Prims := fun f =>
  match Nat.beq f 86 with
  | true => some P86
  | false =>   match Nat.beq f 88 with
  | true => some P88
  | false => prims0 f
theorem prims1_ok : PrimsOk Tryz.prog prims1 := by
  intro f g hg
  unfold prims1 at hg
  split at hg
  · rename_i hf
    obtain rfl := Nat.eq_of_beq_eq_true hf
    cases hg
    exact P86_ok
  · skip
    split at hg
    · rename_i hf
      obtain rfl := Nat.eq_of_beq_eq_true hf
      cases hg
      exact P88_ok
    · skip
      exact prims0_ok f g hg
def C1 : CC := call Tryz.prog prims1 1000
theorem C1_ok : CallsOk Tryz.prog C1 := call_sound named prims1_ok 1000

end Go.Proofs.YtkbijhfikkjhpaaGreatDoor.frm
