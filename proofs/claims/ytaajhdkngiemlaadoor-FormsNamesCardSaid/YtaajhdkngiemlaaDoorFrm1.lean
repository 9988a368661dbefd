import Derived.Test.YtaajhdkngiemlaaDoorProg
import Derived.Test.YtaajhdkngiemlaaDoorFrmB
set_option linter.unusedVariables false
set_option linter.unusedSimpArgs false
set_option maxHeartbeats 4000000
set_option maxRecDepth 100000
namespace Go.Proofs.YtaajhdkngiemlaaDoor.frm
open Go Go.Ab
theorem named : Named Tryd.prog := by
  have h : Tryd.prog.funcs.toList.all (fun fn => !(fn.name == "runtime.NumGoroutine")) = true := by kernel_rfl
  intro g fn hf
  have := List.all_eq_true.1 h fn (by rw [Array.getElem?_eq_some_iff] at hf; obtain ⟨h1, rfl⟩ := hf; simp)
  simpa using this
def prims0 : Prims := fun f =>
  match Nat.beq f 110 with
  | true => some pIdx
  | false => match Nat.beq f 98 with
  | true => some pSame
  | false => match Nat.beq f 99 with
  | true => some (pMake 5)
  | false => none
theorem stands {f : FuncId} {e : Array Value → Sem Value} (hf : Tryd.prog.funcs[f]? = some (fnOf Tryd.prog f)) (h1 : ((fnOf Tryd.prog f).name == "runtime.NumGoroutine") = false) (h2 : (fnOf Tryd.prog f).body.isNone = true)
    (h3 : Extern.findNext (fnOf Tryd.prog f) = none) (h4 : Extern.find (fnOf Tryd.prog f) = some e) : Stands Tryd.prog f e := ⟨_, hf, h1, h2, h3, h4⟩
theorem prims0_ok : PrimsOk Tryd.prog prims0 := by
  intro f g hg
  unfold prims0 at hg
  split at hg
  · rename_i hf
    obtain rfl := Nat.eq_of_beq_eq_true hf
    cases hg
    exact pIdx_ok (stands (by kernel_rfl) (by kernel_rfl) (by kernel_rfl) (by kernel_rfl) (by kernel_rfl))
  · split at hg
    · rename_i hf
      obtain rfl := Nat.eq_of_beq_eq_true hf
      cases hg
      exact pSame_ok (stands (by kernel_rfl) (by kernel_rfl) (by kernel_rfl) (by kernel_rfl) (by kernel_rfl))
    · split at hg
      · rename_i hf
        obtain rfl := Nat.eq_of_beq_eq_true hf
        cases hg
        exact pMake_ok (ps := #[3]) (t := 72) (stands (by kernel_rfl) (by kernel_rfl) (by kernel_rfl) (by kernel_rfl) (by kernel_rfl)) (by kernel_rfl)
      · cases hg
theorem bytesI_le {E : Wh} {w : List Int} {cargs : List Value} (ha : VsRel E [.S w] cargs) : w.length ≤ 9223372036854775807 := by
  simp only [VsRel, VRel] at ha
  obtain ⟨c, r, _, ⟨s, _, hs, hl⟩, _⟩ := ha
  rw [← hs, bytesI_len]; exact hl
def C0 : CC := call Tryd.prog prims0 1000
theorem C0_ok : CallsOk Tryd.prog C0 := call_sound named prims0_ok 1000
abbrev YL91_4 : Type := Code → List Int → Int → Int → (Prop) → (Prop) → Prop
def HL91_4  (rec : Int → Prop) (xs_0 : List Int) (i_13 i_14 : Int) (k1 k2 : Prop) : Prop :=
  (bif (decide (i_14 < i_13)) then (bif ((decide ((0 : Int) ≤ i_14)) && (decide (i_14 < (((List.length xs_0) : Nat) : Int)))) then (bif (decide ((List.getD xs_0 (Int.toNat i_14) (0 : Int)) < (33 : Int))) then k1 else (bif ((decide ((0 : Int) ≤ i_14)) && (decide (i_14 < (((List.length xs_0) : Nat) : Int)))) then (bif (decide ((List.getD xs_0 (Int.toNat i_14) (0 : Int)) > (126 : Int))) then k1 else (bif ((decide ((0 : Int) ≤ i_14)) && (decide (i_14 < (((List.length xs_0) : Nat) : Int)))) then (bif (decide ((idxB ([(40 : Int), (41 : Int), (44 : Int), (64 : Int), (36 : Int), (37 : Int), (42 : Int), (35 : Int), (59 : Int), (58 : Int), (34 : Int), (39 : Int)] : List Int) (List.getD xs_0 (Int.toNat i_14) (0 : Int))) ≥ (0 : Int))) then k1 else (rec (IntKind.wrap .i64 (i_14 + (1 : Int))))) else False)) else False)) else False) else k2)
def RL91_4  : Nat → List Int → Int → Int → (Prop) → (Prop) → Prop
  | 0, _, _, _, _, _ => False
  | n + 1, xs_0, i_13, i_14, k1, k2 => HL91_4  (fun (i_14 : Int) => RL91_4  n xs_0 i_13 i_14 k1 k2) xs_0 i_13 i_14 k1 k2
noncomputable def XL91_4 : Code := sub [true, true, false, true, false, false] (bodyOf Tryd.prog 91)
theorem HL91_4_ok  (n : Nat) (xs_0 : List Int) (i_13 i_14 : Int) (K : Ex → Env → Mem → Prop) : cround 0 [0, 13, 14] [2] (fun ρ m K => cexec Tryd.prog C0 (fun _ => none) 0 1000 XL91_4 ρ m K) (n + 1) (selE 35 [(0, (.S xs_0)), (13, (.I .i64 i_13)), (14, (.I .i64 i_14))]) [] K =
    HL91_4  (fun (i_14 : Int) => cround 0 [0, 13, 14] [2] (fun ρ m K => cexec Tryd.prog C0 (fun _ => none) 0 1000 XL91_4 ρ m K) n (selE 35 [(0, (.S xs_0)), (13, (.I .i64 i_13)), (14, (.I .i64 i_14))]) [] K) xs_0 i_13 i_14 (K .ret (selE 35 [(2, (.B false))]) []) (K (.exit 0) (selE 35 [(2, .undef)]) []) := by kernel_rfl
theorem RL91_4_ok  (K : Ex → Env → Mem → Prop) : ∀ (n : Nat) (xs_0 : List Int) (i_13 i_14 : Int), cround 0 [0, 13, 14] [2] (fun ρ m K => cexec Tryd.prog C0 (fun _ => none) 0 1000 XL91_4 ρ m K) n (selE 35 [(0, (.S xs_0)), (13, (.I .i64 i_13)), (14, (.I .i64 i_14))]) [] K = RL91_4  n xs_0 i_13 i_14 (K .ret (selE 35 [(2, (.B false))]) []) (K (.exit 0) (selE 35 [(2, .undef)]) [])
  | 0, xs_0, i_13, i_14 => rfl
  | n + 1, xs_0, i_13, i_14 => by
    have ih := RL91_4_ok  K n
    rw [HL91_4_ok  n xs_0 i_13 i_14 K]
    show HL91_4  _ xs_0 i_13 i_14 (K .ret (selE 35 [(2, (.B false))]) []) (K (.exit 0) (selE 35 [(2, .undef)]) []) = HL91_4  _ xs_0 i_13 i_14 (K .ret (selE 35 [(2, (.B false))]) []) (K (.exit 0) (selE 35 [(2, .undef)]) [])
    refine congrArg (fun r => HL91_4  r xs_0 i_13 i_14 (K .ret (selE 35 [(2, (.B false))]) []) (K (.exit 0) (selE 35 [(2, .undef)]) [])) ?_
    funext i_14
    exact ih xs_0 i_13 i_14
def GL91_4 : YL91_4 := fun x xs_0 i_13 i_14 k1 k2 => x = XL91_4 ∧ ∃ n, RL91_4  n xs_0 i_13 i_14 k1 k2
def VL91_4 (l : YL91_4) (F : Prop) (x : Code) (ρ : Env) (m : Mem) (K : Ex → Env → Mem → Prop) : Prop :=
  match ρ.has (35 - 1) with
  | true => (seeS (ρ.get 0) F fun xs_0 => (seeI .i64 (ρ.get 13) F fun i_13 => (seeI .i64 (ρ.get 14) F fun i_14 => (seeNil m F (l x xs_0 i_13 i_14 (K .ret (selE 35 [(2, (.B false))]) []) (K (.exit 0) (selE 35 [(2, .undef)]) []))))))
  | false => False
def WL91_4 (l : YL91_4) (W : Masks) : Masks := fun r =>
  match Nat.beq r 4 with
  | true => some fun x ρ m K => VL91_4 l (match W r with | some lf => lf x ρ m K | none => False) x (tidyE 0 [0, 13, 14] ρ m) (tidyM 0 [0, 13, 14] ρ m) K
  | false => W r
set_option maxRecDepth 100000 in
theorem WL91_4_ok {W : Masks} (hW : LoopsOk Tryd.prog 0 W) : LoopsOk Tryd.prog 0 (WL91_4 GL91_4 W) := by
  intro r lf h
  unfold WL91_4 at h
  split at h
  · cases h
    intro x E0 m0 w0 ds hS0 ha ρ m K E a w Q hS hρ hd h hQ
    have fb : (match W r with | some lf => lf x ρ m K | none => False) → (Code.loop x).wp Tryd.prog Q a w := fun h => by
      split at h
      · rename_i lf hlf
        exact hW r lf hlf x hS0 ha ρ m K E a w Q hS hρ hd h hQ
      · cases h
    obtain ⟨E2, hS2, hρ2⟩ := tidy_rel hS0 hS hρ [0, 13, 14]
    rw [ha] at hS2 hρ2
    unfold VL91_4 at h
    split at h
    · rename_i hlen
      replace h := seeS_use h
      rcases h with h | ⟨xs_0, e1, h⟩
      · exact fb h
      replace h := seeI_use h
      rcases h with h | ⟨i_13, e2, h⟩
      · exact fb h
      replace h := seeI_use h
      rcases h with h | ⟨i_14, e3, h⟩
      · exact fb h
      replace h := seeNil_use h
      rcases h with h | ⟨eqm, h⟩
      · exact fb h
      obtain ⟨rfl, n, h⟩ := h
      exact loop_use named C0_ok (LoopsOk.none _ _) (RL91_4_ok  K n _ _ _) h hS0 ha hlen ⟨e1, e2, e3, trivial⟩ (eqm ▸ hS2) hρ2 hd hQ
    · cases h
  · exact hW r lf h
theorem at91 : Tryd.prog.funcs[91]? = some (fnOf Tryd.prog 91) := by kernel_rfl
def F91  (l91_4 : YL91_4) (w : List Int) (k1 k2 : Prop) : Prop :=
  (bif (decide ((((List.length w) : Nat) : Int) < (1 : Int))) then k1 else (bif (decide ((((List.length w) : Nat) : Int) > (255 : Int))) then k1 else (l91_4 XL91_4 w (((List.length w) : Nat) : Int) (0 : Int) ((k1)) ((k2)))))
theorem F91_ok  (l91_4 : YL91_4) (w : List Int) (K : V → Mem → Prop) : cbody Tryd.prog C0 (WL91_4 l91_4 (fun _ => none)) 1000 (fnOf Tryd.prog 91) [(.S w)] [] K =
    F91  l91_4 w (K (.B false) []) (K (.B true) []) := by kernel_rfl
def G91 := F91  GL91_4
set_option maxHeartbeats 4000000 in
theorem h91 (w : List Int)  (k : Bool → Prop) (h : k (nameB w)) : G91 w (k false) (k true) := by
  unfold G91 F91
  refine cond_ind (fun c => ?_) (fun c => ?_)
  · refine Eq.mp (congrArg k ?_) h
    simp [nameB] at *
    intro h1; omega
  refine cond_ind (fun c2 => ?_) (fun c2 => ?_)
  · refine Eq.mp (congrArg k ?_) h
    simp [nameB] at *
    intro h1 h2; omega
  refine ⟨rfl, w.length + 1, ?_⟩
  have hh : k ((w.drop 0).all fun c => !badC c) := by
    refine Eq.mp (congrArg k ?_) h
    simp at c c2
    simp only [nameB, List.drop_zero]
    rw [dt (show 1 ≤ w.length by omega), dt (show w.length ≤ 255 by omega)]
    rfl
  have key : ∀ (d j : Nat), j + d = w.length → w.length ≤ 255 → k ((w.drop j).all fun c => !badC c) → RL91_4 (d + 1) w (w.length : Int) (j : Int) (k false) (k true) := by
    intro d
    induction d with
    | zero =>
      intro j hj _ hk
      have e : w.drop j = [] := by simp; omega
      rw [e] at hk
      show HL91_4 _ _ _ _ _ _
      unfold HL91_4
      rw [df (show ¬ (j : Int) < (w.length : Int) by omega)]
      exact hk
    | succ d ih =>
      intro j hj hl hk
      have hjl : j < w.length := by omega
      have ih' := ih (j + 1) (by omega) hl
      rw [List.drop_eq_getElem_cons hjl, List.all_cons] at hk
      have eg : List.getD w (Int.toNat (j : Int)) (0 : Int) = w[j] := by simp [hjl]
      have ei := idxF_ge [40, 41, 44, 64, 36, 37, 42, 35, 59, 58, 34, 39] w[j] 0 (by omega)
      show HL91_4 _ _ _ _ _ _
      unfold HL91_4
      rw [dt (show (j : Int) < (w.length : Int) by omega), dt (show (0 : Int) ≤ (j : Int) by omega), eg]
      simp only [Bool.and_true, Bool.and_self, cond_true]
      unfold idxB
      rw [ei, wid (by omega) (by omega)]
      refine cond_ind (fun a1 => ?_) (fun a1 => ?_)
      · have eb : badC w[j] = true := by unfold badC; rw [a1]; simp
        rw [eb] at hk; exact hk
      refine cond_ind (fun a2 => ?_) (fun a2 => ?_)
      · have eb : badC w[j] = true := by unfold badC; rw [a2]; simp
        rw [eb] at hk; exact hk
      refine cond_ind (fun a3 => ?_) (fun a3 => ?_)
      · have eb : badC w[j] = true := by unfold badC; rw [a3]; simp
        rw [eb] at hk; exact hk
      have eb : badC w[j] = false := by unfold badC; rw [a1, a2, a3]; rfl
      rw [eb] at hk
      exact ih' hk
  have c2' : w.length ≤ 255 := by simp at c2; omega
  exact key w.length 0 (by omega) c2' hh
theorem H91 (w : List Int) {E : Wh} {w' : World} {cargs : Array Value} {K : V → Mem → Prop} (hS : Sim E [] w') (ha : VsRel E [(.S w)] cargs.toList) (h : K (.B (nameB w)) []) :
    ((∃ fn, Tryd.prog.funcs[91]? = some fn ∧ fn.body.isSome = true) ∧ Calls Tryd.prog 91 cargs w' (Ret K E [] w')) ∨ ∃ cv w1, (callFunc 91 cargs).run Tryd.prog w' = .ok (.value cv) w1 ∧ Ret K E [] w' (.returned cv) w1 :=
  cbody_use named C0_ok at91 (l := 0) rfl (WL91_4_ok (LoopsOk.none _ _)) (F91_ok  GL91_4 w K) hS ha (h91 w  (fun u => K (.B u) []) h)

def P91 : Prim := fun args m K =>
  let F := False
  (seeCons args F fun a1 q2 => (seeS a1 F fun w => (seeNil q2 F (seeNil m F (K (.B (nameB w)) [])))))
set_option maxRecDepth 100000 in
theorem P91_ok : PrimOk Tryd.prog 91 P91 := by
  intro args m K E w cargs hS ha h
  unfold P91 at h
  dsimp only at h
  replace h := seeCons_use h
  rcases h with h | ⟨a1, q2, rfl, h⟩
  · exact h.elim
  replace h := seeS_use h
  rcases h with h | ⟨w, rfl, h⟩
  · exact h.elim
  replace h := seeNil_use h
  rcases h with h | ⟨rfl, h⟩
  · exact h.elim
  replace h := seeNil_use h
  rcases h with h | ⟨rfl, h⟩
  · exact h.elim
  exact H91 w hS ha h
abbrev YL97_2 : Type := Code → List Int → Int → (Prop) → (Prop) → Prop
def HL97_2  (rec : Int → Prop) (xs_0 : List Int) (i_3 : Int) (k1 k2 : Prop) : Prop :=
  (bif (decide (i_3 < (((List.length xs_0) : Nat) : Int))) then (bif ((decide ((0 : Int) ≤ i_3)) && (decide (i_3 < (((List.length xs_0) : Nat) : Int)))) then (bif ((List.getD xs_0 (Int.toNat i_3) (0 : Int)) == (40 : Int)) then (bif ((List.getD xs_0 (Int.toNat i_3) (0 : Int)) == (40 : Int)) then k1 else (bif ((decide ((0 : Int) ≤ i_3)) && (decide (i_3 < (((List.length xs_0) : Nat) : Int)))) then (bif (decide ((List.getD xs_0 (Int.toNat i_3) (0 : Int)) < (33 : Int))) then k1 else (bif ((decide ((0 : Int) ≤ i_3)) && (decide (i_3 < (((List.length xs_0) : Nat) : Int)))) then (bif (decide ((List.getD xs_0 (Int.toNat i_3) (0 : Int)) > (126 : Int))) then k1 else (rec (IntKind.wrap .i64 (i_3 + (1 : Int))))) else False)) else False)) else (bif ((List.getD xs_0 (Int.toNat i_3) (0 : Int)) == (41 : Int)) then (bif ((List.getD xs_0 (Int.toNat i_3) (0 : Int)) == (41 : Int)) then k1 else (bif ((decide ((0 : Int) ≤ i_3)) && (decide (i_3 < (((List.length xs_0) : Nat) : Int)))) then (bif (decide ((List.getD xs_0 (Int.toNat i_3) (0 : Int)) < (33 : Int))) then k1 else (bif ((decide ((0 : Int) ≤ i_3)) && (decide (i_3 < (((List.length xs_0) : Nat) : Int)))) then (bif (decide ((List.getD xs_0 (Int.toNat i_3) (0 : Int)) > (126 : Int))) then k1 else (rec (IntKind.wrap .i64 (i_3 + (1 : Int))))) else False)) else False)) else (bif ((List.getD xs_0 (Int.toNat i_3) (0 : Int)) == (44 : Int)) then (bif ((List.getD xs_0 (Int.toNat i_3) (0 : Int)) == (44 : Int)) then k1 else (bif ((decide ((0 : Int) ≤ i_3)) && (decide (i_3 < (((List.length xs_0) : Nat) : Int)))) then (bif (decide ((List.getD xs_0 (Int.toNat i_3) (0 : Int)) < (33 : Int))) then k1 else (bif ((decide ((0 : Int) ≤ i_3)) && (decide (i_3 < (((List.length xs_0) : Nat) : Int)))) then (bif (decide ((List.getD xs_0 (Int.toNat i_3) (0 : Int)) > (126 : Int))) then k1 else (rec (IntKind.wrap .i64 (i_3 + (1 : Int))))) else False)) else False)) else (bif ((List.getD xs_0 (Int.toNat i_3) (0 : Int)) == (64 : Int)) then (bif ((List.getD xs_0 (Int.toNat i_3) (0 : Int)) == (64 : Int)) then k1 else (bif ((decide ((0 : Int) ≤ i_3)) && (decide (i_3 < (((List.length xs_0) : Nat) : Int)))) then (bif (decide ((List.getD xs_0 (Int.toNat i_3) (0 : Int)) < (33 : Int))) then k1 else (bif ((decide ((0 : Int) ≤ i_3)) && (decide (i_3 < (((List.length xs_0) : Nat) : Int)))) then (bif (decide ((List.getD xs_0 (Int.toNat i_3) (0 : Int)) > (126 : Int))) then k1 else (rec (IntKind.wrap .i64 (i_3 + (1 : Int))))) else False)) else False)) else (bif ((List.getD xs_0 (Int.toNat i_3) (0 : Int)) == (36 : Int)) then (bif ((List.getD xs_0 (Int.toNat i_3) (0 : Int)) == (36 : Int)) then k1 else (bif ((decide ((0 : Int) ≤ i_3)) && (decide (i_3 < (((List.length xs_0) : Nat) : Int)))) then (bif (decide ((List.getD xs_0 (Int.toNat i_3) (0 : Int)) < (33 : Int))) then k1 else (bif ((decide ((0 : Int) ≤ i_3)) && (decide (i_3 < (((List.length xs_0) : Nat) : Int)))) then (bif (decide ((List.getD xs_0 (Int.toNat i_3) (0 : Int)) > (126 : Int))) then k1 else (rec (IntKind.wrap .i64 (i_3 + (1 : Int))))) else False)) else False)) else (bif ((List.getD xs_0 (Int.toNat i_3) (0 : Int)) == (37 : Int)) then (bif ((List.getD xs_0 (Int.toNat i_3) (0 : Int)) == (37 : Int)) then k1 else (bif ((decide ((0 : Int) ≤ i_3)) && (decide (i_3 < (((List.length xs_0) : Nat) : Int)))) then (bif (decide ((List.getD xs_0 (Int.toNat i_3) (0 : Int)) < (33 : Int))) then k1 else (bif ((decide ((0 : Int) ≤ i_3)) && (decide (i_3 < (((List.length xs_0) : Nat) : Int)))) then (bif (decide ((List.getD xs_0 (Int.toNat i_3) (0 : Int)) > (126 : Int))) then k1 else (rec (IntKind.wrap .i64 (i_3 + (1 : Int))))) else False)) else False)) else (bif ((List.getD xs_0 (Int.toNat i_3) (0 : Int)) == (42 : Int)) then (bif ((List.getD xs_0 (Int.toNat i_3) (0 : Int)) == (42 : Int)) then k1 else (bif ((decide ((0 : Int) ≤ i_3)) && (decide (i_3 < (((List.length xs_0) : Nat) : Int)))) then (bif (decide ((List.getD xs_0 (Int.toNat i_3) (0 : Int)) < (33 : Int))) then k1 else (bif ((decide ((0 : Int) ≤ i_3)) && (decide (i_3 < (((List.length xs_0) : Nat) : Int)))) then (bif (decide ((List.getD xs_0 (Int.toNat i_3) (0 : Int)) > (126 : Int))) then k1 else (rec (IntKind.wrap .i64 (i_3 + (1 : Int))))) else False)) else False)) else (bif ((List.getD xs_0 (Int.toNat i_3) (0 : Int)) == (35 : Int)) then (bif ((List.getD xs_0 (Int.toNat i_3) (0 : Int)) == (35 : Int)) then k1 else (bif ((decide ((0 : Int) ≤ i_3)) && (decide (i_3 < (((List.length xs_0) : Nat) : Int)))) then (bif (decide ((List.getD xs_0 (Int.toNat i_3) (0 : Int)) < (33 : Int))) then k1 else (bif ((decide ((0 : Int) ≤ i_3)) && (decide (i_3 < (((List.length xs_0) : Nat) : Int)))) then (bif (decide ((List.getD xs_0 (Int.toNat i_3) (0 : Int)) > (126 : Int))) then k1 else (rec (IntKind.wrap .i64 (i_3 + (1 : Int))))) else False)) else False)) else (bif ((List.getD xs_0 (Int.toNat i_3) (0 : Int)) == (59 : Int)) then (bif ((List.getD xs_0 (Int.toNat i_3) (0 : Int)) == (59 : Int)) then k1 else (bif ((decide ((0 : Int) ≤ i_3)) && (decide (i_3 < (((List.length xs_0) : Nat) : Int)))) then (bif (decide ((List.getD xs_0 (Int.toNat i_3) (0 : Int)) < (33 : Int))) then k1 else (bif ((decide ((0 : Int) ≤ i_3)) && (decide (i_3 < (((List.length xs_0) : Nat) : Int)))) then (bif (decide ((List.getD xs_0 (Int.toNat i_3) (0 : Int)) > (126 : Int))) then k1 else (rec (IntKind.wrap .i64 (i_3 + (1 : Int))))) else False)) else False)) else (bif ((List.getD xs_0 (Int.toNat i_3) (0 : Int)) == (58 : Int)) then (bif ((List.getD xs_0 (Int.toNat i_3) (0 : Int)) == (58 : Int)) then k1 else (bif ((decide ((0 : Int) ≤ i_3)) && (decide (i_3 < (((List.length xs_0) : Nat) : Int)))) then (bif (decide ((List.getD xs_0 (Int.toNat i_3) (0 : Int)) < (33 : Int))) then k1 else (bif ((decide ((0 : Int) ≤ i_3)) && (decide (i_3 < (((List.length xs_0) : Nat) : Int)))) then (bif (decide ((List.getD xs_0 (Int.toNat i_3) (0 : Int)) > (126 : Int))) then k1 else (rec (IntKind.wrap .i64 (i_3 + (1 : Int))))) else False)) else False)) else (bif ((List.getD xs_0 (Int.toNat i_3) (0 : Int)) == (34 : Int)) then (bif ((List.getD xs_0 (Int.toNat i_3) (0 : Int)) == (34 : Int)) then k1 else (bif ((decide ((0 : Int) ≤ i_3)) && (decide (i_3 < (((List.length xs_0) : Nat) : Int)))) then (bif (decide ((List.getD xs_0 (Int.toNat i_3) (0 : Int)) < (33 : Int))) then k1 else (bif ((decide ((0 : Int) ≤ i_3)) && (decide (i_3 < (((List.length xs_0) : Nat) : Int)))) then (bif (decide ((List.getD xs_0 (Int.toNat i_3) (0 : Int)) > (126 : Int))) then k1 else (rec (IntKind.wrap .i64 (i_3 + (1 : Int))))) else False)) else False)) else (bif ((List.getD xs_0 (Int.toNat i_3) (0 : Int)) == (39 : Int)) then k1 else (bif ((decide ((0 : Int) ≤ i_3)) && (decide (i_3 < (((List.length xs_0) : Nat) : Int)))) then (bif (decide ((List.getD xs_0 (Int.toNat i_3) (0 : Int)) < (33 : Int))) then k1 else (bif ((decide ((0 : Int) ≤ i_3)) && (decide (i_3 < (((List.length xs_0) : Nat) : Int)))) then (bif (decide ((List.getD xs_0 (Int.toNat i_3) (0 : Int)) > (126 : Int))) then k1 else (rec (IntKind.wrap .i64 (i_3 + (1 : Int))))) else False)) else False))))))))))))) else False) else k2)
def RL97_2  : Nat → List Int → Int → (Prop) → (Prop) → Prop
  | 0, _, _, _, _ => False
  | n + 1, xs_0, i_3, k1, k2 => HL97_2  (fun (i_3 : Int) => RL97_2  n xs_0 i_3 k1 k2) xs_0 i_3 k1 k2
noncomputable def XL97_2 : Code := sub [true, false, true, false, false] (bodyOf Tryd.prog 97)
theorem HL97_2_ok  (n : Nat) (xs_0 : List Int) (i_3 : Int) (K : Ex → Env → Mem → Prop) : cround 0 [0, 3] [0, 2] (fun ρ m K => cexec Tryd.prog C0 (fun _ => none) 0 1000 XL97_2 ρ m K) (n + 1) (selE 44 [(0, (.S xs_0)), (3, (.I .i64 i_3))]) [] K =
    HL97_2  (fun (i_3 : Int) => cround 0 [0, 3] [0, 2] (fun ρ m K => cexec Tryd.prog C0 (fun _ => none) 0 1000 XL97_2 ρ m K) n (selE 44 [(0, (.S xs_0)), (3, (.I .i64 i_3))]) [] K) xs_0 i_3 (K .ret (selE 44 [(0, (.S xs_0)), (2, (.B false))]) []) (K (.exit 0) (selE 44 [(0, (.S xs_0)), (2, .undef)]) []) := by kernel_rfl
theorem RL97_2_ok  (K : Ex → Env → Mem → Prop) : ∀ (n : Nat) (xs_0 : List Int) (i_3 : Int), cround 0 [0, 3] [0, 2] (fun ρ m K => cexec Tryd.prog C0 (fun _ => none) 0 1000 XL97_2 ρ m K) n (selE 44 [(0, (.S xs_0)), (3, (.I .i64 i_3))]) [] K = RL97_2  n xs_0 i_3 (K .ret (selE 44 [(0, (.S xs_0)), (2, (.B false))]) []) (K (.exit 0) (selE 44 [(0, (.S xs_0)), (2, .undef)]) [])
  | 0, xs_0, i_3 => rfl
  | n + 1, xs_0, i_3 => by
    have ih := RL97_2_ok  K n
    rw [HL97_2_ok  n xs_0 i_3 K]
    show HL97_2  _ xs_0 i_3 (K .ret (selE 44 [(0, (.S xs_0)), (2, (.B false))]) []) (K (.exit 0) (selE 44 [(0, (.S xs_0)), (2, .undef)]) []) = HL97_2  _ xs_0 i_3 (K .ret (selE 44 [(0, (.S xs_0)), (2, (.B false))]) []) (K (.exit 0) (selE 44 [(0, (.S xs_0)), (2, .undef)]) [])
    refine congrArg (fun r => HL97_2  r xs_0 i_3 (K .ret (selE 44 [(0, (.S xs_0)), (2, (.B false))]) []) (K (.exit 0) (selE 44 [(0, (.S xs_0)), (2, .undef)]) [])) ?_
    funext i_3
    exact ih xs_0 i_3
def GL97_2 : YL97_2 := fun x xs_0 i_3 k1 k2 => x = XL97_2 ∧ ∃ n, RL97_2  n xs_0 i_3 k1 k2
def VL97_2 (l : YL97_2) (F : Prop) (x : Code) (ρ : Env) (m : Mem) (K : Ex → Env → Mem → Prop) : Prop :=
  match ρ.has (44 - 1) with
  | true => (seeS (ρ.get 0) F fun xs_0 => (seeI .i64 (ρ.get 3) F fun i_3 => (seeNil m F (l x xs_0 i_3 (K .ret (selE 44 [(0, (.S xs_0)), (2, (.B false))]) []) (K (.exit 0) (selE 44 [(0, (.S xs_0)), (2, .undef)]) [])))))
  | false => False
def WL97_2 (l : YL97_2) (W : Masks) : Masks := fun r =>
  match Nat.beq r 2 with
  | true => some fun x ρ m K => VL97_2 l (match W r with | some lf => lf x ρ m K | none => False) x (tidyE 0 [0, 3] ρ m) (tidyM 0 [0, 3] ρ m) K
  | false => W r
set_option maxRecDepth 100000 in
theorem WL97_2_ok {W : Masks} (hW : LoopsOk Tryd.prog 0 W) : LoopsOk Tryd.prog 0 (WL97_2 GL97_2 W) := by
  intro r lf h
  unfold WL97_2 at h
  split at h
  · cases h
    intro x E0 m0 w0 ds hS0 ha ρ m K E a w Q hS hρ hd h hQ
    have fb : (match W r with | some lf => lf x ρ m K | none => False) → (Code.loop x).wp Tryd.prog Q a w := fun h => by
      split at h
      · rename_i lf hlf
        exact hW r lf hlf x hS0 ha ρ m K E a w Q hS hρ hd h hQ
      · cases h
    obtain ⟨E2, hS2, hρ2⟩ := tidy_rel hS0 hS hρ [0, 3]
    rw [ha] at hS2 hρ2
    unfold VL97_2 at h
    split at h
    · rename_i hlen
      replace h := seeS_use h
      rcases h with h | ⟨xs_0, e1, h⟩
      · exact fb h
      replace h := seeI_use h
      rcases h with h | ⟨i_3, e2, h⟩
      · exact fb h
      replace h := seeNil_use h
      rcases h with h | ⟨eqm, h⟩
      · exact fb h
      obtain ⟨rfl, n, h⟩ := h
      exact loop_use named C0_ok (LoopsOk.none _ _) (RL97_2_ok  K n _ _) h hS0 ha hlen ⟨e1, e2, trivial⟩ (eqm ▸ hS2) hρ2 hd hQ
    · cases h
  · exact hW r lf h
theorem at97 : Tryd.prog.funcs[97]? = some (fnOf Tryd.prog 97) := by kernel_rfl
def F97  (l97_2 : YL97_2) (w : List Int) (k1 : Prop) (k2 : Bool → Prop) : Prop :=
  (l97_2 XL97_2 w (0 : Int) ((k1)) ((bif (decide ((((List.length w) : Nat) : Int) ≥ (1 : Int))) then (k2 (decide ((((List.length w) : Nat) : Int) ≤ (255 : Int)))) else k1)))
theorem F97_ok  (l97_2 : YL97_2) (w : List Int) (K : V → Mem → Prop) : cbody Tryd.prog C0 (WL97_2 l97_2 (fun _ => none)) 1000 (fnOf Tryd.prog 97) [(.S w)] [] K =
    F97  l97_2 w (K (.B false) []) (fun (u0 : Bool) => K (.B u0) []) := by kernel_rfl
def G97 := F97  GL97_2
set_option maxHeartbeats 4000000 in
theorem h97 (w : List Int) (hl : w.length ≤ 9223372036854775807) (k : Bool → Prop) (h : k (nameB w)) : G97 w (k false) (fun (u0 : Bool) => k u0) := by
  unfold G97 F97
  refine ⟨rfl, w.length + 1, ?_⟩
  have hh : k (decide (1 ≤ w.length) && decide (w.length ≤ 255) && (w.drop 0).all fun c => !badC c) := h
  have key : ∀ (d j : Nat), j + d = w.length → k (decide (1 ≤ w.length) && decide (w.length ≤ 255) && (w.drop j).all fun c => !badC c) →
      RL97_2 (d + 1) w (j : Int) (k false) (bif decide (((w.length : Nat) : Int) ≥ (1 : Int)) then k (decide (((w.length : Nat) : Int) ≤ (255 : Int))) else k false) := by
    intro d
    induction d with
    | zero =>
      intro j hj hk
      have e : w.drop j = [] := by simp; omega
      rw [e] at hk
      show HL97_2 _ _ _ _ _
      unfold HL97_2
      rw [df (show ¬ (j : Int) < (w.length : Int) by omega)]
      simp only [cond_false]
      refine cond_ind (fun a1 => ?_) (fun a1 => ?_) <;> refine Eq.mp (congrArg k ?_) hk <;> rw [Bool.eq_iff_iff] <;> simp at * <;> omega
    | succ d ih =>
      intro j hj hk
      have hjl : j < w.length := by omega
      have ih' := ih (j + 1) (by omega)
      rw [List.drop_eq_getElem_cons hjl, List.all_cons] at hk
      have eg : List.getD w (Int.toNat (j : Int)) (0 : Int) = w[j] := by simp [hjl]
      show HL97_2 _ _ _ _ _
      unfold HL97_2
      rw [dt (show (j : Int) < (w.length : Int) by omega), dt (show (0 : Int) ≤ (j : Int) by omega), eg]
      simp only [Bool.and_true, Bool.and_self, cond_true]
      rw [wid (by omega) (by omega)]
      have done : badC w[j] = true → k false := by
        intro hb; rw [hb] at hk; simpa using hk
      have next : badC w[j] = false → RL97_2 (d + 1) w ((j : Int) + 1) (k false) (bif decide (((w.length : Nat) : Int) ≥ (1 : Int)) then k (decide (((w.length : Nat) : Int) ≤ (255 : Int))) else k false) := by
        intro hb; rw [hb] at hk; exact ih' (by simpa using hk)
      generalize RL97_2 (d + 1) w ((j : Int) + 1) (k false) (bif decide (((w.length : Nat) : Int) ≥ (1 : Int)) then k (decide (((w.length : Nat) : Int) ≤ (255 : Int))) else k false) = R at *
      generalize w[j] = c at *
      (repeat' refine cond_ind (fun _ => ?_) (fun _ => ?_)) <;> first | (apply done; simp_all [badC]; done) | (apply next; simp_all [badC]; done)
  exact key w.length 0 (by omega) hh
theorem H97 (w : List Int) {E : Wh} {w' : World} {cargs : Array Value} {K : V → Mem → Prop} (hS : Sim E [] w') (ha : VsRel E [(.S w)] cargs.toList) (h : K (.B (nameB w)) []) :
    ((∃ fn, Tryd.prog.funcs[97]? = some fn ∧ fn.body.isSome = true) ∧ Calls Tryd.prog 97 cargs w' (Ret K E [] w')) ∨ ∃ cv w1, (callFunc 97 cargs).run Tryd.prog w' = .ok (.value cv) w1 ∧ Ret K E [] w' (.returned cv) w1 :=
  cbody_use named C0_ok at97 (l := 0) rfl (WL97_2_ok (LoopsOk.none _ _)) (F97_ok  GL97_2 w K) hS ha (h97 w (bytesI_le ha) (fun u => K (.B u) []) h)

def P97 : Prim := fun args m K =>
  let F := False
  (seeCons args F fun a1 q2 => (seeS a1 F fun w => (seeNil q2 F (seeNil m F (K (.B (nameB w)) [])))))
set_option maxRecDepth 100000 in
theorem P97_ok : PrimOk Tryd.prog 97 P97 := by
  intro args m K E w cargs hS ha h
  unfold P97 at h
  dsimp only at h
  replace h := seeCons_use h
  rcases h with h | ⟨a1, q2, rfl, h⟩
  · exact h.elim
  replace h := seeS_use h
  rcases h with h | ⟨w, rfl, h⟩
  · exact h.elim
  replace h := seeNil_use h
  rcases h with h | ⟨rfl, h⟩
  · exact h.elim
  replace h := seeNil_use h
  rcases h with h | ⟨rfl, h⟩
  · exact h.elim
  exact H97 w hS ha h
def prims1 : Prims := fun f =>
  match Nat.beq f 91 with
  | true => some P91
  | false =>   match Nat.beq f 97 with
  | true => some P97
  | false => prims0 f
theorem prims1_ok : PrimsOk Tryd.prog prims1 := by
  intro f g hg
  unfold prims1 at hg
  split at hg
  · rename_i hf
    obtain rfl := Nat.eq_of_beq_eq_true hf
    cases hg
    exact P91_ok
  · skip
    split at hg
    · rename_i hf
      obtain rfl := Nat.eq_of_beq_eq_true hf
      cases hg
      exact P97_ok
    · skip
      exact prims0_ok f g hg
def C1 : CC := call Tryd.prog prims1 1000
theorem C1_ok : CallsOk Tryd.prog C1 := call_sound named prims1_ok 1000

end Go.Proofs.YtaajhdkngiemlaaDoor.frm
