import Derived.Test.YtaajhdkngiemlaaDoorFrmY1
import Derived.Test.YtaajhdkngiemlaaDoorFrmBk
import Derived.Test.YtaajhdkngiemlaaDoorFrmV
import Derived.Test.YtaajhdkngiemlaaDoorFrmU
set_option linter.unusedVariables false
set_option linter.unusedSimpArgs false
set_option maxHeartbeats 4000000
set_option maxRecDepth 100000
namespace Go.Proofs.YtaajhdkngiemlaaDoor.frm
open Go Go.Ab
def szJ (j : Int) : Int := List.getD ([(0 : Int), (1 : Int), (4 : Int), (8 : Int)] : List Int) (Int.toNat j) (0 : Int)
theorem wr1 {x : Int} (h1 : 0 ≤ x) (h2 : x ≤ 9223372036854775807) : IntKind.wrap .i64 x = x := wrap_same h1 h2
theorem in_ok {w : List Int} {op ks : Int} (hk0 : 0 ≤ ks) (hk1 : ks < 4) {k1 : Int → Int → Prop} {k2 : Prop} (H1 : ∀ c, 0 ≤ c → c < 16 → w ≠ [] → nameI op (szJ ks) c = w → k1 (szJ ks) c)
    (H2 : (∀ c, 0 ≤ c → c < 16 → w ≠ [] → nameI op (szJ ks) c ≠ w) → k2) : ∀ (d : Nat) (c : Int), c + d = 16 → 0 ≤ c → (∀ c', 0 ≤ c' → c' < c → w ≠ [] → nameI op (szJ ks) c' ≠ w) → RL15_9 (d + 1) w op ks c k1 k2
  | 0, c, hc, h0, hn => by
    unfold RL15_9 HL15_9
    rw [df (show ¬ c < 16 by omega), cond_false]
    exact H2 fun c' h1 h2 => hn c' h1 (by omega)
  | d + 1, c, hc, h0, hn => by
    have ih := in_ok (w := w) (op := op) hk0 hk1 H1 H2 d (c + 1) (by omega) (by omega)
    unfold RL15_9 HL15_9
    rw [dt (show c < 16 by omega), cond_true, dt hk0, dt hk1, Bool.and_self]
    simp only [cond_true, beq_self_eq_true, Bool.and_self, Bool.and_true]
    refine cond_ind (fun hw => ?_) (fun hw => ?_)
    · have hw' : w ≠ [] := by simpa using hw
      refine cond_ind (fun he => ?_) (fun he => ?_)
      · exact H1 c h0 (by omega) hw' (by simpa [szJ] using he)
      · rw [wr1 (by omega) (by omega)]
        refine ih fun c' g1 g2 g3 => ?_
        by_cases hcc : c' = c
        · subst hcc; have : ¬ (nameI op (szJ ks) c' == w) = true := by rw [show (nameI op (szJ ks) c' == w) = false from he]; simp
          simpa using this
        · exact hn c' g1 (by omega) g3
    · rw [wr1 (by omega) (by omega)]
      have hw' : w = [] := by simpa using hw
      exact ih fun c' _ _ g3 => absurd hw' g3
theorem mid_ok {w : List Int} {op : Int} {k1 : Int → Int → Prop} {k2 : Prop} (H1 : ∀ ks c, 0 ≤ ks → ks < 4 → 0 ≤ c → c < 16 → w ≠ [] → nameI op (szJ ks) c = w → k1 (szJ ks) c)
    (H2 : (∀ ks c, 0 ≤ ks → ks < 4 → 0 ≤ c → c < 16 → w ≠ [] → nameI op (szJ ks) c ≠ w) → k2) : ∀ (d : Nat) (ks : Int), ks + d = 4 → 0 ≤ ks → (∀ k' c, 0 ≤ k' → k' < ks → 0 ≤ c → c < 16 → w ≠ [] → nameI op (szJ k') c ≠ w) → RL15_6 GL15_9 (d + 1) w op ks k1 k2
  | 0, ks, hc, h0, hn => by
    unfold RL15_6 HL15_6
    rw [df (show ¬ ks < 4 by omega), cond_false]
    exact H2 fun k' c h1 h2 => hn k' c h1 (by omega)
  | d + 1, ks, hc, h0, hn => by
    have ih := mid_ok (w := w) (op := op) H1 H2 d (ks + 1) (by omega) (by omega)
    unfold RL15_6 HL15_6
    rw [dt (show ks < 4 by omega), cond_true, wr1 (by omega) (by omega)]
    refine ⟨rfl, 17, in_ok h0 (by omega) (fun c g1 g2 g3 g4 => H1 ks c h0 (by omega) g1 g2 g3 g4) (fun hno => ih fun k' c g1 g2 g3 g4 g5 => ?_) 16 0 rfl (by omega) (fun c' g1 g2 => by omega)⟩
    by_cases hkk : k' = ks
    · subst hkk; exact hno c g3 g4 g5
    · exact hn k' c g1 (by omega) g3 g4 g5
theorem out_ok {w : List Int} {k1 : Int → Int → Int → Prop} {k2 : Prop} (H1 : ∀ op ks c, 1 ≤ op → op ≤ 35 → 0 ≤ ks → ks < 4 → 0 ≤ c → c < 16 → w ≠ [] → nameI op (szJ ks) c = w → k1 op (szJ ks) c)
    (H2 : (∀ op ks c, 1 ≤ op → op ≤ 35 → 0 ≤ ks → ks < 4 → 0 ≤ c → c < 16 → w ≠ [] → nameI op (szJ ks) c ≠ w) → k2) : ∀ (d : Nat) (op : Int), op + d = 36 → 1 ≤ op → (∀ o' k' c, 1 ≤ o' → o' < op → 0 ≤ k' → k' < 4 → 0 ≤ c → c < 16 → w ≠ [] → nameI o' (szJ k') c ≠ w) → RL15_3 GL15_6 (d + 1) w op k1 k2
  | 0, op, hc, h0, hn => by
    unfold RL15_3 HL15_3
    rw [df (show ¬ op ≤ 35 by omega), cond_false]
    exact H2 fun o' k' c h1 h2 => hn o' k' c h1 (by omega)
  | d + 1, op, hc, h0, hn => by
    have ih := out_ok (w := w) H1 H2 d (op + 1) (by omega) (by omega)
    unfold RL15_3 HL15_3
    rw [dt (show op ≤ 35 by omega), cond_true, wr1 (by omega) (by omega)]
    refine ⟨rfl, 5, mid_ok (fun ks c g1 g2 g3 g4 g5 g6 => H1 op ks c h0 (by omega) g1 g2 g3 g4 g5 g6) (fun hno => ih fun o' k' c g1 g2 g3 g4 g5 g6 g7 => ?_) 4 0 rfl (by omega) (fun k' c g1 g2 => by omega)⟩
    by_cases hkk : o' = op
    · subst hkk; exact hno k' c g3 g4 g5 g6 g7
    · exact hn o' k' c g1 (by omega) g3 g4 g5 g6 g7
theorem tab_names : tab.all (fun e => (nameI e.2.1 e.2.2.1 e.2.2.2 == e.1) && (decide (1 ≤ e.2.1) && (decide (e.2.1 ≤ 35) && (decide (0 ≤ e.2.2.2) && (decide (e.2.2.2 < 16) && ((e.2.2.1 == 0 || (e.2.2.1 == 1 || (e.2.2.1 == 4 || e.2.2.1 == 8))) && !(e.1 == []))))))) = true := by kernel_rfl
theorem getT_cases (w : List Int) : ∀ (es : List Ent), getT es w = (0, 0, 0, false) ∨ ∃ e ∈ es, e.1 = w
  | [] => .inl rfl
  | e :: es => by
    unfold getT
    cases hb : w == e.1 with
    | true => exact .inr ⟨e, by simp, by simpa using (by simpa using hb : w = e.1).symm⟩
    | false =>
      rcases getT_cases w es with h | ⟨e', h1, h2⟩
      · exact .inl h
      · exact .inr ⟨e', by simp [h1], h2⟩
theorem h15 (w : List Int) (K : V → Mem → Prop) (h : K (tupT (getT tab w)) []) : F15 GL15_3 w (fun (u0 u1 u2 : Int) => K (.tup [(.I .i64 u0), (.I .i64 u1), (.I .i64 u2), (.B true)]) []) (K (.tup [(.I .i64 (0 : Int)), (.I .i64 (0 : Int)), (.I .i64 (0 : Int)), (.B false)]) []) := by
  unfold F15
  refine ⟨rfl, 36, out_ok (fun op ks c g1 g2 g3 g4 g5 g6 g7 g8 => ?_) (fun hno => ?_) 35 1 rfl (by omega) (fun _ _ _ g1 g2 => by omega)⟩
  · rcases name_back op (szJ ks) c with hb | hb
    · rw [g8] at hb; exact absurd hb g7
    · rw [g8] at hb
      rw [hb] at h
      exact h
  · rcases getT_cases w tab with hg | ⟨e, h1, h2⟩
    · rw [hg] at h; exact h
    · exfalso
      have ha := List.all_eq_true.1 tab_names e h1
      simp only [Bool.and_eq_true, Bool.or_eq_true, decide_eq_true_eq, beq_iff_eq, Bool.not_eq_true'] at ha
      obtain ⟨a1, a2, a3, a4, a5, a6, a7⟩ := ha
      have hw : w ≠ [] := by subst h2; intro hh; rw [hh] at a7; simp at a7
      obtain ⟨ks, b1, b2, b3⟩ : ∃ ks, 0 ≤ ks ∧ ks < 4 ∧ szJ ks = e.2.2.1 := by
        rcases a6 with a6 | a6 | a6 | a6
        · exact ⟨0, by omega, by omega, by rw [a6]; rfl⟩
        · exact ⟨1, by omega, by omega, by rw [a6]; rfl⟩
        · exact ⟨2, by omega, by omega, by rw [a6]; rfl⟩
        · exact ⟨3, by omega, by omega, by rw [a6]; rfl⟩
      exact hno e.2.1 ks e.2.2.2 a2 a3 b1 b2 a4 a5 hw (by rw [b3, a1, h2])
theorem H15 (w : List Int) {E : Wh} {w' : World} {cargs : Array Value} {K : V → Mem → Prop} (hS : Sim E [] w') (ha : VsRel E [.S w] cargs.toList) (h : K (tupT (getT tab w)) []) :
    ((∃ fn, Tryd.prog.funcs[15]? = some fn ∧ fn.body.isSome = true) ∧ Calls Tryd.prog 15 cargs w' (Ret K E [] w')) ∨ ∃ cv w1, (callFunc 15 cargs).run Tryd.prog w' = .ok (.value cv) w1 ∧ Ret K E [] w' (.returned cv) w1 := by
  exact cbody_use named Cm_ok at15 (l := 0) rfl (WL15_3_ok (LoopsOk.none _ _)) (F15_ok GL15_3 w K) hS ha (h15 w K h)
def P15 : Prim := fun args m K =>
  let F := False
  (seeCons args F fun a1 q2 => (seeS a1 F fun w => (seeNil q2 F (seeNil m F (K (tupT (getT tab w)) [])))))
theorem P15_ok : PrimOk Tryd.prog 15 P15 := by
  intro args m K E w cargs hS ha h
  unfold P15 at h
  dsimp only at h
  replace h := seeCons_use h
  rcases h with h | ⟨a1, q2, rfl, h⟩
  · exact h.elim
  replace h := seeS_use h
  rcases h with h | ⟨w, rfl, h⟩
  · exact h.elim
  replace h := seeNil_use h
  rcases h with h | ⟨rfl, h⟩
  · exact h.elim
  replace h := seeNil_use h
  rcases h with h | ⟨rfl, h⟩
  · exact h.elim
  exact H15 w hS ha h
theorem rnumber_any (w : List Int) (K : V → Mem → Prop) : cbody Tryd.prog Cm (fun _ => none) 1000 (fnOf Tryd.prog 17) [.S w] [] K = numK K w regT := by kernel_rfl
theorem at17 : Tryd.prog.funcs[17]? = some (fnOf Tryd.prog 17) := by kernel_rfl
theorem H17 (w : List Int) {E : Wh} {w' : World} {cargs : Array Value} {K : V → Mem → Prop} (hS : Sim E [] w') (ha : VsRel E [.S w] cargs.toList) (h : K (tupN (getN regT w)) []) :
    ((∃ fn, Tryd.prog.funcs[17]? = some fn ∧ fn.body.isSome = true) ∧ Calls Tryd.prog 17 cargs w' (Ret K E [] w')) ∨ ∃ cv w1, (callFunc 17 cargs).run Tryd.prog w' = .ok (.value cv) w1 ∧ Ret K E [] w' (.returned cv) w1 := by
  exact cbody_use named Cm_ok at17 (l := 0) rfl (LoopsOk.none _ _) (rnumber_any w K) hS ha (num_of h)
def P17 : Prim := fun args m K =>
  let F := False
  (seeCons args F fun a1 q2 => (seeS a1 F fun w => (seeNil q2 F (seeNil m F (K (tupN (getN regT w)) [])))))
theorem P17_ok : PrimOk Tryd.prog 17 P17 := by
  intro args m K E w cargs hS ha h
  unfold P17 at h
  dsimp only at h
  replace h := seeCons_use h
  rcases h with h | ⟨a1, q2, rfl, h⟩
  · exact h.elim
  replace h := seeS_use h
  rcases h with h | ⟨w, rfl, h⟩
  · exact h.elim
  replace h := seeNil_use h
  rcases h with h | ⟨rfl, h⟩
  · exact h.elim
  replace h := seeNil_use h
  rcases h with h | ⟨rfl, h⟩
  · exact h.elim
  exact H17 w hS ha h
def primsn5 : Prims := fun f =>
  match Nat.beq f 14 with
  | true => some P14
  | false =>   match Nat.beq f 15 with
  | true => some P15
  | false =>   match Nat.beq f 16 with
  | true => some P16
  | false =>   match Nat.beq f 17 with
  | true => some P17
  | false =>   match Nat.beq f 18 with
  | true => some P18
  | false =>   match Nat.beq f 19 with
  | true => some P19
  | false =>   match Nat.beq f 20 with
  | true => some P20
  | false =>   match Nat.beq f 21 with
  | true => some P21
  | false =>   match Nat.beq f 11 with
  | true => some P11
  | false => prims0 f
theorem primsn5_ok : PrimsOk Tryd.prog primsn5 := by
  intro f g hg
  unfold primsn5 at hg
  split at hg
  · rename_i hf
    obtain rfl := Nat.eq_of_beq_eq_true hf
    cases hg
    exact P14_ok
  · skip
    split at hg
    · rename_i hf
      obtain rfl := Nat.eq_of_beq_eq_true hf
      cases hg
      exact P15_ok
    · skip
      split at hg
      · rename_i hf
        obtain rfl := Nat.eq_of_beq_eq_true hf
        cases hg
        exact P16_ok
      · skip
        split at hg
        · rename_i hf
          obtain rfl := Nat.eq_of_beq_eq_true hf
          cases hg
          exact P17_ok
        · skip
          split at hg
          · rename_i hf
            obtain rfl := Nat.eq_of_beq_eq_true hf
            cases hg
            exact P18_ok
          · skip
            split at hg
            · rename_i hf
              obtain rfl := Nat.eq_of_beq_eq_true hf
              cases hg
              exact P19_ok
            · skip
              split at hg
              · rename_i hf
                obtain rfl := Nat.eq_of_beq_eq_true hf
                cases hg
                exact P20_ok
              · skip
                split at hg
                · rename_i hf
                  obtain rfl := Nat.eq_of_beq_eq_true hf
                  cases hg
                  exact P21_ok
                · skip
                  split at hg
                  · rename_i hf
                    obtain rfl := Nat.eq_of_beq_eq_true hf
                    cases hg
                    exact P11_ok
                  · skip
                    exact prims0_ok f g hg
def Cn5 : CC := call Tryd.prog primsn5 1000
theorem Cn5_ok : CallsOk Tryd.prog Cn5 := call_sound named primsn5_ok 1000
theorem at5 : Tryd.prog.funcs[5]? = some (fnOf Tryd.prog 5) := by kernel_rfl
def F5 (op sz cd : Int) (w : List Int) (k1 : Prop) (k2 : Prop) : Prop :=
  (bif ((nameI op sz cd) == (nameI op sz cd)) then (bif ((regI cd sz) == (regI cd sz)) then (bif ((getT tab w).1 == (getT tab w).1) then (bif ((getT tab w).2.1 == (getT tab w).2.1) then (bif ((getT tab w).2.2.1 == (getT tab w).2.2.1) then (bif ((getT tab w).2.2.2 == (getT tab w).2.2.2) then (bif ((getN regT w).1 == (getN regT w).1) then (bif ((getN regT w).2.1 == (getN regT w).2.1) then (bif ((getN regT w).2.2 == (getN regT w).2.2) then (k1) else (k2)) else (k2)) else (k2)) else (k2)) else (k2)) else (k2)) else (k2)) else (k2)) else (k2))
theorem F5_ok (op sz cd : Int) (w : List Int) (K : V → Mem → Prop) : cbody Tryd.prog Cn5 (fun _ => none) 1000 (fnOf Tryd.prog 5) [.I .i64 op, .I .i64 sz, .I .i64 cd, .S w] [] K = F5 op sz cd w (K (.B true) []) (K (.B false) []) := by kernel_rfl
theorem h5 (op sz cd : Int) (w : List Int) (K : V → Mem → Prop) (h : K (.B true) []) : F5 op sz cd w (K (.B true) []) (K (.B false) []) := by
  unfold F5
  simp [h]
end Go.Proofs.YtaajhdkngiemlaaDoor.frm
