/- Code, bodies, calls: what the evaluator says holds of every run. -/
import Derived.Test.YtjciabbnncidjaaGreatAbDraw3
import Derived.Scope
import Derived.LoopNIn
set_option linter.unusedSimpArgs false
set_option linter.unusedVariables false
namespace Go.Ab
open Go

def exitOf : Ex → Exit
  | .normal => .normal
  | .ret => .ret
  | .exit id => .exit id
  | .panic _ => .normal
/-- What must hold where code ends: of a panic, whatever value of the machine's it has. -/
def QE [Pins] (Q : Exit → Act → World → Prop) (E : Wh) : Ex → Act → World → Prop
  | .panic p, a, w => ∀ c, VRel E p c → Q (.panic [{ v := c, recovered := false }]) a w
  | e, a, w => Q (exitOf e) a w
/-! ## A scope in a fence -/
section
variable {P : Program} {b : Frame} {a : Act} {k : List Item} {cs : List Frame} {w : World} {F : Fence} {n : Nat} {Q : Exit → Act → World → Prop}
theorem stepR_scope' {c : Code} : step P (lone (b.atR a (.code (.scope c) :: k)) cs w) = .next (lone (b.atR a (.code c :: .inScope c :: k)) cs w) :=
  step_lone_go (by simp [stepG, stepG.exec, Frame.atR])
theorem stepR_inScope' {c : Code} : step P (lone (b.atR a (.inScope c :: k)) cs w) = .next (lone (b.atR a k) cs w) :=
  step_lone_go (by simp [stepG, stepG.exec, Frame.atR])
theorem wpIn_scope_straight {c : Code} (h : c.wpIn F n P (Exit.noGoto Q) a w) : (Code.scope c).wpIn F n P Q a w := by
  intro b k cs hro hb hr
  have h0 : (lone (b.atR a (.code (.scope c) :: k)) cs w).fenced P F := fenced_calm hb hr rfl
  obtain ⟨e, a₁, w₁, hq, harr⟩ := h b (.inScope c :: k) cs hro hb hr
  cases e with
  | normal => exact ⟨.normal, a₁, w₁, hq, .head h0 stepR_scope' (StepsIn.trans harr (.one (fenced_calm hb hr rfl) stepR_inScope'))⟩
  | exit id =>
    have hx : exitTo id (.inScope c :: k) = exitTo id k := by simp [exitTo]
    exact ⟨.exit id, a₁, w₁, hq, fun k' hk => .head h0 stepR_scope' (harr.1 k' (by rw [hx]; exact hk)),
      fun hr' hk => let ⟨k₁, h1, h2⟩ := harr.2 hr' (by rw [hx]; exact hk); ⟨k₁, h1, .head h0 stepR_scope' h2⟩⟩
  | goto l => exact hq.elim
  | ret => exact ⟨_, a₁, w₁, hq, .of_steps (.one h0 stepR_scope') ⟨fun hh => harr.1 hh, fun hh => harr.2 hh⟩⟩
  | panic ch => exact ⟨_, a₁, w₁, hq, .of_steps (.one h0 stepR_scope') harr⟩
  | outgrown => exact ⟨_, a₁, w₁, hq, .of_steps (.one h0 stepR_scope') harr⟩
end
section
variable {P : Program} {C : CC} {Y : YC} {r : Option Nat}
variable {E0 : Wh} {m0 : Mem} {w0 : World} {J : Act → Prop}
/-- What must come behind code. -/
def After [Pins] (E0 : Wh) (m0 : Mem) (w0 : World) (J : Act → Prop) (K : Ex → Env → Mem → Prop) (Q : Exit → Act → World → Prop) : Prop :=
  ∀ e ρ' m' E' a' w', K e ρ' m' → Step E0 m0 w0 E' m' w' → ERel E' ρ' a'.tmps.toList → J a' → QE Q E' e a' w'
/-- Code that does what the evaluator says. -/
def Doing [Pins] (P : Program) (r : Option Nat) (E0 : Wh) (m0 : Mem) (w0 : World) (J : Act → Prop) (c : Code) (f : Env → Mem → (Ex → Env → Mem → Prop) → Prop) : Prop :=
  ∀ (ρ : Env) (m : Mem) (K : Ex → Env → Mem → Prop) (E : Wh) (a : Act) (w : World) (Q : Exit → Act → World → Prop),
    Step E0 m0 w0 E m w → ERel E ρ a.tmps.toList → J a → f ρ m K → After E0 m0 w0 J K Q → c.wpIn (FW r) 0 P Q a w
theorem setsE_rel [Pins] {E : Wh} {cs : List Value} : ∀ {ps : List (Nat × V)} {ρ : Env}, (∀ p ∈ ps, ∀ c, cs[p.1]? = some c → VRel E p.2 c) → ERel E ρ cs → ERel E (setsE ps ρ) cs
  | [], _, _, h => h
  | (i, v) :: ps, ρ, hp, h => by
    simp only [setsE]
    refine setsE_rel (fun p h1 => hp p (by simp [h1])) ?_
    cases hc : cs[i]? with
    | none =>
      have : ρ.set i v = ρ := Tr.ext fun j => by
        rw [Tr.look_set]
        split
        · rename_i hij; subst hij
          cases hl : ρ.look i with
          | none => rfl
          | some y =>
            obtain ⟨c, h1, _⟩ := h i y hl
            rw [hc] at h1; cases h1
        · rfl
      rw [this]
      exact h
    | some c =>
      have h2 := ERel.set (hp (i, v) (by simp) c hc) h i
      have h3 : cs.set i c = cs := by
        obtain ⟨hi, rfl⟩ := List.getElem?_eq_some_iff.1 hc
        simp
      rw [h3] at h2
      exact h2
theorem tidy_rel [Pins] {E : Wh} {m : Mem} {w : World} (hS0 : Sim E0 m0 w0) (hst : Step E0 m0 w0 E m w) {ρ : Env} {cs : List Value} (hρ : ERel E ρ cs) (ts : List Nat) :
    ∃ E', Step E0 m0 w0 E' (tidyM m0.length ts ρ m) w ∧ ERel E' (tidyE m0.length ts ρ m) cs := by
  refine ⟨_, hst.trim (keep_nodup _ _ _) (fun i hi => keep_first _ _ _ hi) hS0, setsE_rel (fun p hp c hc => ?_) hρ.undefs'⟩
  obtain ⟨i, _, rfl⟩ := List.mem_map.1 hp
  have h1 := hρ.get i undef
  rw [List.getD_eq_getElem?_getD, hc] at h1
  exact VRel.cut h1 _
theorem cloop_sound [Pins] {c : Code} {f : Env → Mem → (Ex → Env → Mem → Prop) → Prop} (hf : Doing P r E0 m0 w0 J c f) (Q : Exit → Act → World → Prop) : ∀ (n : Nat) (ρ : Env) (m : Mem) (K : Ex → Env → Mem → Prop) (E : Wh) (a : Act) (w : World),
    Step E0 m0 w0 E m w → ERel E ρ a.tmps.toList → J a → cloop f n ρ m K → After E0 m0 w0 J K Q → Code.roundsIn (FW r) 0 P c Q n a w
  | 0, ρ, m, K, E, a, w, hS, hρ, hd, h, hQ => by simp [cloop] at h
  | n + 1, ρ, m, K, E, a, w, hS, hρ, hd, h, hQ => by
    simp only [cloop] at h
    rw [roundsIn_succ]
    refine hf ρ m _ E a w _ hS hρ hd h ?_
    intro e ρ' m' E' a' w' hk hst hρ' hd'
    cases e with
    | normal => exact cloop_sound hf Q n ρ' m' K E' a' w' hst hρ' hd' hk hQ
    | ret => exact hQ _ _ _ _ _ _ hk hst hρ' hd'
    | exit id => exact hQ _ _ _ _ _ _ hk hst hρ' hd'
    | panic p => exact hQ _ _ _ _ _ _ hk hst hρ' hd'
theorem cround_sound [Pins] (hS0 : Sim E0 m0 w0) {hm xm : List Nat} {c : Code} {f : Env → Mem → (Ex → Env → Mem → Prop) → Prop} (hf : Doing P r E0 m0 w0 J c f) (Q : Exit → Act → World → Prop) : ∀ (n : Nat) (ρ : Env) (m : Mem) (K : Ex → Env → Mem → Prop) (E : Wh) (a : Act) (w : World),
    Step E0 m0 w0 E m w → ERel E ρ a.tmps.toList → J a → cround m0.length hm xm f n ρ m K → After E0 m0 w0 J K Q → Code.roundsIn (FW r) 0 P c Q n a w
  | 0, ρ, m, K, E, a, w, hS, hρ, hd, h, hQ => by simp [cround] at h
  | n + 1, ρ, m, K, E, a, w, hS, hρ, hd, h, hQ => by
    simp only [cround] at h
    rw [roundsIn_succ]
    refine hf ρ m _ E a w _ hS hρ hd h ?_
    intro e ρ' m' E' a' w' hk hst hρ' hd'
    cases e with
    | normal =>
      obtain ⟨E2, hst2, hρ2⟩ := tidy_rel hS0 hst hρ' hm
      exact cround_sound hS0 hf Q n _ _ K E2 a' w' hst2 hρ2 hd' hk hQ
    | ret =>
      obtain ⟨E2, hst2, hρ2⟩ := tidy_rel hS0 hst hρ' xm
      exact hQ _ _ _ _ _ _ hk hst2 hρ2 hd'
    | exit id =>
      obtain ⟨E2, hst2, hρ2⟩ := tidy_rel hS0 hst hρ' xm
      exact hQ _ _ _ _ _ _ hk hst2 hρ2 hd'
    | panic p => exact hQ _ _ _ _ _ _ hk hst hρ' hd'
/-- The operations of code. -/
def codeOps : Code → List Oper
  | .region _ ops _ => ops.toList
  | .seq a b => codeOps a ++ codeOps b
  | .cond _ a b => codeOps a ++ codeOps b
  | .block _ a => codeOps a
  | .loop a => codeOps a
  | .scope a => codeOps a
  | _ => []
/-- What holds of a frame stays while code writes its temporaries. -/
def Keeps (J : Act → Prop) (c : Code) : Prop := ∀ o ∈ codeOps c, ∀ a v, J a → J (a.put o.dst v)
theorem Keeps.defers [Pins] (ds : List Deferred) (c : Code) : Keeps (fun a => a.defers = ds) c := fun o _ a v h => (put_defers a o.dst v).trans h
/-- What loops are known to do is what they do. -/
def LoopsOk [Pins] (P : Program) (a : Nat) (W : Masks) : Prop :=
  ∀ i lf, W i = some lf → ∀ x {r : Option Nat} {E0 : Wh} {m0 : Mem} {w0 : World} {J : Act → Prop}, Sim E0 m0 w0 → m0.length = a → Keeps J (.loop x) → Doing P r E0 m0 w0 J (.loop x) (lf x)
theorem LoopsOk.none [Pins] (P : Program) (a : Nat) : LoopsOk P a (fun _ => none) := fun _ _ h => by cases h
theorem cexec_sound [Pins] (hN : Named P) (hC : CallsOk P C) (hY : YieldsOk P Y) (hS0 : Sim E0 m0 w0) {W : Masks} (hW : LoopsOk P m0.length W) (n : Nat) : ∀ (c : Code), Keeps J c → Doing P r E0 m0 w0 J c (cexec P C Y W m0.length n c) := by
  intro c
  induction c with
  | skip =>
    intro hK ρ m K E a w Q hS hρ hd h hQ
    simp only [cexec] at h
    exact wpIn_skip (hQ .normal ρ m E a w h hS hρ hd)
  | region id ops draw =>
    intro hK ρ m K E a w Q hS hρ hd h hQ
    simp only [cexec] at h
    cases draw with
    | false => exact wpIn_region_list (cops_sound hN hC hY _ Q ops.toList ρ m E a w (fun o ho => hK o (by simpa [codeOps] using ho)) hd hS.sim hρ h (fun ρ' m' E' a' w' hk hst hρ' hd' => hQ .normal ρ' m' E' a' w' hk (hS.trans hst) hρ' hd') fun p ρ' m' E' a' w' c hk hst hv hρ' hd' => hQ (.panic p) ρ' m' E' a' w' hk (hS.trans hst) hρ' hd' c hv)
    | true =>
      simp only at h
      cases hOk : drawOk P ops.toList with
      | false => rw [hOk] at h; cases h
      | true =>
        rw [hOk] at h
        exact draw_sound hN hC hY hOk _ (fun o ho => hK o (by simpa [codeOps] using ho)) hd hS.sim hρ h (fun ρ' m' E' a' w' hk hst hρ' hd' => hQ .normal ρ' m' E' a' w' hk (hS.trans hst) hρ' hd') fun p ρ' m' E' a' w' c hk hst hv hρ' hd' => hQ (.panic p) ρ' m' E' a' w' hk (hS.trans hst) hρ' hd' c hv
  | seq x y ihx ihy =>
    intro hK ρ m K E a w Q hS hρ hd h hQ
    simp only [cexec] at h
    have hx : Keeps J x := fun o ho => hK o (List.mem_append_left _ ho)
    have hy : Keeps J y := fun o ho => hK o (List.mem_append_right _ ho)
    refine wpIn_seq (ihx hx ρ m _ E a w _ hS hρ hd h ?_)
    intro e ρ' m' E' a' w' hk hst hρ' hd'
    cases e with
    | normal => exact ihy hy ρ' m' K E' a' w' Q hst hρ' hd' hk hQ
    | ret => exact hQ _ _ _ _ _ _ hk hst hρ' hd'
    | exit id => exact hQ _ _ _ _ _ _ hk hst hρ' hd'
    | panic p => exact hQ _ _ _ _ _ _ hk hst hρ' hd'
  | cond c x y ihx ihy =>
    intro hK ρ m K E a w Q hS hρ hd h hQ
    simp only [cexec] at h
    split at h
    · rename_i t hc
      have hcr := opd_rel (a := a) hρ c
      rw [hc] at hcr
      simp only [VRel] at hcr
      refine wpIn_cond hcr ?_
      cases t with
      | true => exact ihx (fun o ho => hK o (List.mem_append_left _ ho)) ρ m K E a w Q hS hρ hd h hQ
      | false => exact ihy (fun o ho => hK o (List.mem_append_right _ ho)) ρ m K E a w Q hS hρ hd h hQ
    · cases h
  | block id x ih =>
    intro hK ρ m K E a w Q hS hρ hd h hQ
    simp only [cexec] at h
    refine wpIn_block (ih hK ρ m _ E a w _ hS hρ hd h ?_)
    intro e ρ' m' E' a' w' hk hst hρ' hd'
    cases e with
    | normal => exact hQ _ _ _ _ _ _ hk hst hρ' hd'
    | ret => exact hQ _ _ _ _ _ _ hk hst hρ' hd'
    | panic p => exact hQ _ _ _ _ _ _ hk hst hρ' hd'
    | exit j =>
      simp only [QE, exitOf, Exit.inBlock]
      cases hb : Nat.beq j id with
      | true =>
        rw [if_pos (Nat.eq_of_beq_eq_true hb)]
        simp only [hb] at hk
        exact hQ _ _ _ _ _ _ hk hst hρ' hd'
      | false =>
        rw [if_neg (Nat.ne_of_beq_eq_false hb)]
        simp only [hb] at hk
        exact hQ _ _ _ _ _ _ hk hst hρ' hd'
  | loop x ih =>
    intro hK ρ m K E a w Q hS hρ hd h hQ
    simp only [cexec] at h
    split at h
    · exact wpIn_loop_rounds n (cloop_sound (ih hK) Q n ρ m K E a w hS hρ hd h hQ)
    · rename_i lf hlf
      exact hW _ lf hlf x hS0 rfl hK ρ m K E a w Q hS hρ hd h hQ
  | exit id =>
    intro hK ρ m K E a w Q hS hρ hd h hQ
    simp only [cexec] at h
    exact wpIn_exit (hQ _ _ _ _ _ _ h hS hρ hd)
  | ret =>
    intro hK ρ m K E a w Q hS hρ hd h hQ
    simp only [cexec] at h
    exact wpIn_ret (hQ _ _ _ _ _ _ h hS hρ hd)
  | label l =>
    intro hK ρ m K E a w Q hS hρ hd h hQ
    simp only [cexec] at h
    exact wpIn_label (hQ _ _ _ _ _ _ h hS hρ hd)
  | scope x ih =>
    intro hK ρ m K E a w Q hS hρ hd h hQ
    simp only [cexec] at h
    refine wpIn_scope_straight (ih hK ρ m K E a w _ hS hρ hd h ?_)
    intro e ρ' m' E' a' w' hk hst hρ' hd'
    have := hQ e ρ' m' E' a' w' hk hst hρ' hd'
    cases e <;> exact this
  | _ =>
    intro hK ρ m K E a w Q hS hρ hd h hQ
    simp only [cexec] at h

/-- A frame has these. -/
def Picks (ρ : Env) : List (Nat × V) → Prop
  | [] => True
  | (i, v) :: ps => ρ.get i = v ∧ Picks ρ ps
theorem Picks.all [Pins] {ρ : Env} : ∀ {ps : List (Nat × V)}, Picks ρ ps → ∀ p ∈ ps, ρ.get p.1 = p.2
  | [], _, p, h => by cases h
  | (i, v) :: ps, hp, p, h => by
    rw [List.mem_cons] at h
    rcases h with rfl | h
    · exact hp.1
    · exact hp.2.all p h
theorem selE_rel [Pins] {E : Wh} {ρ : Env} {cs : List Value} (hρ : ERel E ρ cs) {n : Nat} (hn : ρ.has (n - 1) = true) {ps : List (Nat × V)} (hp : Picks ρ ps) : ERel E (selE n ps) cs := by
  refine setsE_rel (fun p h c hc => ?_) (ERel.full ?_)
  · rw [← hp.all p h]
    have h1 := hρ.get p.1 undef
    rw [List.getD_eq_getElem?_getD, hc] at h1
    exact h1
  · rw [Tr.has_look] at hn
    cases hl : ρ.look (n - 1) with
    | none => rw [hl] at hn; cases hn
    | some v =>
      obtain ⟨c, hc, _⟩ := hρ _ v hl
      have := (List.getElem?_eq_some_iff.1 hc).1
      omega
/-- A loop that does as it is known to do, round by round. -/
theorem loop_use [Pins] (hN : Named P) (hC : CallsOk P C) {W' : Masks} {l fuel : Nat} (hW' : LoopsOk P l W') {X : Code} {hm xm : List Nat} {N : Nat} {ps : List (Nat × V)} {m : Mem} {K : Ex → Env → Mem → Prop} {n : Nat} {T : Prop}
    (hT : cround l hm xm (fun ρ m K => cexec P C noY W' l fuel X ρ m K) n (selE N ps) m K = T) (h : T) {ρ : Env} {E : Wh} {a : Act} {w : World} {Q : Exit → Act → World → Prop}
    (hS0 : Sim E0 m0 w0) (hl : m0.length = l) (hJ : Keeps J (.loop X)) (hlen : ρ.has (N - 1) = true) (hp : Picks ρ ps) (hS : Step E0 m0 w0 E m w) (hρ : ERel E ρ a.tmps.toList) (hd : J a) (hQ : After E0 m0 w0 J K Q) : (Code.loop X).wpIn (FW r) 0 P Q a w := by
  subst hl
  subst hT
  exact wpIn_loop_rounds n (cround_sound hS0 (cexec_sound hN hC noY_ok hS0 hW' fuel X hJ) Q n _ _ K E a w hS (selE_rel hρ hlen hp) hd h hQ)

/-! ## Results -/
def resRun (tmps : Array Value) (r : ResultVar) : Sem Value :=
  match r with
  | .tmp t => pure (tmps.getD t undef)
  | .cell a t => do loadVar t (← asAddr (tmps.getD a undef))
theorem results_eq [Pins] (fn : Func) (tmps : Array Value) : results fn tmps = (do let vs ← fn.results.mapM (resRun tmps); pure (if h : vs.size = 1 then vs[0] else .tuple vs)) := rfl
theorem resVs_rel [Pins] {E : Wh} {m : Mem} {w : World} {ρ : Env} {tmps : Array Value} (hS : Sim E m w) (hρ : ERel E ρ tmps.toList) : ∀ {rs : List ResultVar} {vs : List V}, resVs P ρ m rs = some vs →
    ∃ cs, (rs.mapM (resRun tmps)).run P w = .ok cs w ∧ VsRel E vs cs
  | [], vs, h => by
    simp only [resVs, Option.some.injEq] at h
    subst h
    exact ⟨[], by simp, by simp [VsRel]⟩
  | r :: rs, vs, h => by
    simp only [resVs] at h
    split at h
    · rename_i v vs' hv hvs
      cases h
      obtain ⟨cs, h1, h2⟩ := resVs_rel hS hρ hvs
      have key : ∃ c, (resRun tmps r).run P w = .ok c w ∧ VRel E v c := by
        cases r with
        | tmp t =>
          simp only [resV, Option.some.injEq] at hv
          subst hv
          refine ⟨_, rfl, ?_⟩
          have := hρ.getD t undef
          simpa [Array.getD_eq_getD_getElem?] using this
        | cell ad t =>
          simp only [resV] at hv
          have hp := hρ.getD ad undef
          have hpc : tmps.toList.getD ad undef = tmps.getD ad undef := by simp [Array.getD_eq_getD_getElem?]
          rw [hpc] at hp
          obtain ⟨c, g1, g2⟩ := loadV_rel hS hp hv
          refine ⟨c, ?_, g2⟩
          unfold loadV at hv
          split at hv
          · rename_i k row fld heq
            rw [heq] at hp
            simp only [VRel] at hp
            obtain ⟨e, _, _, hpc⟩ := hp
            rw [hpc] at g1
            simp only [resRun, hpc]
            simpa [Instr.loadAt, Instr.sureAddr, asAddr] using g1
          · cases hv
      obtain ⟨c, g1, g2⟩ := key
      refine ⟨c :: cs, ?_, by simp only [VsRel]; exact ⟨c, cs, rfl, g2, h2⟩⟩
      rw [List.mapM_cons]
      simp only [Sem.run_bind, Sem.run_pure]
      rw [g1]
      simp only [Result.andThen_ok]
      rw [h1]
      rfl
    · cases h
theorem results_rel [Pins] {E : Wh} {m : Mem} {w : World} {ρ : Env} {fn : Func} {tmps : Array Value} (hS : Sim E m w) (hρ : ERel E ρ tmps.toList) {vs : List V} (h : resVs P ρ m fn.results.toList = some vs) :
    ∃ c, (results fn tmps).run P w = .ok c w ∧ VRel E (one vs) c := by
  obtain ⟨cs, h1, h2⟩ := resVs_rel hS hρ h
  rw [results_eq, Array.mapM_eq_mapM_toList]
  simp only [Sem.run_bind, Sem.run_map]
  refine ⟨if h : cs.toArray.size = 1 then cs.toArray[0] else .tuple cs.toArray, ?_, ?_⟩
  · rw [h1]
    simp only [Result.andThen_ok, Sem.run_pure]
  · match vs, cs, h2 with
    | [], cs, h2 => simp only [VsRel] at h2; subst h2; simp [one, VRel, VsRel]
    | [v], cs, h2 =>
      simp only [VsRel] at h2
      obtain ⟨c, cs', rfl, h3, rfl⟩ := h2
      simpa [one] using h3
    | v :: v' :: vs, cs, h2 =>
      have h2' := h2
      simp only [VsRel] at h2
      obtain ⟨c, cs', rfl, h3, c', cs'', rfl, h4, h5⟩ := h2
      simp only [one, VRel]
      exact ⟨(c :: c' :: cs'').toArray, by simp, by simpa using h2'⟩

/-! ## Bodies -/
theorem cbody_sound [Pins] (hN : Named P) (hC : CallsOk P C) {W : Masks} {n : Nat} {f : FuncId} {fn : Func} (hf : P.funcs[f]? = some fn) {args : List V} {m : Mem} (hW : LoopsOk P m.length W) {K : V → Mem → Prop} {E : Wh} {w : World} {cargs : Array Value}
    (hS : Sim E m w) (hargs : VsRel E args cargs.toList) (h : cbody P C W n fn args m K) : (∃ fn, P.funcs[f]? = some fn ∧ fn.body.isSome = true) ∧ Calls P f cargs w (Ret K E m w) := by
  unfold cbody at h
  split at h
  · cases h
  · rename_i c hc
    refine ⟨⟨fn, hf, by rw [hc]; rfl⟩, fw_calls' (r := none) (n := 0) (callsIn_of_wp hf hc trivial ?_ rfl)⟩
    have hlen : args.length = cargs.size := by simpa using hargs.length
    have hρ : ERel E (Tr.puts 0 args (Tr.full (.tup []) (max fn.ntmps args.length) (max fn.ntmps args.length))) (cargs ++ Array.replicate (fn.ntmps - cargs.size) undef).toList := by
      have h0 : ERel E (Tr.full (.tup []) (max fn.ntmps args.length) (max fn.ntmps args.length)) (List.replicate (max fn.ntmps args.length) undef) := by
        intro i v hv
        rw [Tr.look_full _ _ _ _ (Nat.le_refl _)] at hv
        split at hv
        · rename_i hi
          cases hv
          exact ⟨undef, by rw [List.getElem?_replicate, if_pos hi], by simp [VRel, VsRel, undef]⟩
        · cases hv
      have h1 := ERel.puts (n := 0) hargs h0
      rw [Array.toList_append, Array.toList_replicate]
      have e1 : cargs.toList.take (max fn.ntmps args.length) = cargs.toList := List.take_of_length_le (by rw [Array.length_toList, ← hlen]; omega)
      simp only [List.take_zero, List.nil_append, List.length_replicate, Nat.sub_zero, e1, Nat.zero_add, List.drop_replicate, Array.length_toList] at h1
      have e2 : max fn.ntmps args.length - cargs.size = fn.ntmps - cargs.size := by omega
      rw [e2] at h1
      exact h1
    refine cexec_sound hN hC noY_ok hS hW n c (Keeps.defers [] c) _ m _ E _ w _ (Step.refl hS) hρ rfl h ?_
    intro e ρ' m' E' a' w' hk hst hρ' hd
    have done : ∀ vs, resVs P ρ' m' fn.results.toList = some vs → K (V.ren (fun j => idx? j 0 (keep m' m.length (one vs))) (one vs)) (trim m' (keep m' m.length (one vs))) →
        ∃ c, (results fn a'.tmps).run P w' = .ok c w' ∧ Ret K E m w (.returned c) w' := by
      intro vs hvs hk
      obtain ⟨c, h1, h2⟩ := results_rel (fn := fn) hst.sim hρ' hvs
      refine ⟨c, h1, _, _, Ecut E' (keep m' m.length (one vs)), hk, ?_, h2.cut _⟩
      exact hst.trim (keep_nodup _ _ _) (fun i hi => keep_first _ _ _ hi) hS
    simp only [kbody] at hk
    cases e with
    | exit id => cases hk
    | panic p =>
      intro c hv
      exact ⟨hd, p.ren (fun j => idx? j 0 (keep m' m.length p)), c, _, Ecut E' (keep m' m.length p), rfl, hk, hst.trim (keep_nodup _ _ _) (fun i hi => keep_first _ _ _ hi) hS, hv.cut _⟩
    | normal =>
      simp only at hk
      split at hk
      · rename_i vs hvs
        obtain ⟨c, h1, h2⟩ := done vs hvs hk
        exact ⟨hd, c, h1, h2⟩
      · cases hk
    | ret =>
      simp only at hk
      split at hk
      · rename_i vs hvs
        obtain ⟨c, h1, h2⟩ := done vs hvs hk
        exact ⟨hd, c, h1, h2⟩
      · cases hk
theorem cbody_use [Pins] (hN : Named P) {C : CC} (hC : CallsOk P C) {W : Masks} {n : Nat} {f : FuncId} {fn : Func} (hf : P.funcs[f]? = some fn) {args : List V} {m : Mem} {l : Nat} (hl : m.length = l) (hW : LoopsOk P l W) {K : V → Mem → Prop} {X : Prop} (hX : cbody P C W n fn args m K = X)
    {E : Wh} {w : World} {cargs : Array Value} (hS : Sim E m w) (hargs : VsRel E args cargs.toList) (h : X) : ((∃ fn, P.funcs[f]? = some fn ∧ fn.body.isSome = true) ∧ Calls P f cargs w (Ret K E m w)) ∨
    ∃ cv w', (callFunc f cargs).run P w = .ok (.value cv) w' ∧ Ret K E m w (.returned cv) w' := by
  subst hX; subst hl; exact .inl (cbody_sound hN hC hf hW hS hargs h)
/-- Functions that are known without their text are what they are said to be. -/
def PrimsOk [Pins] (P : Program) (S : Prims) : Prop := ∀ (f : FuncId) g, S f = some g → ∀ args m K E w (cargs : Array Value), Sim E m w → VsRel E args cargs.toList → g args m K →
  ((∃ fn, P.funcs[f]? = some fn ∧ fn.body.isSome = true) ∧ Calls P f cargs w (Ret K E m w)) ∨ ∃ cv w', (callFunc f cargs).run P w = .ok (.value cv) w' ∧ Ret K E m w (.returned cv) w'
theorem call_sound [Pins] (hN : Named P) {S : Prims} (hP : PrimsOk P S) : ∀ n, CallsOk P (call P S n)
  | 0 => fun g args m K E w cargs hS ha h => by simp [call] at h
  | n + 1 => fun g args m K E w cargs hS ha h => by
    simp only [call] at h
    split at h
    · rename_i f hf
      exact hP g f hf args m K E w cargs hS ha h
    · split at h
      · rename_i fn hfn
        exact .inl (cbody_sound hN (call_sound hN hP n) hfn (LoopsOk.none _ _) hS ha h)
      · cases h
/-- A call of a function with a body is a call. -/
theorem CallsOk.calls [Pins] (hN : Named P) {C : CC} (hC : CallsOk P C) {g : FuncId} (hb : (P.funcs[g]?).map (fun fn => fn.body.isSome) = some true) {args : List V} {m : Mem} {K : V → Mem → Prop} {E : Wh} {w : World} {cargs : Array Value}
    (hS : Sim E m w) (ha : VsRel E args cargs.toList) (h : C g args m K) : Calls P g cargs w (Ret K E m w) := by
  rcases hC g args m K E w cargs hS ha h with ⟨_, h⟩ | ⟨cv, w', hr, _⟩
  · exact h
  · obtain ⟨fn, hfn, hbd⟩ := Option.map_eq_some_iff.1 hb
    have hnm := hN g fn hfn
    have hb : fn.body.isNone = false := by cases hfb : fn.body <;> simp_all
    simp only [callFunc, Sem.run_bind, Sem.run_pure, Result.andThen_ok, run_program, hfn, hnm, hb, Bool.false_eq_true, if_false] at hr
    cases hr
end
end Go.Ab
