/- Operations with their guards, regions in the order of the text, code, bodies, calls: what the evaluator says holds of every run. -/
import Derived.Test.YtjciabbnncidjaaGreatAbOpsX
import Derived.Test.YtjciabbnncidjaaGreatAbCall
import Derived.Test.YtjciabbnncidjaaGreatAbDraw1
import Derived.LoopN
import Derived.Maps.RangeRun
import Derived.Orders
import Derived.Tactics
import Derived.TacticsIn
import Derived.OrdersIn
import Derived.RangeFuncIn
set_option linter.unusedSimpArgs false
set_option linter.unusedVariables false
namespace Go.Ab
open Go

/-- What comes back from a call: a value and a world that fit to what the evaluator handed on. -/
def Ret [Pins] (K : V → Mem → Prop) (E : Wh) (m : Mem) (w : World) : Ending → World → Prop
  | .returned c, w' => ∃ v m' E', K v m' ∧ Step E m w E' m' w' ∧ VRel E' v c
  | .panicked ch, w' => ∃ p c m' E', ch = [{ v := c, recovered := false }] ∧ K (.pan p) m' ∧ Step E m w E' m' w' ∧ VRel E' p c
  | _, _ => False
/-- The calls that 'C' tells are what calls do. -/
def CallsOk [Pins] (P : Program) (C : CC) : Prop :=
  ∀ g args m K E w (cargs : Array Value), Sim E m w → VsRel E args cargs.toList → C g args m K →
    ((∃ fn, P.funcs[g]? = some fn ∧ fn.body.isSome = true) ∧ Calls P g cargs w (Ret K E m w)) ∨
    ∃ cv w', (callFunc g cargs).run P w = .ok (.value cv) w' ∧ Ret K E m w (.returned cv) w'
/-- No function bears the name that the model treats apart. -/
def Named (P : Program) : Prop := ∀ (g : FuncId) (fn : Func), P.funcs[g]? = some fn → (fn.name == "runtime.NumGoroutine") = false

section
variable {P : Program} {C : CC} {E : Wh} {m : Mem} {w : World} {ρ : Env} {a : Act}

/-- Two frames are alike but for some temporaries. -/
def Agree (U : Nat → Prop) (ρ ρr : Env) : Prop := (∀ d, (ρr.look d).isSome = (ρ.look d).isSome) ∧ ∀ d, ¬ U d → ρr.look d = ρ.look d
theorem Agree.refl [Pins] (U : Nat → Prop) (ρ : Env) : Agree U ρ ρ := ⟨fun _ => rfl, fun _ _ => rfl⟩
theorem Agree.eq [Pins] {ρ ρr : Env} (h : Agree (fun _ => False) ρ ρr) : ρr = ρ := Tr.ext fun i => h.2 i (fun h => h)
theorem Agree.map [Pins] {U : Nat → Prop} {ρ ρr : Env} (h : Agree U ρ ρr) (f : V → V) : Agree U (ρ.map f) (ρr.map f) :=
  ⟨fun d => by rw [Tr.look_map, Tr.look_map, Option.isSome_map, Option.isSome_map, h.1], fun d hd => by rw [Tr.look_map, Tr.look_map, h.2 d hd]⟩
theorem Agree.alike [Pins] {U : Nat → Prop} {ρ ρr ρ' ρr' : Env} (h : Agree U ρ ρr) (ha : Alike ρ ρ' ρr ρr') : Agree U ρ' ρr' := by
  rcases ha with ⟨rfl, rfl⟩ | ⟨k, rfl, rfl⟩
  · exact h
  · exact h.map _
theorem Agree.dropE [Pins] {U : Nat → Prop} {ρ ρr : Env} (h : Agree U ρ ρr) (js : List Nat) : Agree U (Ab.dropE js ρ) (Ab.dropE js ρr) := by
  unfold Ab.dropE
  split
  · exact h
  · exact h.map _
theorem Agree.set [Pins] {U : Nat → Prop} {ρ ρr : Env} (h : Agree U ρ ρr) (d : Nat) (v : V) : Agree U (ρ.set d v) (ρr.set d v) := by
  refine ⟨fun i => ?_, fun i hi => ?_⟩
  · rw [Tr.look_set, Tr.look_set]
    split
    · rw [Option.isSome_map, Option.isSome_map, h.1]
    · exact h.1 i
  · rw [Tr.look_set, Tr.look_set]
    split
    · have := h.1 i
      cases h1 : ρr.look i <;> cases h2 : ρ.look i <;> simp_all
    · exact h.2 i hi
theorem Agree.put [Pins] {U : Nat → Prop} {ρ ρr : Env} (h : Agree U ρ ρr) (d : Option Tmp) (v : V) : Agree U (Ab.put d v ρ) (Ab.put d v ρr) := by
  cases d with
  | none => exact h
  | some d => exact h.set d v
theorem Agree.opd [Pins] {U : Nat → Prop} {ρ ρr : Env} (h : Agree U ρ ρr) {x : Operand} (hx : ∀ t, x = .tmp t → ¬ U t) : Ab.opd ρ x = Ab.opd ρr x := by
  cases x with
  | tmp t => simp only [Ab.opd, Tr.get_look, h.2 t (hx t rfl)]
  | _ => rfl

/-- Behind an operation: 'ρr' is what the machine's frame fits to, 'ρ' what the evaluator holds; they differ in 'U' alone. -/
def Aft [Pins] (o : Oper) (a : Act) (U : Nat → Prop) (K : V → Env → Mem → Prop) (E : Wh) (m : Mem) (w : World) (a' : Act) (w' : World) : Prop :=
  ∃ cv v ρ' ρr' m' E', a' = a.put o.dst cv ∧ K v ρ' m' ∧ Step E m w E' m' w' ∧ VRel E' v cv ∧ ERel E' ρr' a.tmps.toList ∧ Agree U ρ' ρr'
variable {U : Nat → Prop} {ρr : Env}
/-- Behind a panic. -/
def PanQ [Pins] (KP : V → Env → Mem → Prop) (U : Nat → Prop) (E : Wh) (m : Mem) (w : World) (a : Act) (Q : Exit → Act → World → Prop) : Prop :=
  ∀ p ρ' ρr' m' E' w' c, KP p ρ' m' → Step E m w E' m' w' → VRel E' p c → ERel E' ρr' a.tmps.toList → Agree U ρ' ρr' → Q (.panic [{ v := c, recovered := false }]) a w'
theorem PanQ.no [Pins] (U : Nat → Prop) (E : Wh) (m : Mem) (w : World) (a : Act) (Q : Exit → Act → World → Prop) : PanQ noP U E m w a Q := fun _ _ _ _ _ _ _ h => h.elim
theorem retK_of [Pins] {KP K : V → Env → Mem → Prop} {v : V} {c : Value} {ρ : Env} {m : Mem} {E : Wh} (h : retK KP K v ρ m) (hv : VRel E v c) : K v ρ m := by
  unfold retK at h
  split at h
  · simp only [VRel] at hv
  · exact h
variable {KP : V → Env → Mem → Prop}
theorem Goes.wp [Pins] {o : Oper} {v : V} {ρ' ρr' : Env} {m' : Mem} {K : V → Env → Mem → Prop} (h : Goes P o a E m w v ρr' m') (hK : K v ρ' m') (hag : Agree U ρ' ρr') (Q : Exit → Act → World → Prop) : o.wp P a w (Aft o a U K E m w) Q := by
  obtain ⟨E', cv, w', hd, hs, hv, hρ⟩ := h
  unfold Oper.wp
  rcases hd with hd | ⟨hd, rfl⟩
  · rw [hd, Oper.upon_value]; exact ⟨cv, v, ρ', ρr', m', E', rfl, hK, hs, hv, hρ, hag⟩
  · rw [hd, Oper.upon_skip]; exact ⟨undef, v, ρ', ρr', m', E', rfl, hK, hs, hv, hρ, hag⟩
theorem csop_sound [Pins] (hS : Sim E m w) (hρ : ERel E ρr a.tmps.toList) (hag : Agree U ρ ρr) {o : Oper} (hx : ∀ x ∈ o.op.operands, opd ρ x = opd ρr x) {K : V → Env → Mem → Prop} (h : csop P o ρ m K) (Q : Exit → Act → World → Prop) : o.wp P a w (Aft o a U K E m w) Q := by
  unfold csop at h
  split at h
  · rename_i c v ρ' m' hs
    split at h
    · obtain ⟨ρr', h1, h2⟩ := sop_alike hx hs
      exact (sop_sound hS hρ h1).wp h (hag.alike h2) Q
    · cases h
  · cases h
theorem ccall_sound [Pins] (hN : Named P) (hC : CallsOk P C) (hS : Sim E m w) (hρ : ERel E ρr a.tmps.toList) (hag : Agree U ρ ρr) {o : Oper} (hx : ∀ x ∈ o.op.operands, opd ρ x = opd ρr x) {c : Call} (ho : o.op = .call c) {f : Operand} (hf : c.callee = .value f) {g : FuncId} {first captured : List V}
    (hv : opd ρ f = .fn (.func g) first captured) {K : V → Env → Mem → Prop} (h : ccall C g (first ++ c.args.toList.map (opd ρ) ++ captured) ρ m (retK KP K)) (Q : Exit → Act → World → Prop) (hP : PanQ KP U E m w a Q) : o.wp P a w (Aft o a U K E m w) Q := by
  have hfv := opd_rel (a := a) hρ f
  rw [← hx f (by simp [ho, Op.operands, Call.operands, hf]), hv] at hfv
  simp only [VRel] at hfv
  obtain ⟨a', d', hfc, hfirst, hcapt⟩ := hfv
  have hargs : VsRel E (first ++ c.args.toList.map (opd ρ) ++ captured) ((a' ++ c.args.map a.eval) ++ d').toList := by
    rw [Array.toList_append, Array.toList_append]
    rw [List.map_congr_left (f := opd ρ) (g := opd ρr) (l := c.args.toList) fun z hz => hx z (by simp [ho, Op.operands, Call.operands, Array.mem_toList_iff.1 hz])]
    exact (hfirst.app (opds_rel hρ c.args)).app hcapt
  generalize hks : foot m (first ++ c.args.toList.map (opd ρ) ++ captured) = ks at h
  unfold ccall at h
  rw [hks] at h
  have hn : ks.Nodup := hks ▸ foot_nodup _ _
  have hl : ∀ k ∈ ks, k < m.length := hks ▸ foot_lt _ _
  rcases hC g _ _ _ (Ecut E ks) w ((a' ++ c.args.map a.eval) ++ d') (hS.cut' hn) (hargs.cut ks) h with ⟨⟨fn, hfn, hbody⟩, hcalls⟩ | ⟨cv, w', hcf, hret⟩
  · have hrun : (execOp a.eval o).run P w = .ok (.enter g ((a' ++ c.args.map a.eval) ++ d')) w := by
      have hb : fn.body.isNone = false := by cases hfb : fn.body <;> simp_all
      have hnm := hN g fn hfn
      simp only [execOp, ho, resolve, hf, hfc, Deferred.ofValue, invoke, callFunc, Sem.run_bind, Sem.run_pure, Result.andThen_ok, run_program, hfn, hnm, hb, Bool.false_eq_true, if_false]
    unfold Oper.wp
    rw [hrun, Oper.upon_enter]
    refine Calls.mono hcalls fun e w' he => ?_
    cases e with
    | panicked ch =>
      obtain ⟨p, c, mf, E1, rfl, hK, hst, hr⟩ := he
      simp only [V.ren, retK] at hK
      exact hP _ _ _ _ (Eback E ks m.length E1) _ _ hK (hst.back hS hn hl) (hr.ren (fun k _ j hj e he => backN_ok hn hl k j hj e he)) (dropE_rel hS hn hst hρ) (hag.dropE _)
    | outgrown => exact he.elim
    | returned cv =>
      obtain ⟨v, mf, E1, hK, hst, hr⟩ := he
      have hv' := hr.ren (E' := Eback E ks m.length E1) (fun k _ j hj e he => backN_ok hn hl k j hj e he)
      exact ⟨cv, _, _, _, _, Eback E ks m.length E1, rfl, retK_of hK hv', hst.back hS hn hl, hv', dropE_rel hS hn hst hρ, hag.dropE _⟩
  · have hrun : (execOp a.eval o).run P w = .ok (.value cv) w' := by
      simp only [execOp, ho, resolve, hf, hfc, Deferred.ofValue, invoke, Sem.run_bind, Sem.run_pure, Result.andThen_ok, hcf]
    unfold Oper.wp
    rw [hrun, Oper.upon_value]
    obtain ⟨v, mf, E1, hK, hst, hr⟩ := hret
    have hv' := hr.ren (E' := Eback E ks m.length E1) (fun k _ j hj e he => backN_ok hn hl k j hj e he)
    exact ⟨cv, _, _, _, _, Eback E ks m.length E1, rfl, retK_of hK hv', hst.back hS hn hl, hv', dropE_rel hS hn hst hρ, hag.dropE _⟩
/-! ## Fences -/
/-- The fence that lets all in; in a round, or not. -/
def FW (r : Option Nat) : Fence := { Fence.wide with round := r }
theorem fw_room (r : Option Nat) (n : Nat) : (FW r).room n := fun d hd => by cases hd
theorem fw_depth {r : Option Nat} {n : Nat} (h : (FW r).depth.isSome = true) : 1 ≤ n := by cases h
theorem fw_fn (r : Option Nat) (f : FuncId) : (FW r).fn f := trivial
theorem fw_calls {r : Option Nat} {n : Nat} {f : FuncId} {args : Array Value} {R : Ending → World → Prop} (h : Calls P f args w R) : CallsIn (FW r) n P f args w R := callsIn_wide.2 h
theorem fw_calls' {r : Option Nat} {n : Nat} {f : FuncId} {args : Array Value} {R : Ending → World → Prop} (h : CallsIn (FW r) n P f args w R) : Calls P f args w R := callsIn_wide.1 h
theorem fw_rows {r : Option Nat} {n : Nat} {row : String} {args : Array Value} {R : Value → World → Prop} (h : Rows P row args w R) : RowsIn (FW r) n P row args w R :=
  fun c cs _ => let ⟨v, w', hr, s⟩ := h c cs; ⟨v, w', hr, stepsIn_wide.2 s⟩
/-- An operation in the wide fence. -/
theorem wpIn_of_wp {r : Option Nat} {o : Oper} (hd : ∀ c, o.op ≠ .defer c) {K : Act → World → Prop} {Q : Exit → Act → World → Prop} (h : o.wp P a w K Q) : o.wpIn (FW r) 0 P a w K Q := by
  refine ⟨fun f _ => trivial, ?_⟩
  rw [Oper.semAt_eq _ _ _ hd]
  unfold Oper.wp at h
  generalize (execOp a.eval o).run P w = res at h
  unfold Oper.upon at h
  unfold Oper.uponIn
  split at h
  · exact h
  · exact h
  · exact h
  · exact ⟨fun hh => (by cases hh), fw_calls h⟩
  · exact ⟨fun hh => (by cases hh), fw_rows h⟩
  · exact h
  · exact h.elim
/-- What a round is known to do is what it does. -/
def YieldsOk [Pins] (P : Program) (Y : YC) : Prop := ∀ args m K E w (cargs : Array Value), Sim E m w → VsRel E args cargs.toList → Y args m K →
  ∃ (l : Nat) (crest : Array Value) (f : FuncId) (tmps : Array Value) (x y : Code), cargs = #[.func (.yield l) #[] #[]] ++ crest ∧ (Instr.yield l crest).run P w = .ok (.round l f tmps x y) w ∧ RoundIn (FW none) 0 P l f tmps x y w (Ret K E m w)
theorem noY_ok [Pins] : YieldsOk P noY := fun _ _ _ _ _ _ _ _ h => h.elim
theorem csop_nodefer {o : Oper} {K : V → Env → Mem → Prop} (h : csop P o ρ m K) : ∀ c, o.op ≠ .defer c := by
  intro c hc
  unfold csop sop at h
  have h0 : sop0 P o ρ m = none := by unfold sop0; simp only [hc]
  have h1 : ∀ vs, xop P o vs m = none := fun vs => by simp [xop, xmap, hc]
  rw [h0, h1] at h
  exact h
theorem cyld_sound [Pins] {r : Option Nat} {Y : YC} (hY : YieldsOk P Y) (hS : Sim E m w) (hρ : ERel E ρr a.tmps.toList) (hag : Agree U ρ ρr) {o : Oper} (hx : ∀ x ∈ o.op.operands, opd ρ x = opd ρr x) {c : Call} (ho : o.op = .call c) {f : Operand} (hf : c.callee = .value f) {k : Nat}
    (hv : opd ρ f = .yv k) {K : V → Env → Mem → Prop} (h : ccall (fun _ => Y) 0 (.yv k :: c.args.toList.map (opd ρ)) ρ m (retK noP K)) (Q : Exit → Act → World → Prop) : o.wpIn (FW r) 0 P a w (Aft o a U K E m w) Q := by
  have hfv := opd_rel (a := a) hρ f
  rw [← hx f (by simp [ho, Op.operands, Call.operands, hf]), hv] at hfv
  have hfv2 := hfv
  simp only [VRel] at hfv2
  obtain ⟨e, hke, hfc⟩ := hfv2
  have hargs : VsRel E (.yv k :: c.args.toList.map (opd ρ)) (#[a.eval f] ++ c.args.map a.eval).toList := by
    rw [Array.toList_append]
    rw [List.map_congr_left (f := opd ρ) (g := opd ρr) (l := c.args.toList) fun z hz => hx z (by simp [ho, Op.operands, Call.operands, Array.mem_toList_iff.1 hz])]
    simp only [VsRel]
    exact ⟨_, _, rfl, hfv, opds_rel hρ c.args⟩
  generalize hks : foot m (.yv k :: c.args.toList.map (opd ρ)) = ks at h
  unfold ccall at h
  rw [hks] at h
  have hn : ks.Nodup := hks ▸ foot_nodup _ _
  have hl : ∀ k ∈ ks, k < m.length := hks ▸ foot_lt _ _
  obtain ⟨l, crest, f', tmps, x, y, hca, hrun, hround⟩ := hY _ _ _ (Ecut E ks) w (#[a.eval f] ++ c.args.map a.eval) (hS.cut' hn) (hargs.cut ks) h
  have hca2 : a.eval f = .func (.yield l) #[] #[] ∧ c.args.map a.eval = crest := by
    have := congrArg Array.toList hca
    simp only [Array.toList_append, List.cons_append, List.nil_append, List.cons.injEq] at this
    exact ⟨this.1, Array.ext' this.2⟩
  obtain ⟨hl1, hl2⟩ := hca2
  have hexec : (execOp a.eval o).run P w = .ok (.round l f' tmps x y) w := by
    rw [← hrun]
    simp only [execOp, ho, resolve, hf, hl1, hl2, Deferred.ofValue, invoke, Sem.run_bind, Sem.run_pure, Result.andThen_ok, Array.empty_append, Array.append_empty]
    try rfl
  refine ⟨fun f _ => trivial, ?_⟩
  rw [Oper.semAt_eq _ _ _ (fun c' hc' => by rw [ho] at hc'; cases hc'), hexec, Oper.uponIn_round]
  refine ⟨fun hh => (by cases hh), RoundIn.mono (R := Ret _ (Ecut E ks) _ w) ⟨trivial, fun c cs hroom => hround.2 c cs (fun d hd => by cases hd)⟩ fun e w' he => ?_⟩
  cases e with
  | panicked ch =>
    obtain ⟨p, c, mf, E1, rfl, hK, hst, hr⟩ := he
    simp only [V.ren, retK, noP] at hK
  | outgrown => exact he.elim
  | returned cv =>
    obtain ⟨v, mf, E1, hK, hst, hr⟩ := he
    have hv' := hr.ren (E' := Eback E ks m.length E1) (fun k _ j hj e he => backN_ok hn hl k j hj e he)
    exact ⟨cv, _, _, _, _, Eback E ks m.length E1, rfl, retK_of hK hv', hst.back hS hn hl, hv', dropE_rel hS hn hst hρ, hag.dropE _⟩
theorem methV_run [Pins] {t : TypeId} {nm : String} {g : FuncId} (h : methV P t nm = some g) (v : Value) (w : World) : (method (P.types.size + Made.depth) t v nm).run P w = .ok (g, v) w := by
  obtain ⟨n, hn⟩ : ∃ n, P.types.size + Made.depth = n + 1 := ⟨P.types.size + Made.depth - 1, by unfold Made.depth; omega⟩
  rw [hn]
  unfold methV at h
  split at h
  · rename_i i hi
    split at h
    · rename_i m hm
      split at h
      · rename_i g' pr hp hf
        have hp' : m.path = #[] := by cases hq : m.path; simp_all
        have hfd : i.methods.find? (fun m => m.name == nm) = some m := by rw [← Array.find?_toList]; exact hm
        split at h
        · rename_i e hu
          cases h
          simp [method, typeInfo, hi, hfd, hp', follow, hf, receiverAt, run_underlying hu, Place.get]
        · cases h
        · rename_i d hne hu
          cases h
          simp [method, typeInfo, hi, hfd, hp', follow, hf, receiverAt, Place.get]
          cases hd : d <;> simp_all [run_underlying hu]
        · cases h
      · cases h
    · cases h
  · cases h
theorem cinv_sound [Pins] (hN : Named P) (hC : CallsOk P C) (hS : Sim E m w) (hρ : ERel E ρr a.tmps.toList) (hag : Agree U ρ ρr) {o : Oper} (hx : ∀ x ∈ o.op.operands, opd ρ x = opd ρr x) {c : Call} (ho : o.op = .call c) {r : Operand} {nm : String} (hf : c.callee = .invoke r nm) {g : FuncId} {t : TypeId} {v : V}
    (hv : opd ρ r = .ifc t v) (hg : methV P t nm = some g) {K : V → Env → Mem → Prop} (h : ccall C g (v :: c.args.toList.map (opd ρ)) ρ m (retK KP K)) (Q : Exit → Act → World → Prop) (hP : PanQ KP U E m w a Q) : o.wp P a w (Aft o a U K E m w) Q := by
  have hfv := opd_rel (a := a) hρ r
  rw [← hx r (by simp [ho, Op.operands, Call.operands, hf]), hv] at hfv
  simp only [VRel] at hfv
  obtain ⟨c', hrc, hvc⟩ := hfv
  have hargs : VsRel E (v :: c.args.toList.map (opd ρ)) (#[c'] ++ c.args.map a.eval).toList := by
    rw [Array.toList_append]
    rw [List.map_congr_left (f := opd ρ) (g := opd ρr) (l := c.args.toList) fun z hz => hx z (by simp [ho, Op.operands, Call.operands, Array.mem_toList_iff.1 hz])]
    simp only [VsRel]
    exact ⟨c', _, rfl, hvc, opds_rel hρ c.args⟩
  generalize hks : foot m (v :: c.args.toList.map (opd ρ)) = ks at h
  unfold ccall at h
  rw [hks] at h
  have hn : ks.Nodup := hks ▸ foot_nodup _ _
  have hl : ∀ k ∈ ks, k < m.length := hks ▸ foot_lt _ _
  have hext : (#[Value.iface t c'] ++ c.args.map a.eval).extract 1 (#[Value.iface t c'] ++ c.args.map a.eval).size = c.args.map a.eval := by
    apply Array.ext'; simp only [Array.toList_extract, Array.toList_append, Array.toList_map, List.extract_eq_take_drop, List.cons_append, List.nil_append, List.drop_succ_cons, List.drop_zero]
    exact List.take_of_length_le (by simp)
  have h0 : (#[Value.iface t c'] ++ c.args.map a.eval)[0]? = some (.iface t c') := by rw [← Array.getElem?_toList, Array.toList_append]; rfl
  rcases hC g _ _ _ (Ecut E ks) w (#[c'] ++ c.args.map a.eval) (hS.cut' hn) (hargs.cut ks) h with ⟨⟨fn, hfn, hbody⟩, hcalls⟩ | ⟨cv, w', hcf, hret⟩
  · have hrun : (execOp a.eval o).run P w = .ok (.enter g (#[c'] ++ c.args.map a.eval)) w := by
      have hb : fn.body.isNone = false := by cases hfb : fn.body <;> simp_all
      have hnm := hN g fn hfn
      simp only [execOp, ho, resolve, hf, hrc, invoke, Sem.run_bind, Sem.run_pure, Result.andThen_ok, h0, hext, callMethod, run_program, methV_run hg, callFunc, hfn, hnm, hb, Bool.false_eq_true, if_false]
    unfold Oper.wp
    rw [hrun, Oper.upon_enter]
    refine Calls.mono hcalls fun e w' he => ?_
    cases e with
    | panicked ch =>
      obtain ⟨p, c, mf, E1, rfl, hK, hst, hr⟩ := he
      simp only [V.ren, retK] at hK
      exact hP _ _ _ _ (Eback E ks m.length E1) _ _ hK (hst.back hS hn hl) (hr.ren (fun k _ j hj e he => backN_ok hn hl k j hj e he)) (dropE_rel hS hn hst hρ) (hag.dropE _)
    | outgrown => exact he.elim
    | returned cv =>
      obtain ⟨v, mf, E1, hK, hst, hr⟩ := he
      have hv' := hr.ren (E' := Eback E ks m.length E1) (fun k _ j hj e he => backN_ok hn hl k j hj e he)
      exact ⟨cv, _, _, _, _, Eback E ks m.length E1, rfl, retK_of hK hv', hst.back hS hn hl, hv', dropE_rel hS hn hst hρ, hag.dropE _⟩
  · have hrun : (execOp a.eval o).run P w = .ok (.value cv) w' := by
      simp only [execOp, ho, resolve, hf, hrc, invoke, Sem.run_bind, Sem.run_pure, Result.andThen_ok, h0, hext, callMethod, run_program, methV_run hg, hcf]
    unfold Oper.wp
    rw [hrun, Oper.upon_value]
    obtain ⟨v, mf, E1, hK, hst, hr⟩ := hret
    have hv' := hr.ren (E' := Eback E ks m.length E1) (fun k _ j hj e he => backN_ok hn hl k j hj e he)
    exact ⟨cv, _, _, _, _, Eback E ks m.length E1, rfl, retK_of hK hv', hst.back hS hn hl, hv', dropE_rel hS hn hst hρ, hag.dropE _⟩
theorem refine_same [Pins] {ρ : Env} {x : Operand} {b : Bool} (h : opd ρ x = .B b) : refine x b ρ = ρ := by
  unfold refine
  split
  · rename_i d
    simp only [opd] at h
    rw [← h, Tr.set_get]
  · rfl
theorem casesI_spec [Pins] {f : Nat → Prop} {i : Int} : ∀ {n : Nat}, casesI f i n → ∃ j, j < n ∧ i = (j : Int) ∧ f j
  | 0, h => by simp [casesI] at h
  | n + 1, h => by
    simp only [casesI] at h
    split at h
    · rename_i hb; exact ⟨n, by omega, by simpa using hb, h⟩
    · obtain ⟨j, h1, h2, h3⟩ := casesI_spec h; exact ⟨j, by omega, h2, h3⟩
theorem casesI_of [Pins] {f : Nat → Prop} {j : Nat} (h : f j) : ∀ {n : Nat}, j < n → casesI f (j : Int) n
  | 0, hj => by omega
  | n + 1, hj => by
    simp only [casesI]
    by_cases hjn : j = n
    · subst hjn; simp; exact h
    · have : (((j : Nat) : Int) == (n : Int)) = false := by simp; omega
      rw [this]
      exact casesI_of h (by omega)
theorem sop_index [Pins] {o : Oper} {t : TypeId} {x ix : Operand} (ho : o.op = .index t x ix) : sop P o ρ m = sop0 P o ρ m := by
  have hx : ∀ vs, xop P o vs m = none := fun vs => by simp [xop, xmap, ho]
  unfold sop
  rw [hx]
  cases sop0 P o ρ m <;> rfl
theorem cindex_csop [Pins] {o : Oper} {K : V → Env → Mem → Prop} {t : TypeId} {x ix : Operand} (ho : o.op = .index t x ix)
    (h : (match P.underlying t, opd ρ x, opd ρ ix with
     | some (.array n e), .agg vs, .I _ i =>
       (match isAggT P e, sizeT P e with
        | some true, some sz => if vs.length = n * sz then casesI (fun j => K (.agg ((vs.drop (j * sz)).take sz)) ρ m) i n else False
        | _, _ => csop P o ρ m K)
     | _, _, _ => csop P o ρ m K)) : csop P o ρ m K := by
  split at h
  · rename_i n e vs kk i hu hvx hvi
    split at h
    · rename_i sz ha hs
      split at h
      · rename_i hl
        obtain ⟨j, hj, hij, hk⟩ := casesI_spec h
        have hsop : sop P o ρ m = some (true, .agg ((vs.drop (j * sz)).take sz), ρ, m) := by
          subst hij
          have hjn : ((j : Int) < (n : Int)) := by omega
          rw [sop_index ho]
          unfold sop0
          simp only [ho, hvi, hvx, idxV, hu, hs, ha, hl, okC]
          simp [hjn]
        unfold csop
        rw [hsop]
        exact hk
      · cases h
    · exact h
  · exact h
theorem csop_cindex [Pins] {o : Oper} {K : V → Env → Mem → Prop} {t : TypeId} {x ix : Operand} (ho : o.op = .index t x ix) (h : csop P o ρ m K) :
    (match P.underlying t, opd ρ x, opd ρ ix with
     | some (.array n e), .agg vs, .I _ i =>
       (match isAggT P e, sizeT P e with
        | some true, some sz => if vs.length = n * sz then casesI (fun j => K (.agg ((vs.drop (j * sz)).take sz)) ρ m) i n else False
        | _, _ => csop P o ρ m K)
     | _, _, _ => csop P o ρ m K) := by
  split
  · rename_i n e vs kk i hu hvx hvi
    split
    · rename_i sz ha hs
      unfold csop at h
      rw [sop_index ho] at h
      unfold sop0 at h
      simp only [ho, hvi, hvx, idxV, hu, hs, ha] at h
      split at h
      · rename_i c v ρ' m' heq
        cases c with
        | false => cases h
        | true =>
          by_cases hl : vs.length = n * sz
          · rw [if_pos hl]
            rw [if_pos hl] at heq
            simp only [okC, Option.some.injEq, Prod.mk.injEq, Bool.and_eq_true, decide_eq_true_eq] at heq
            obtain ⟨⟨h1, h2⟩, rfl, rfl, rfl⟩ := heq
            obtain ⟨j, rfl⟩ : ∃ j : Nat, i = (j : Int) := ⟨i.toNat, by omega⟩
            exact casesI_of (by simpa using h) (by omega)
          · rw [if_neg hl] at heq
            simp [okC] at heq
      · cases h
    · exact h
  · exact h
theorem lookK_spec [Pins] {f : V → Bool → Prop} {k z : V} : ∀ {es : List (V × V)} {i : Nat}, lookK f k z es → (findV k es i = some none ∧ f z false) ∨ ∃ j p, findV k es i = some (some (i + j)) ∧ es[j]? = some p ∧ f p.2 true
  | [], i, h => .inl ⟨rfl, h⟩
  | e :: es, i, h => by
    simp only [lookK] at h
    split at h
    · rename_i b hb
      split at h
      · exact .inr ⟨0, e, by simp [findV, hb], rfl, h⟩
      · rcases lookK_spec (i := i + 1) h with ⟨h1, h2⟩ | ⟨j, p, h1, h2, h3⟩
        · exact .inl ⟨by simp [findV, hb, h1], h2⟩
        · exact .inr ⟨j + 1, p, by simp only [findV, hb, h1]; congr 2; omega, by simpa using h2, h3⟩
    · exact h.elim
theorem keyOkP_flat [Pins] {d : TypeDesc} {k : V} (h : ∀ vs, k ≠ .agg vs) : keyOkP P d k = keyOk d k := by
  unfold keyOkP
  split
  · exact absurd rfl (h _)
  · rfl
theorem findP_flat [Pins] {kt : TypeId} {k : V} (h : ∀ vs, k ≠ .agg vs) {es : List (V × V)} : findP P kt k es = findV k es 0 := by
  unfold findP
  split
  · exact absurd rfl (h _)
  · rfl
theorem sop_lookup [Pins] {o : Oper} {t : TypeId} {x ix : Operand} {ok : Bool} (ho : o.op = .lookup t x ix ok) : sop P o ρ m = (match lookupV P t ok m (opd ρ x) (opd ρ ix) with | some v => some (true, v, ρ, m) | none => none) := by
  have h0 : sop0 P o ρ m = none := by unfold sop0; simp only [ho]
  unfold sop
  rw [h0]
  simp only [xop, xmap, ho, Op.operands, List.map_cons, List.map_nil]
  cases lookupV P t ok m (opd ρ x) (opd ρ ix) <;> rfl
theorem clook_csop [Pins] {o : Oper} {K : V → Env → Mem → Prop} {t : TypeId} {x ix : Operand} {ok : Bool} (ho : o.op = .lookup t x ix ok)
    (hk0 : ∀ vs, opd ρ ix ≠ .agg vs) (h : (match P.underlying t with
     | some (.map kt et) =>
       (match P.underlying kt, zeroM P et, entriesV m (opd ρ x) with
        | some d, some z, some es => (match keyOk d (opd ρ ix) with | true => lookK (fun v b => K (gotV ok v b) ρ m) (opd ρ ix) z es | false => False)
        | _, _, _ => False)
     | _ => False)) : csop P o ρ m K := by
  unfold csop
  rw [sop_lookup ho]
  unfold lookupV
  simp only [keyOkP_flat hk0, findP_flat hk0]
  split at h
  · rename_i kt et hu
    split at h
    · rename_i d z es hd hz hes
      split at h
      · rename_i hk
        rcases lookK_spec (i := 0) h with ⟨h1, h2⟩ | ⟨j, p, h1, h2, h3⟩
        · simp only [hu, hd, hz, hes, hk, h1]; exact h2
        · rw [Nat.zero_add] at h1
          simp only [hu, hd, hz, hes, hk, h1, h2]; exact h3
      · exact h.elim
    · exact h.elim
  · exact h.elim
theorem lookK_of [Pins] {f : V → Bool → Prop} {k z : V} : ∀ {es : List (V × V)} {i : Nat}, (findV k es i = some none ∧ f z false) ∨ (∃ j p, findV k es i = some (some (i + j)) ∧ es[j]? = some p ∧ f p.2 true) → lookK f k z es
  | [], i, h => by
    rcases h with ⟨_, h⟩ | ⟨j, p, h, _, _⟩
    · exact h
    · simp [findV] at h
  | e :: es, i, h => by
    simp only [lookK]
    rcases h with ⟨h, hf⟩ | ⟨j, p, h, hp, hf⟩
    · simp only [findV] at h
      split at h
      · rename_i b hb
        split at h
        · cases h
        · exact lookK_of (i := i + 1) (.inl ⟨h, hf⟩)
      · cases h
    · simp only [findV] at h
      split at h
      · rename_i b hb
        split at h
        · simp only [Option.some.injEq] at h
          obtain rfl : j = 0 := by omega
          simp at hp; subst hp; exact hf
        · cases j with
          | zero =>
            exfalso
            have hge : ∀ (es : List (V × V)) (i n : Nat), findV k es i = some (some n) → i ≤ n := by
              intro es
              induction es with
              | nil => intro i n hh; simp [findV] at hh
              | cons a l ih =>
                intro i n hh
                simp only [findV] at hh
                split at hh
                · split at hh
                  · simp at hh; omega
                  · have := ih _ _ hh; omega
                · cases hh
            have := hge _ _ _ h
            omega
          | succ j =>
            refine lookK_of (i := i + 1) (.inr ⟨j, p, ?_, by simpa using hp, hf⟩)
            rw [h]; congr 2; omega
      · cases h
theorem csop_clook [Pins] {o : Oper} {K : V → Env → Mem → Prop} {t : TypeId} {x ix : Operand} {ok : Bool} (ho : o.op = .lookup t x ix ok) (hk0 : ∀ vs, opd ρ ix ≠ .agg vs) (h : csop P o ρ m K) :
    (match P.underlying t with
     | some (.map kt et) =>
       (match P.underlying kt, zeroM P et, entriesV m (opd ρ x) with
        | some d, some z, some es => (match keyOk d (opd ρ ix) with | true => lookK (fun v b => K (gotV ok v b) ρ m) (opd ρ ix) z es | false => False)
        | _, _, _ => False)
     | _ => False) := by
  unfold csop at h
  rw [sop_lookup ho] at h
  split at h
  · rename_i c v ρ' m' heq
    split at heq
    · rename_i v' hv
      simp only [Option.some.injEq, Prod.mk.injEq] at heq
      obtain ⟨rfl, rfl, rfl, rfl⟩ := heq
      simp only at h
      unfold lookupV at hv
      simp only [keyOkP_flat hk0, findP_flat hk0] at hv
      split at hv
      · rename_i kt et hu
        split at hv
        · rename_i d z es hd hz hes
          split at hv
          · rename_i hk hf
            cases hv
            simp only [hu, hd, hz, hes, hk]
            exact lookK_of (f := fun v b => K (gotV ok v b) ρ m) (i := 0) (.inl ⟨hf, h⟩)
          · rename_i j hk hf
            split at hv
            · rename_i p hp
              cases hv
              simp only [hu, hd, hz, hes, hk]
              exact lookK_of (f := fun v b => K (gotV ok v b) ρ m) (i := 0) (.inr ⟨j, p, by rw [hf]; congr 2; omega, hp, h⟩)
            · cases hv
          · cases hv
        · cases hv
      · cases hv
    · cases heq
  · cases h
theorem allN_spec [Pins] {f : Nat → Prop} : ∀ {l : List Nat}, allN f l → ∀ i ∈ l, f i
  | [], _, i, hi => by cases hi
  | [j], h, i, hi => by simp at hi; subst hi; exact h
  | j :: j' :: l, h, i, hi => by
    rcases List.mem_cons.1 hi with rfl | hi
    · exact h.1
    · exact allN_spec (l := j' :: l) h.2 i hi
theorem Sim.drew [Pins] (hS : Sim E m w) : Sim E m w.drew :=
  ⟨fun k e he => by
    obtain ⟨b, h1, h2⟩ := hS.blk k e he
    exact ⟨b, h1, ⟨h2.nc, h2.rows, h2.len, h2.cells, h2.own, h2.lt, h2.room, h2.max, h2.mo⟩⟩, hS.apart, hS.tab⟩
theorem Step.drew [Pins] (hS : Sim E m w) : Step E m w E m w.drew :=
  ⟨hS.drew, rfl, rfl, rfl, Nat.le_refl _, fun _ _ _ => rfl, fun _ h _ => h, Nat.le_refl _, fun k e he hc _ => ⟨k, e, he, hc, rfl⟩, fun k e he => by
    obtain ⟨b, hb, _⟩ := hS.blk k e he
    exact ⟨e, b, b, hb, hb, he, id, id, fun _ => rfl⟩, fun _ _ h0 => h0⟩
theorem mem_leftN [Pins] {n i : Nat} {seen : List Nat} : i ∈ leftN n seen ↔ i < n ∧ i ∉ seen := by
  unfold leftN
  rw [List.mem_filter, List.mem_range, Bool.not_eq_true', ← Bool.not_eq_true, mem?_iff]
theorem cnext_sound [Pins] (hS : Sim E m w) {t : TypeId} {x : V} {cx : Value} (hx : VRel E x cx) {K : V → Mem → Prop} (h : cnext m x K) :
    ∃ v m' cv w', K v m' ∧ (Instr.next cx false t).run P w = .ok cv w' ∧ Step E m w E m' w' ∧ VRel E v cv := by
  unfold cnext at h
  split at h
  · rename_i r
    simp only [VRel] at hx
    obtain ⟨er, hr, rfl⟩ := hx
    split at h
    · rename_i j n seen last hro hsp
      obtain ⟨hcr, ob, hob, hrel⟩ := sp_at hS hr hsp
      cases ob <;> simp only [SpRel] at hrel <;> first | exact hrel.elim | skip
      rename_i mm since sn l
      obtain ⟨⟨e, hj, rfl⟩, rfl, hsn, rfl⟩ := hrel
      split at h
      · rename_i es hmp
        split at h
        · rename_i hle
          simp only [Bool.and_eq_true] at hle
          have hn1 : es.length = since := Nat.eq_of_beq_eq_true hle.1
          have hn2 : l = since := Nat.eq_of_beq_eq_true hle.2
          obtain ⟨hcrj, ds, clock, hh, hm, hcl⟩ := map_at hS hj hmp
          have hlen : ds.size = since := by rw [← hn1, hm.1]; simp
          have hborn : ∀ i (hi : i < ds.size), (ds[i]).born = i := fun i hi => by
            have hne : i < es.length := by omega
            obtain ⟨q, g1, _, _, g4⟩ := hm.2 i es[i] (List.getElem?_eq_getElem hne)
            have : ds[i] = q := by have := (List.getElem?_eq_some_iff.1 g1).2; simpa using this
            rw [this, g4]
          have hold : ∀ y ∈ ds.toList, y.born < since := fun y hy => by
            obtain ⟨i, hi, rfl⟩ := List.getElem_of_mem hy
            have hi' : i < ds.size := by simpa using hi
            rw [Array.getElem_toList, hborn i hi']; omega
          have hmem : ∀ i (hi : i < ds.size), ds[i] ∈ (leftOf ds sn).toList ↔ i ∈ leftN since seen := fun i hi => by
            rw [mem_leftN]
            unfold leftOf
            simp only [Array.toList_filter, List.mem_filter, Bool.not_eq_true', hborn i hi, ← hsn]
            constructor
            · intro ⟨_, h2⟩
              exact ⟨by omega, fun h3 => by rw [Array.contains_iff_mem.2 (by simpa using h3)] at h2; cases h2⟩
            · intro ⟨_, h2⟩
              refine ⟨by simp, ?_⟩
              rw [← Bool.not_eq_true, Array.contains_iff_mem]
              simpa using h2
          rcases run_next_at (P := P) w t er.blk e.blk since l sn ds clock hob hh hold (by omega) with ⟨h0, hrun⟩ | ⟨y, hy, w1, hw1, hrun⟩
          · have hnil : leftN since seen = [] := by
              cases hl : leftN since seen with
              | nil => rfl
              | cons i l' =>
                exfalso
                have hi : i ∈ leftN since seen := by rw [hl]; simp
                have hi' : i < ds.size := by rw [hlen]; exact (mem_leftN.1 hi).1
                have := (hmem i hi').2 hi
                rw [Array.eq_empty_of_size_eq_zero h0] at this
                simp at this
            rw [hnil] at h
            exact ⟨_, _, _, _, h, hrun, Step.refl hS, by simp only [VRel]; exact ⟨_, rfl, by simp [VsRel, VRel]⟩⟩
          · have hyd : y ∈ ds.toList := by
              have : y ∈ (leftOf ds sn).toList := hy
              unfold leftOf at this
              rw [Array.toList_filter, List.mem_filter] at this
              exact this.1
            obtain ⟨i, hi, rfl⟩ := List.getElem_of_mem hyd
            have hi' : i < ds.size := by simpa using hi
            rw [Array.getElem_toList] at hy hrun
            have hil := (hmem i hi').1 hy
            obtain ⟨p, hp⟩ : ∃ p, es[i]? = some p := ⟨es[i]'(by omega), List.getElem?_eq_getElem _⟩
            have hk : K (.tup [.B true, p.1, p.2]) (m.set r ⟨[.it j since (seen ++ [i]) since], (m.getD r default).et, false, (m.getD r default).mv⟩) := by
              split at h
              · rename_i hl; rw [hl] at hil; cases hil
              · have := allN_spec h i hil
                rw [hp] at this
                exact this
            obtain ⟨q, g1, g2, g3, g4⟩ := hm.2 i p hp
            obtain rfl : ds[i] = q := by have := (List.getElem?_eq_some_iff.1 g1).2; simpa using this
            have hrel' : SpRel E (.it j since (seen ++ [i]) since) (.mapIter (some e.blk) since (sn.push (ds[i]).born) clock) := by
              simp only [SpRel]
              exact ⟨⟨e, hj, rfl⟩, trivial, by rw [Array.toList_push, hsn, hborn i hi'], by omega⟩
            have hst : Step E m w1 E (m.set r ⟨[.it j since (seen ++ [i]) since], (m.getD r default).et, false, (m.getD r default).mv⟩) (ChangeMaps.setBlock w1 er.blk (.mapIter (some e.blk) since (sn.push (ds[i]).born) clock)) := by
              rcases hw1 with rfl | rfl
              · exact sp_step hS hr hro hsp rfl hcr hrel'
              · exact sp_step hS.drew hr hro hsp rfl hcr hrel'
            have hst0 : Step E m w E m w1 := by
              rcases hw1 with rfl | rfl
              · exact Step.refl hS
              · exact Step.drew hS
            refine ⟨_, _, _, _, hk, hrun, hst0.trans hst, ?_⟩
            simp only [VRel]
            exact ⟨_, rfl, by simp only [VsRel, VRel]; exact ⟨_, _, rfl, rfl, _, _, rfl, g2, _, _, rfl, g3, rfl⟩⟩
        · exact h.elim
      · exact h.elim
    · exact h.elim
  · exact h.elim
theorem cop_sound [Pins] (hN : Named P) {r : Option Nat} {Y : YC} (hC : CallsOk P C) (hY : YieldsOk P Y) (hS : Sim E m w) (hρ : ERel E ρr a.tmps.toList) (hag : Agree U ρ ρr) {o : Oper} (hx : ∀ x ∈ o.op.operands, opd ρ x = opd ρr x) {K : V → Env → Mem → Prop} (h : cop P C Y KP o ρ m K) (Q : Exit → Act → World → Prop) (hP : PanQ KP U E m w a Q) : o.wpIn (FW r) 0 P a w (Aft o a U K E m w) Q := by
  unfold cop at h
  split at h
  · rename_i t x ix ho
    exact wpIn_of_wp (by rw [ho]; exact fun c hc => by cases hc) (csop_sound hS hρ hag hx (cindex_csop ho h) Q)
  · rename_i t x ix ok ho
    split at h
    · exact wpIn_of_wp (csop_nodefer h) (csop_sound hS hρ hag hx h Q)
    · rename_i hk0
      exact wpIn_of_wp (by rw [ho]; exact fun c hc => by cases hc) (csop_sound hS hρ hag hx (clook_csop ho (fun vs hh => hk0 vs hh) h) Q)
  · rename_i x ho
    have hxx := hx x (by simp [ho, Op.operands])
    obtain ⟨v, m', cv, w', hk, hr, hst, hv⟩ := cnext_sound (P := P) (t := o.type) hS (hxx ▸ opd_rel (a := a) hρ x) h
    refine wpIn_of_wp (by rw [ho]; exact fun c hc => by cases hc) ?_
    unfold Oper.wp
    simp only [execOp, ho, Sem.run_bind, hr, Result.andThen_ok, Sem.run_pure, Oper.upon_value]
    exact ⟨_, _, _, _, _, E, rfl, hk, hst, hv, hρ, hag⟩
  · rename_i x ho
    have hxx := hx x (by simp [ho, Op.operands])
    split at h
    · rename_i t v hv
      have hxr := opd_rel (a := a) hρ x
      rw [← hxx, hv] at hxr
      have hxr2 := hxr
      simp only [VRel] at hxr2
      obtain ⟨c', hxc, _⟩ := hxr2
      refine wpIn_of_wp (by rw [ho]; exact fun c hc => by cases hc) ?_
      unfold Oper.wp
      have hrun : (execOp a.eval o).run P w = .halt (.panic (.iface t c')) w := by
        simp [execOp, ho, hxc, Instr.panic, goPanic]
      rw [hrun, Oper.upon_panic]
      rw [hxc] at hxr
      exact hP _ _ _ _ _ _ _ h (Step.refl hS) hxr hρ hag
    · cases h
  · rename_i c x y ho
    have hxc := hx c (by simp [ho, Op.operands])
    have hxx := hx x (by simp [ho, Op.operands])
    have hxy := hx y (by simp [ho, Op.operands])
    split at h
    · rename_i t hc
      have hcr := opd_rel (a := a) hρ c
      rw [← hxc, hc] at hcr
      simp only [VRel] at hcr
      cases t with
      | true =>
        simp only [refine_same hc] at h
        refine wpIn_of_wp (by rw [ho]; exact fun c hc => by cases hc) ?_
        unfold Oper.wp
        simp only [execOp, ho, hcr, asBool, Sem.run_bind, Sem.run_pure, Result.andThen_ok, if_true, Oper.upon_value]
        exact ⟨_, _, _, _, _, E, rfl, h, Step.refl hS, hxx ▸ opd_rel hρ x, hρ, hag⟩
      | false =>
        simp only [refine_same hc] at h
        refine wpIn_of_wp (by rw [ho]; exact fun c hc => by cases hc) ?_
        unfold Oper.wp
        simp only [execOp, ho, hcr, asBool, Sem.run_bind, Sem.run_pure, Result.andThen_ok, Bool.false_eq_true, if_false, Oper.upon_value]
        exact ⟨_, _, _, _, _, E, rfl, h, Step.refl hS, hxy ▸ opd_rel hρ y, hρ, hag⟩
    · cases h
  · rename_i c ho
    split at h
    · rename_i f hf
      split at h
      · rename_i g first captured hv
        exact wpIn_of_wp (by rw [ho]; exact fun c hc => by cases hc) (ccall_sound hN hC hS hρ hag hx ho hf hv h Q hP)
      · rename_i k hv
        exact cyld_sound hY hS hρ hag hx ho hf hv h Q
      · cases h
    · rename_i r nm hf
      split at h
      · rename_i t v hv
        split at h
        · rename_i g hg
          exact wpIn_of_wp (by rw [ho]; exact fun c hc => by cases hc) (cinv_sound hN hC hS hρ hag hx ho hf hv hg h Q hP)
        · cases h
      · cases h
    · exact wpIn_of_wp (csop_nodefer h) (csop_sound hS hρ hag hx h Q)
  · exact wpIn_of_wp (csop_nodefer h) (csop_sound hS hρ hag hx h Q)
/-- The same without rounds, outside of a fence. -/
theorem cop_wp [Pins] (hN : Named P) (hC : CallsOk P C) (hS : Sim E m w) (hρ : ERel E ρr a.tmps.toList) (hag : Agree U ρ ρr) {o : Oper} (hx : ∀ x ∈ o.op.operands, opd ρ x = opd ρr x) {K : V → Env → Mem → Prop} (h : cop P C noY KP o ρ m K) (Q : Exit → Act → World → Prop) (hP : PanQ KP U E m w a Q) : o.wp P a w (Aft o a U K E m w) Q := by
  unfold cop at h
  split at h
  · rename_i t x ix ho
    exact csop_sound hS hρ hag hx (cindex_csop ho h) Q
  · rename_i t x ix ok ho
    split at h
    · exact csop_sound hS hρ hag hx h Q
    · rename_i hk0
      exact csop_sound hS hρ hag hx (clook_csop ho (fun vs hh => hk0 vs hh) h) Q
  · rename_i x ho
    have hxx := hx x (by simp [ho, Op.operands])
    obtain ⟨v, m', cv, w', hk, hr, hst, hv⟩ := cnext_sound (P := P) (t := o.type) hS (hxx ▸ opd_rel (a := a) hρ x) h
    unfold Oper.wp
    simp only [execOp, ho, Sem.run_bind, hr, Result.andThen_ok, Sem.run_pure, Oper.upon_value]
    exact ⟨_, _, _, _, _, E, rfl, hk, hst, hv, hρ, hag⟩
  · rename_i x ho
    have hxx := hx x (by simp [ho, Op.operands])
    split at h
    · rename_i t v hv
      have hxr := opd_rel (a := a) hρ x
      rw [← hxx, hv] at hxr
      have hxr2 := hxr
      simp only [VRel] at hxr2
      obtain ⟨c', hxc, _⟩ := hxr2
      unfold Oper.wp
      have hrun : (execOp a.eval o).run P w = .halt (.panic (.iface t c')) w := by
        simp [execOp, ho, hxc, Instr.panic, goPanic]
      rw [hrun, Oper.upon_panic]
      rw [hxc] at hxr
      exact hP _ _ _ _ _ _ _ h (Step.refl hS) hxr hρ hag
    · cases h
  · rename_i c x y ho
    have hxc := hx c (by simp [ho, Op.operands])
    have hxx := hx x (by simp [ho, Op.operands])
    have hxy := hx y (by simp [ho, Op.operands])
    split at h
    · rename_i t hc
      have hcr := opd_rel (a := a) hρ c
      rw [← hxc, hc] at hcr
      simp only [VRel] at hcr
      cases t with
      | true =>
        simp only [refine_same hc] at h
        unfold Oper.wp
        simp only [execOp, ho, hcr, asBool, Sem.run_bind, Sem.run_pure, Result.andThen_ok, if_true, Oper.upon_value]
        exact ⟨_, _, _, _, _, E, rfl, h, Step.refl hS, hxx ▸ opd_rel hρ x, hρ, hag⟩
      | false =>
        simp only [refine_same hc] at h
        unfold Oper.wp
        simp only [execOp, ho, hcr, asBool, Sem.run_bind, Sem.run_pure, Result.andThen_ok, Bool.false_eq_true, if_false, Oper.upon_value]
        exact ⟨_, _, _, _, _, E, rfl, h, Step.refl hS, hxy ▸ opd_rel hρ y, hρ, hag⟩
    · cases h
  · rename_i c ho
    split at h
    · rename_i f hf
      split at h
      · rename_i g first captured hv
        exact ccall_sound hN hC hS hρ hag hx ho hf hv h Q hP
      · exact h.elim
      · cases h
    · rename_i r nm hf
      split at h
      · rename_i t v hv
        split at h
        · rename_i g hg
          exact cinv_sound hN hC hS hρ hag hx ho hf hv hg h Q hP
        · cases h
      · cases h
    · exact csop_sound hS hρ hag hx h Q
  · exact csop_sound hS hρ hag hx h Q
theorem refine_slot [Pins] {d : Tmp} {b : Bool} (h : ρ.get d = .B b) : ρ.set d (.B b) = ρ := refine_same (x := .tmp d) (b := b) (by simpa [opd] using h)
/-- A guard as the evaluator reads it. -/
theorem cguard_cases [Pins] {all : List Oper} {o : Oper} {yes no : Env → Prop} (h : cguard all o ρ yes no) : (wantV all o ρ = some true ∧ yes ρ) ∨ (wantV all o ρ = some false ∧ no ρ) := by
  unfold cguard at h
  unfold wantV
  cases hg : o.guard with
  | none => rw [hg] at h; exact .inl ⟨rfl, h⟩
  | some jw =>
    obtain ⟨j, want⟩ := jw
    rw [hg] at h
    simp only at h ⊢
    cases hs : slotOf all j with
    | none => rw [hs] at h; exact .inr ⟨rfl, h⟩
    | some d =>
      rw [hs] at h
      simp only at h ⊢
      generalize hx : ρ.get d = x at h
      cases x with
      | B x =>
        cases x with
        | true =>
          simp only [refine_slot hx] at h
          cases want with
          | true => exact .inl ⟨rfl, h⟩
          | false => exact .inr ⟨rfl, h⟩
        | false =>
          simp only [refine_slot hx] at h
          cases want with
          | true => exact .inr ⟨rfl, h⟩
          | false => exact .inl ⟨rfl, h⟩
      | tup vs =>
        cases vs with
        | nil => exact .inr ⟨rfl, h⟩
        | cons _ _ => cases h
      | _ => cases h
theorem wantV_rel [Pins] (hρ : ERel E ρ a.tmps.toList) {ops : Array Oper} {o : Oper} {b : Bool} (h : wantV ops.toList o ρ = some b) : Region.wanted o (yielded ops a.tmps) = b := by
  unfold wantV at h
  unfold Region.wanted
  split at h
  · rename_i hg; rw [hg]; cases h; rfl
  · rename_i j want hg
    rw [hg]
    simp only
    have hslot : slotOf ops.toList j = (ops[j]?).bind (·.dst) := by
      unfold slotOf
      rw [Array.getElem?_toList]
      cases ops[j]? <;> rfl
    unfold yielded
    split at h
    · rename_i hs
      rw [hslot] at hs
      rw [hs]
      cases h
      rfl
    · rename_i d hs
      rw [hslot] at hs
      rw [hs]
      simp only [Option.bind_some]
      have key : ∀ v, ρ.get d = v → v ≠ .undef → ∃ c, a.tmps[d]? = some c ∧ VRel E v c := by
        intro v hv hne
        obtain ⟨c, hc, hr⟩ := hρ d v (Tr.get_set_self hv hne)
        exact ⟨c, by simpa using hc, hr⟩
      split at h
      · rename_i hx
        obtain ⟨c, hc, hr⟩ := key _ hx (by simp)
        simp only [VRel] at hr
        rw [hc, hr]
        cases h
        cases b <;> rfl
      · rename_i hx
        obtain ⟨c, hc, hr⟩ := key _ hx (by simp)
        simp only [VRel] at hr
        rw [hc, hr]
        cases h
        cases want <;> rfl
      · rename_i hx
        obtain ⟨c, hc, hr⟩ := key _ hx (by simp)
        simp only [VRel, VsRel] at hr
        obtain ⟨cs, rfl, _⟩ := hr
        rw [hc]
        cases h
        rfl
      · cases h
theorem put_rel [Pins] {o : Oper} {v : V} {cv : Value} (hρ : ERel E ρ a.tmps.toList) (hv : VRel E v cv) : ERel E (put o.dst v ρ) (a.put o.dst cv).tmps.toList := by
  cases hd : o.dst with
  | none => simpa [put, Act.put] using hρ
  | some d =>
    simp only [put, Act.put, Array.toList_setIfInBounds]
    exact ERel.set hv hρ d
theorem put_defers [Pins] (a : Act) (x : Option Tmp) (v : Value) : (a.put x v).defers = a.defers := by cases x <;> rfl
theorem cops_sound [Pins] (hN : Named P) {r : Option Nat} {Y : YC} (hC : CallsOk P C) (hY : YieldsOk P Y) {ops : Array Oper} {J : Act → Prop} (K : Env → Mem → Prop) (Q : Exit → Act → World → Prop) : ∀ (l : List Oper) (ρ : Env) (m : Mem) (E : Wh) (a : Act) (w : World),
    (∀ o ∈ l, ∀ a v, J a → J (a.put o.dst v)) → J a → Sim E m w → ERel E ρ a.tmps.toList → cops P C Y KP ops.toList l ρ m K →
    (∀ ρ' m' E' a' w', K ρ' m' → Step E m w E' m' w' → ERel E' ρ' a'.tmps.toList → J a' → Q .normal a' w') →
    (∀ p ρ' m' E' a' w' c, KP p ρ' m' → Step E m w E' m' w' → VRel E' p c → ERel E' ρ' a'.tmps.toList → J a' → Q (.panic [{ v := c, recovered := false }]) a' w') → wpListIn (FW r) 0 P ops Q l a w
  | [], ρ, m, E, a, w, hJ, hj, hS, hρ, h, hQ, hP => wpListIn_nil (hQ ρ m E a w h (Step.refl hS) hρ hj)
  | o :: os, ρ, m, E, a, w, hJ, hj, hS, hρ, h, hQ, hP => by
    simp only [cops, cstep] at h
    have hJ' : ∀ o ∈ os, ∀ a v, J a → J (a.put o.dst v) := fun o ho => hJ o (List.mem_cons_of_mem _ ho)
    refine wpListIn_step fun K' hK' => ?_
    rcases cguard_cases h with ⟨hw, h⟩ | ⟨hw, h⟩
    · rw [if_pos (wantV_rel hρ hw)]
      refine Oper.wpIn_mono (fun a' w' ha => ?_) (cop_sound (U := fun _ => False) hN hC hY hS hρ (Agree.refl _ _) (fun _ _ => rfl) h Q (fun p ρ' ρr' m' E' w' c hk hst hv hρ' hag => by obtain rfl := hag.eq; exact hP p _ m' E' a w' c hk hst hv hρ' hj))
      obtain ⟨cv, v, ρ', ρr', m', E', rfl, hk, hst, hv, hρ', hag⟩ := ha
      obtain rfl := hag.eq
      exact hK' _ _ (cops_sound hN hC hY K Q os _ m' E' _ w' hJ' (hJ o (by simp) _ _ hj) hst.sim (put_rel hρ' hv) hk (fun ρ2 m2 E2 a2 w2 hk2 hst2 hρ2 hd2 =>
        hQ ρ2 m2 E2 a2 w2 hk2 (hst.trans hst2) hρ2 hd2) (fun p ρ2 m2 E2 a2 w2 c hk2 hst2 hv2 hρ2 hd2 => hP p ρ2 m2 E2 a2 w2 c hk2 (hst.trans hst2) hv2 hρ2 hd2))
    · rw [if_neg (by rw [wantV_rel hρ hw]; simp)]
      exact ⟨fun f _ => trivial, hK' _ _ (cops_sound hN hC hY K Q os _ m E _ w hJ' (hJ o (by simp) _ _ hj) hS (put_rel (cv := undef) hρ (by simp [VRel, VsRel, undef])) h (fun ρ2 m2 E2 a2 w2 hk2 hst2 hρ2 hd2 =>
        hQ ρ2 m2 E2 a2 w2 hk2 hst2 hρ2 hd2) hP)⟩
theorem set_own {α : Type} (cs : List α) (t : Nat) (d : α) : cs.set t (cs.getD t d) = cs := by
  by_cases ht : t < cs.length
  · rw [List.getD_eq_getElem?_getD, List.getElem?_eq_getElem ht]; simp
  · exact List.set_eq_of_length_le (by omega)
theorem look_undefs : ∀ (ds : List Tmp) (ρ : Env) (i : Nat), (undefs ds ρ).look i = if i ∈ ds then (ρ.look i).map (fun _ => V.undef) else ρ.look i
  | [], ρ, i => by simp [undefs]
  | d :: ds, ρ, i => by
    rw [undefs, look_undefs ds, Tr.look_set]
    by_cases h1 : d = i
    · subst h1
      cases ρ.look d <;> simp
    · have : i ≠ d := fun h => h1 h.symm
      simp [h1, this]
theorem undefs_agree [Pins] {ds : List Tmp} {ρ ρ' : Env} (h : Agree (· ∈ ds) ρ ρ') : undefs ds ρ' = undefs ds ρ := by
  refine Tr.ext fun i => ?_
  rw [look_undefs, look_undefs]
  split
  · have := h.1 i
    cases h1 : ρ'.look i <;> cases h2 : ρ.look i <;> simp_all
  · rename_i hi; exact h.2 i hi
theorem undefs_rel [Pins] {E : Wh} {cs : List Value} : ∀ {ds : List Tmp} {ρ : Env}, ERel E ρ cs → ERel E (undefs ds ρ) cs
  | [], _, h => h
  | d :: ds, ρ, h => by
    refine undefs_rel (ds := ds) ?_
    have := ERel.set (v := .undef) (c := cs.getD d undef) (by simp [VRel]) h d
    rwa [set_own] at this
end
end Go.Ab
