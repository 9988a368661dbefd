/- Functions with one deferred call: what runs at their end, where nothing has panicked. -/
import Derived.Test.YtalikdlmmhblkaaGreatAbBody
import Derived.Defers
import Derived.Recover
set_option linter.unusedSimpArgs false
set_option linter.unusedVariables false
namespace Go.Ab
open Go

def isRecover (o : Oper) : Bool := match o.op with | .call c => (match c.callee with | .builtin .recover => true | _ => false) | _ => false
section
variable (P : Program) (C : CC)
/-- A list of operations of a deferred function: whose caller returns, so that 'recover' answers nil. -/
def copsR (all : List Oper) : List Oper → Env → Mem → (Env → Mem → Prop) → Prop
  | [], ρ, m, K => K ρ m
  | o :: os, ρ, m, K =>
    match isRecover o with
    | true => (match o.guard with | none => copsR all os (put o.dst .nili ρ) m K | some _ => False)
    | false => cstep P C noY all o ρ m fun ρ m => copsR all os ρ m K
def cexecR (a n : Nat) : Code → Env → Mem → (Ex → Env → Mem → Prop) → Prop
  | .seq x y, ρ, m, K => cexecR a n x ρ m fun e ρ m => match e with | .normal => cexecR a n y ρ m K | e => K e ρ m
  | .cond c x y, ρ, m, K =>
    (match opd ρ c with
     | .B t => (match t with | true => cexecR a n x ρ m K | false => cexecR a n y ρ m K)
     | _ => False)
  | .region id ops draw, ρ, m, K =>
    (match draw with
     | false => copsR P C ops.toList ops.toList ρ m fun ρ m => K .normal ρ m
     | true => cexec P C noY (fun _ => none) a n (.region id ops true) ρ m K)
  | c, ρ, m, K => cexec P C noY (fun _ => none) a n c ρ m K
/-- A deferred function. -/
def cdef (n : Nat) : CC := fun g args m K =>
  match P.funcs[g]? with
  | some fn =>
    (match fn.body with
     | some c => cexecR P C m.length n c (Tr.puts 0 args (Tr.full (.tup []) (max fn.ntmps args.length) (max fn.ntmps args.length))) m (kbody P m.length fn K)
     | none => False)
  | none => False
/-- Does no operation of the code write this temporary? -/
def keepsT (t : Tmp) (c : Code) : Bool := (codeOps c).all fun o => match o.dst with | some d => !Nat.beq d t | none => true
/-- 'defer f()' in the two operations of a region: the other one, and where f stands. -/
def deferOf : List Oper → Option (Oper × Tmp)
  | [o1, o2] =>
    (match o2.op, o2.guard, o2.dst with
     | .defer c, none, none =>
       (match c.callee, c.args.toList with
        | .value (.tmp t), [] => some (o1, t)
        | _, _ => none)
     | _, _, _ => none)
  | _ => none
/-- A body of the form: something; one 'defer'; the rest. -/
def cbodyD (W : Masks) (n : Nat) (fn : Func) (args : List V) (m : Mem) (K : V → Mem → Prop) : Prop :=
  match fn.body with
  | some (.seq A (.seq (.region _ ops false) B)) =>
    (match deferOf ops.toList with
     | some (o1, t) =>
       (match keepsT t B with
        | true =>
          cexec P C noY W m.length n A (Tr.puts 0 args (Tr.full (.tup []) (max fn.ntmps args.length) (max fn.ntmps args.length))) m fun e ρ m1 =>
            (match e with
             | .normal => cstep P C noY ops.toList o1 ρ m1 fun ρ m1 =>
                 (match ρ.get t with
                  | .fn (.func _) _ _ =>
                    cexec P C noY W m.length n B ρ m1 fun e ρ m2 =>
                      (match e with
                       | .exit _ => False
                       | _ =>
                         match ρ.get t with
                         | .fn (.func g) first captured => ccall (cdef P C n) g (first ++ captured) ρ m2 fun _ ρ m3 => kbody P m.length fn K .ret ρ m3
                         | _ => False)
                  | _ => False)
             | _ => False)
        | false => False)
     | none => False)
  | _ => False
end
section
variable {P : Program} {C : CC} {E0 : Wh} {m0 : Mem} {w0 : World}
/-- What comes behind code of a deferred function. -/
def AfterS [Pins] (E0 : Wh) (m0 : Mem) (w0 : World) (cs : List Frame) (K : Ex → Env → Mem → Prop) (Q : Exit → Act → List Frame → World → Prop) : Prop :=
  ∀ e ρ' m' E' a' w', K e ρ' m' → Step E0 m0 w0 E' m' w' → ERel E' ρ' a'.tmps.toList → a'.defers = [] → Q (exitOf e) a' cs w'
theorem recover_none [Pins] {c0 : Frame} {cs : List Frame} (h : c0.mode = .returning) : recoverD (c0 :: cs) = none := by
  simp [recoverD, h]
theorem recover_run [Pins] {o : Oper} (h : isRecover o = true) (a : Act) (w : World) : (execOp a.eval o).run P w = .ok .recover w := by
  unfold isRecover at h
  split at h
  · rename_i c ho
    split at h
    · rename_i hc
      obtain ⟨cl, args, ats⟩ := c
      simp only at hc
      subst hc
      simp [execOp, ho, resolve, invoke, builtin]
    · cases h
  · cases h
theorem copsR_sound [Pins] (hN : Named P) (hC : CallsOk P C) {ops : Array Oper} {c0 : Frame} {cs : List Frame} (hm : c0.mode = .returning) (K : Env → Mem → Prop) (Q : Exit → Act → List Frame → World → Prop) : ∀ (l : List Oper) (k : Nat) (ρ : Env) (m : Mem) (E : Wh) (a : Act) (w : World),
    (∀ j, l[j]? = ops[k + j]?) → a.defers = [] → Sim E m w → ERel E ρ a.tmps.toList → copsR P C ops.toList l ρ m K →
    (∀ ρ' m' E' a' w', K ρ' m' → Step E m w E' m' w' → ERel E' ρ' a'.tmps.toList → a'.defers = [] → Q .normal a' (c0 :: cs) w') → wpOpsS P ops Q (List.range' k l.length) a (c0 :: cs) w
  | [], k, ρ, m, E, a, w, hl, hd, hS, hρ, h, hQ => by
    simp only [List.length_nil, List.range'_zero, wpOpsS]
    exact hQ ρ m E a w h (Step.refl hS) hρ hd
  | o :: os, k, ρ, m, E, a, w, hl, hd, hS, hρ, h, hQ => by
    have ho : ops[k]? = some o := by have := hl 0; simpa using this.symm
    have hl' : ∀ j, os[j]? = ops[k + 1 + j]? := fun j => by have := hl (j + 1); rw [List.getElem?_cons_succ] at this; rw [this]; congr 1; omega
    have more : ∀ (ρ' : Env) (m' : Mem) (E' : Wh) (a' : Act) (w' : World), a'.defers = [] → Step E m w E' m' w' → ERel E' ρ' a'.tmps.toList → copsR P C ops.toList os ρ' m' K → wpOpsS P ops Q (List.range' (k + 1) os.length) a' (c0 :: cs) w' := fun ρ' m' E' a' w' hd' hst hρ' hk =>
      copsR_sound hN hC hm K Q os (k + 1) ρ' m' E' a' w' hl' hd' hst.sim hρ' hk fun ρ2 m2 E2 a2 w2 hk2 hst2 hρ2 hd2 => hQ ρ2 m2 E2 a2 w2 hk2 (hst.trans hst2) hρ2 hd2
    rw [List.length_cons, List.range'_succ]
    simp only [wpOpsS, ho]
    simp only [copsR] at h
    cases hr : isRecover o with
    | true =>
      rw [hr] at h
      simp only at h
      cases hg : o.guard with
      | some _ => rw [hg] at h; exact h.elim
      | none =>
        rw [hg] at h
        have hw : Region.wanted o (yielded ops a.tmps) = true := by unfold Region.wanted; rw [hg]
        rw [if_pos hw, recover_run hr]
        simp only [recover_none hm]
        exact more _ _ E _ w (by rw [put_defers]; exact hd) (Step.refl hS) (put_rel hρ (by simp [VRel])) h
    | false =>
      rw [hr] at h
      simp only [cstep] at h
      rcases cguard_cases h with ⟨hw, h⟩ | ⟨hw, h⟩
      · rw [if_pos (wantV_rel hρ hw)]
        have hwp := cop_wp (U := fun _ => False) hN hC hS hρ (Agree.refl _ _) (fun _ _ => rfl) h (fun e a' w' => Q e a' (c0 :: cs) w')
        have hwp2 : Oper.wp P o a w (fun a' w' => wpOpsS P ops Q (List.range' (k + 1) os.length) a' (c0 :: cs) w') (fun e a' w' => Q e a' (c0 :: cs) w') :=
          Oper.wp_mono (fun a' w' ha => by
            obtain ⟨cv, v, ρ', ρr', m', E', rfl, hk, hst, hv, hρ', hag⟩ := ha
            obtain rfl := hag.eq
            exact more _ _ E' _ w' (by rw [put_defers]; exact hd) hst (put_rel hρ' hv) hk) hwp
        unfold Oper.wp at hwp2
        split
        · rename_i w' hrun
          rw [hrun] at hwp2
          exact hwp2.elim
        · exact hwp2
      · rw [if_neg (by rw [wantV_rel hρ hw]; simp)]
        exact more _ _ E _ w (by rw [put_defers]; exact hd) (Step.refl hS) (put_rel (cv := undef) hρ (by simp [VRel, VsRel, undef])) h
theorem cexecR_sound [Pins] (hN : Named P) (hC : CallsOk P C) (hS0 : Sim E0 m0 w0) {c0 : Frame} {cs : List Frame} (hm : c0.mode = .returning) (n : Nat) : ∀ (c : Code) (ρ : Env) (m : Mem) (K : Ex → Env → Mem → Prop) (E : Wh) (a : Act) (w : World) (Q : Exit → Act → List Frame → World → Prop),
    Step E0 m0 w0 E m w → ERel E ρ a.tmps.toList → a.defers = [] → cexecR P C m0.length n c ρ m K → AfterS E0 m0 w0 (c0 :: cs) K Q → c.wpS P Q a (c0 :: cs) w := by
  intro c
  have base : ∀ (c : Code) (ρ : Env) (m : Mem) (K : Ex → Env → Mem → Prop) (E : Wh) (a : Act) (w : World) (Q : Exit → Act → List Frame → World → Prop),
    Step E0 m0 w0 E m w → ERel E ρ a.tmps.toList → a.defers = [] → cexec P C noY (fun _ => none) m0.length n c ρ m K → AfterS E0 m0 w0 (c0 :: cs) K Q → c.wpS P Q a (c0 :: cs) w := fun c ρ m K E a w Q hS hρ hd h hQ =>
    wpS_of_wp (wpIn_wide.1 (cexec_sound (r := none) hN hC noY_ok hS0 (LoopsOk.none _ _) n c (Keeps.defers [] c) ρ m K E a w _ hS hρ hd h fun e ρ' m' E' a' w' hk hst hρ' hd' => hQ e ρ' m' E' a' w' hk hst hρ' hd'))
  induction c with
  | seq x y ihx ihy =>
    intro ρ m K E a w Q hS hρ hd h hQ
    simp only [cexecR] at h
    refine wpS_seq (ihx ρ m _ E a w _ hS hρ hd h ?_)
    intro e ρ' m' E' a' w' hk hst hρ' hd'
    cases e with
    | normal => exact ihy ρ' m' K E' a' w' Q hst hρ' hd' hk hQ
    | ret => exact hQ _ _ _ _ _ _ hk hst hρ' hd'
    | exit id => exact hQ _ _ _ _ _ _ hk hst hρ' hd'
  | cond c x y ihx ihy =>
    intro ρ m K E a w Q hS hρ hd h hQ
    simp only [cexecR] at h
    split at h
    · rename_i t hc
      have hcr := opd_rel (a := a) hρ c
      rw [hc] at hcr
      simp only [VRel] at hcr
      refine wpS_cond hcr ?_
      cases t with
      | true => exact ihx ρ m K E a w Q hS hρ hd h hQ
      | false => exact ihy ρ m K E a w Q hS hρ hd h hQ
    · cases h
  | region id ops draw =>
    intro ρ m K E a w Q hS hρ hd h hQ
    simp only [cexecR] at h
    cases draw with
    | true => exact base _ ρ m K E a w Q hS hρ hd h hQ
    | false =>
      refine wpS_region ?_
      have := copsR_sound hN hC (cs := cs) hm _ Q ops.toList 0 ρ m E a w (fun j => by simp) hd hS.sim hρ h fun ρ' m' E' a' w' hk hst hρ' hd' => hQ .normal ρ' m' E' a' w' hk (hS.trans hst) hρ' hd'
      rwa [Array.length_toList, ← List.range_eq_range'] at this
  | _ => intro ρ m K E a w Q hS hρ hd h hQ; exact base _ ρ m K E a w Q hS hρ hd h hQ
theorem frame_rel [Pins] {E : Wh} {args : List V} {cargs : Array Value} (hargs : VsRel E args cargs.toList) (N : Nat) :
    ERel E (Tr.puts 0 args (Tr.full (.tup []) (max N args.length) (max N args.length))) (cargs ++ Array.replicate (N - cargs.size) undef).toList := by
  have hlen : args.length = cargs.size := by simpa using hargs.length
  have h0 : ERel E (Tr.full (.tup []) (max N args.length) (max N args.length)) (List.replicate (max N args.length) undef) := by
    intro i v hv
    rw [Tr.look_full _ _ _ _ (Nat.le_refl _)] at hv
    split at hv
    · rename_i hi
      cases hv
      exact ⟨undef, by rw [List.getElem?_replicate, if_pos hi], by simp [VRel, VsRel, undef]⟩
    · cases hv
  have h1 := ERel.puts (n := 0) hargs h0
  rw [Array.toList_append, Array.toList_replicate]
  have e1 : cargs.toList.take (max N args.length) = cargs.toList := List.take_of_length_le (by rw [Array.length_toList, ← hlen]; omega)
  simp only [List.take_zero, List.nil_append, List.length_replicate, Nat.sub_zero, e1, Nat.zero_add, List.drop_replicate, Array.length_toList] at h1
  have e2 : max N args.length - cargs.size = N - cargs.size := by omega
  rw [e2] at h1
  exact h1
/-- What a body comes to. -/
theorem kbody_done [Pins] {fn : Func} {m : Mem} {E : Wh} {w : World} (hS : Sim E m w) {K : V → Mem → Prop} {e : Ex} {ρ' : Env} {m' : Mem} {E' : Wh} {w' : World} {tmps : Array Value} (hk : kbody P m.length fn K e ρ' m') (hst : Step E m w E' m' w') (hρ' : ERel E' ρ' tmps.toList) :
    (∀ id, e ≠ .exit id) ∧ ∃ c, (results fn tmps).run P w' = .ok c w' ∧ Ret K E m w (.returned c) w' := by
  have done : ∀ vs, resVs P ρ' m' fn.results.toList = some vs → K (V.ren (fun j => idx? j 0 (keep m' m.length (one vs))) (one vs)) (trim m' (keep m' m.length (one vs))) →
      ∃ c, (results fn tmps).run P w' = .ok c w' ∧ Ret K E m w (.returned c) w' := by
    intro vs hvs hk
    obtain ⟨c, h1, h2⟩ := results_rel (fn := fn) hst.sim hρ' hvs
    refine ⟨c, h1, _, _, Ecut E' (keep m' m.length (one vs)), hk, ?_, h2.cut _⟩
    exact hst.trim (keep_nodup _ _ _) (fun i hi => keep_first _ _ _ hi) hS
  simp only [kbody] at hk
  cases e with
  | exit id => cases hk
  | normal =>
    simp only at hk
    split at hk
    · rename_i vs hvs; exact ⟨(fun _ hh => nomatch hh), done vs hvs hk⟩
    · cases hk
  | ret =>
    simp only at hk
    split at hk
    · rename_i vs hvs; exact ⟨(fun _ hh => nomatch hh), done vs hvs hk⟩
    · cases hk
theorem cdef_sound [Pins] (hN : Named P) (hC : CallsOk P C) {n : Nat} {g : FuncId} {args : List V} {m : Mem} {K : V → Mem → Prop} {E : Wh} {w : World} {cargs : Array Value} (hS : Sim E m w) (hargs : VsRel E args cargs.toList) (h : cdef P C n g args m K) :
    (∃ fn, P.funcs[g]? = some fn ∧ fn.body.isSome = true) ∧ CallsD P g cargs .returning w fun e u' w' => u' = .returning ∧ Ret K E m w e w' := by
  unfold cdef at h
  split at h
  · rename_i fn hfn
    split at h
    · rename_i c hc
      refine ⟨⟨fn, hfn, by rw [hc]; rfl⟩, callsD_of_wpS hfn hc fun c0 cs hm => ?_⟩
      refine cexecR_sound hN hC hS hm n c _ m _ E _ w _ (Step.refl hS) (frame_rel hargs fn.ntmps) rfl h ?_
      intro e ρ' m' E' a' w' hk hst hρ' hd
      obtain ⟨he, cv, h1, h2⟩ := kbody_done hS hk hst hρ'
      have hmode : c0 :: cs = { c0 with mode := .returning } :: cs := by rw [← hm]
      cases e with
      | exit id => exact (he id rfl).elim
      | normal => exact ⟨hd, .returning, hmode, cv, h1, rfl, h2⟩
      | ret => exact ⟨hd, .returning, hmode, cv, h1, rfl, h2⟩
    · cases h
  · cases h
theorem keepsT_spec [Pins] {t : Tmp} {c : Code} (h : keepsT t c = true) {o : Oper} (ho : o ∈ codeOps c) : o.dst ≠ some t := by
  have := List.all_eq_true.1 h o ho
  intro hd
  rw [hd] at this
  simp at this
theorem put_other [Pins] {a : Act} {x : Option Tmp} {t : Tmp} (h : x ≠ some t) (v : Value) : (a.put x v).tmps[t]? = a.tmps[t]? := by
  cases x with
  | none => rfl
  | some d =>
    have hd : d ≠ t := fun hh => h (by rw [hh])
    simp only [Act.put, Array.getElem?_setIfInBounds, if_neg hd]
theorem deferOf_spec [Pins] {l : List Oper} {o1 : Oper} {t : Tmp} (h : deferOf l = some (o1, t)) : ∃ o2 c, l = [o1, o2] ∧ o2.op = .defer c ∧ o2.guard = none ∧ o2.dst = none ∧ c.callee = .value (.tmp t) ∧ c.args = #[] := by
  unfold deferOf at h
  split at h
  · rename_i p1 p2
    split at h
    · rename_i c ho hg hd
      split at h
      · rename_i t' hc ha
        simp only [Option.some.injEq, Prod.mk.injEq] at h
        obtain ⟨rfl, rfl⟩ := h
        exact ⟨p2, c, rfl, ho, hg, hd, hc, by obtain ⟨cl, ⟨as⟩, ts⟩ := c; simpa using ha⟩
      · cases h
    · cases h
  · cases h
/-- The deferred call, at the end. -/
theorem cdefer_end [Pins] (hN : Named P) (hC : CallsOk P C) {n : Nat} {fn : Func} {m : Mem} {E0 : Wh} {w0 : World} (hS0 : Sim E0 m w0) {K : V → Mem → Prop} {ρ : Env} {m2 : Mem} {E : Wh} {w : World} {a : Act} {g : FuncId} {first captured : List V} {f' c' : Array Value}
    (hst : Step E0 m w0 E m2 w) (hρ : ERel E ρ a.tmps.toList) (hd : a.defers = [⟨.fn (.func g) c', f' ++ #[]⟩]) (hf : VsRel E first f'.toList) (hc : VsRel E captured c'.toList)
    (h : ccall (cdef P C n) g (first ++ captured) ρ m2 fun _ ρ m3 => kbody P m.length fn K .ret ρ m3) : Leaves P fn a.tmps (Ret K E0 m w0) a.defers .returning w := by
  rw [hd]
  have hargs : VsRel E (first ++ captured) ((f' ++ #[]) ++ c').toList := by
    rw [Array.toList_append, Array.append_empty]
    exact hf.app hc
  generalize hks : foot m2 (first ++ captured) = ks at h
  unfold ccall at h
  rw [hks] at h
  have hn : ks.Nodup := hks ▸ foot_nodup _ _
  have hl : ∀ k ∈ ks, k < m2.length := hks ▸ foot_lt _ _
  obtain ⟨⟨gn, hgn, hbody⟩, hcalls⟩ := cdef_sound hN hC (hst.sim.cut' hn) (hargs.cut ks) h
  have hb : gn.body.isNone = false := by cases hfb : gn.body <;> simp_all
  have hnm := hN g gn hgn
  refine leaves_cons (by simp) (f := g) (args := (f' ++ #[]) ++ c') ?_ (hcalls.mono fun e u' w' ⟨hu, he⟩ => ?_)
  · simp only [invoke, callFunc, Sem.run_bind, Sem.run_pure, Result.andThen_ok, run_program, hgn, hnm, hb, Bool.false_eq_true, if_false]
  · subst hu
    cases e with
    | panicked c => exact he.elim
    | outgrown => exact he.elim
    | returned cv =>
      obtain ⟨v, mf, E1, hK, hs, hr⟩ := he
      obtain ⟨_, cv', h1, h2⟩ := kbody_done hS0 hK (hst.trans (hs.back hst.sim hn hl)) (dropE_rel hst.sim hn hs hρ)
      exact ⟨cv', h1, h2⟩
theorem cbodyD_sound [Pins] (hN : Named P) (hC : CallsOk P C) {W : Masks} {n : Nat} {f : FuncId} {fn : Func} (hf : P.funcs[f]? = some fn) {args : List V} {m : Mem} (hW : LoopsOk P m.length W) {K : V → Mem → Prop} {E : Wh} {w : World} {cargs : Array Value}
    (hS : Sim E m w) (hargs : VsRel E args cargs.toList) (h : cbodyD P C W n fn args m K) : (∃ fn, P.funcs[f]? = some fn ∧ fn.body.isSome = true) ∧ Calls P f cargs w (Ret K E m w) := by
  unfold cbodyD at h
  split at h
  · rename_i A id ops B hbody
    split at h
    · rename_i o1 t hdf
      obtain ⟨o2, c, hops, ho2, hg2, hd2, hcal, hca⟩ := deferOf_spec hdf
      split at h
      · rename_i hkt
        refine ⟨⟨fn, hf, by rw [hbody]; rfl⟩, calls_of_wp_defers hf hbody ?_⟩
        refine wp_seq (wpIn_wide.1 (cexec_sound (r := none) hN hC noY_ok hS hW n A (Keeps.defers [] A) _ m _ E _ w _ (Step.refl hS) (frame_rel hargs fn.ntmps) rfl h ?_))
        intro e ρ1 m1 E1 a1 w1 hk1 hst1 hρ1 hd1
        cases e with
        | ret => exact hk1.elim
        | exit id => exact hk1.elim
        | normal =>
          simp only [exitOf]
          refine wp_seq (wp_region_list ?_)
          rw [hops]
          refine wpList_step fun K' hK' => ?_
          -- what comes behind the first of the two operations
          have key : ∀ (ρ2 : Env) (m2 : Mem) (E2 : Wh) (a2 : Act) (w2 : World), Step E m w E2 m2 w2 → ERel E2 ρ2 a2.tmps.toList → a2.defers = [] →
              (match ρ2.get t with
               | .fn (.func _) _ _ => cexec P C noY W m.length n B ρ2 m2 fun e ρ m2 =>
                   (match e with
                    | .exit _ => False
                    | _ =>
                      match ρ.get t with
                      | .fn (.func g) first captured => ccall (cdef P C n) g (first ++ captured) ρ m2 fun _ ρ m3 => kbody P m.length fn K .ret ρ m3
                      | _ => False)
               | _ => False) → K' a2 w2 := by
            intro ρ2 m2 E2 a2 w2 hst2 hρ2 hd2' hk2
            refine hK' _ _ (wpList_step fun K'' hK'' => ?_)
            have hw2 : Region.wanted o2 (yielded ops a2.tmps) = true := by unfold Region.wanted; rw [hg2]
            rw [if_pos hw2]
            split at hk2
            · rename_i g first captured hget
              have hv := hρ2.get t undef
              rw [hget] at hv
              simp only [VRel] at hv
              obtain ⟨f', c', hcv, hff, hcc⟩ := hv
              have htv : a2.tmps[t]? = some (.func (.func g) f' c') := by
                have hl := Tr.get_set_self hget (by simp)
                obtain ⟨cv, hcv', _⟩ := hρ2 t _ hl
                rw [List.getD_eq_getElem?_getD, hcv'] at hcv
                simp only [Option.getD_some] at hcv
                rw [← hcv]
                simpa using hcv'
              have hev : a2.eval (.tmp t) = .func (.func g) f' c' := by
                simp only [Act.eval, Array.getD_eq_getD_getElem?, htv, Option.getD_some]
              have hrun : (execOp a2.eval o2).run P w2 = .ok (.defer ⟨.fn (.func g) c', f' ++ #[]⟩) w2 := by
                simp only [execOp, ho2, resolve, hcal, hca, hev, Deferred.ofValue, Sem.run_bind, Sem.run_pure, Result.andThen_ok, List.map_toArray, List.map_nil]
                try rfl
              unfold Oper.wp
              rw [hrun, Oper.upon_defer, hd2]
              refine hK'' _ _ (wpList_nil ?_)
              have hJ : Keeps (fun a => a.defers = [⟨.fn (.func g) c', f' ++ #[]⟩] ∧ a.tmps[t]? = some (.func (.func g) f' c')) B := fun o ho a v hj =>
                ⟨(put_defers a o.dst v).trans hj.1, (put_other (keepsT_spec hkt ho) v).trans hj.2⟩
              refine wpIn_wide.1 (cexec_sound (r := none) hN hC noY_ok hS hW n B hJ ρ2 m2 _ E2 _ w2 _ hst2 (by simpa [Act.put] using hρ2) ⟨by simp [Act.put, hd2'], by simpa [Act.put] using htv⟩ hk2 ?_)
              intro e ρ3 m3 E3 a3 w3 hk3 hst3 hρ3 hj3
              have fin : (match ρ3.get t with
                  | .fn (.func g) first captured => ccall (cdef P C n) g (first ++ captured) ρ3 m3 fun _ ρ m3 => kbody P m.length fn K .ret ρ m3
                  | _ => False) → Leaves P fn a3.tmps (Ret K E m w) a3.defers .returning w3 := by
                intro hk3
                split at hk3
                · rename_i g3 first3 captured3 hget3
                  have hv3 := hρ3.get t undef
                  rw [hget3] at hv3
                  have htv3 : a3.tmps.toList.getD t undef = .func (.func g) f' c' := by
                    rw [List.getD_eq_getElem?_getD, Array.getElem?_toList, hj3.2]; rfl
                  rw [htv3] at hv3
                  simp only [VRel] at hv3
                  obtain ⟨f3, c3, heq, hff3, hcc3⟩ := hv3
                  simp only [Value.func.injEq] at heq
                  obtain ⟨hg3, rfl, rfl⟩ := heq
                  have hgg : g3 = g := by simpa using hg3.symm
                  subst hgg
                  exact cdefer_end hN hC hS hst3 hρ3 hj3.1 hff3 hcc3 hk3
                · cases hk3
              cases e with
              | exit id => exact hk3.elim
              | normal => exact fin hk3
              | ret => exact fin hk3
            · cases hk2
          simp only [cstep] at hk1
          rcases cguard_cases hk1 with ⟨hw, hk1⟩ | ⟨hw, hk1⟩
          · have hw' : Region.wanted o1 (yielded ops a1.tmps) = true := wantV_rel hρ1 hw
            rw [if_pos hw']
            refine Oper.wp_mono (fun a' w' ha => ?_) (cop_wp (U := fun _ => False) hN hC hst1.sim hρ1 (Agree.refl _ _) (fun _ _ => rfl) hk1 _)
            obtain ⟨cv, v, ρ', ρr', m', E', rfl, hk, hst, hv, hρ', hag⟩ := ha
            obtain rfl := hag.eq
            exact key _ _ E' _ w' (hst1.trans hst) (put_rel hρ' hv) (by rw [put_defers]; exact hd1) hk
          · have hw' : Region.wanted o1 (yielded ops a1.tmps) = false := wantV_rel hρ1 hw
            rw [if_neg (by rw [hw']; simp)]
            exact key _ _ E1 _ w1 hst1 (put_rel (cv := undef) hρ1 (by simp [VRel, VsRel, undef])) (by rw [put_defers]; exact hd1) hk1
      · cases h
    · cases h
  · cases h
theorem cbodyD_use [Pins] (hN : Named P) {C : CC} (hC : CallsOk P C) {W : Masks} {n : Nat} {f : FuncId} {fn : Func} (hf : P.funcs[f]? = some fn) {args : List V} {m : Mem} {l : Nat} (hl : m.length = l) (hW : LoopsOk P l W) {K : V → Mem → Prop} {X : Prop} (hX : cbodyD P C W n fn args m K = X)
    {E : Wh} {w : World} {cargs : Array Value} (hS : Sim E m w) (hargs : VsRel E args cargs.toList) (h : X) : ((∃ fn, P.funcs[f]? = some fn ∧ fn.body.isSome = true) ∧ Calls P f cargs w (Ret K E m w)) ∨
    ∃ cv w', (callFunc f cargs).run P w = .ok (.value cv) w' ∧ Ret K E m w (.returned cv) w' := by
  subst hX; subst hl; exact .inl (cbodyD_sound hN hC hf hW hS hargs h)
/-- Is it a body with one deferred call? -/
def hasDefer (fn : Func) : Bool := match fn.body with | some (.seq _ (.seq (.region _ ops false) _)) => (deferOf ops.toList).isSome | _ => false
/-- Calls, with deferred ones. -/
def callD (P : Program) (S : Prims) : Nat → CC
  | 0 => fun _ _ _ _ => False
  | n + 1 => fun f args m K =>
    match S f with
    | some g => g args m K
    | none =>
      match P.funcs[f]? with
      | some fn => (match hasDefer fn with | true => cbodyD P (callD P S n) (fun _ => none) n fn args m K | false => cbody P (callD P S n) (fun _ => none) n fn args m K)
      | none => False
theorem callD_sound [Pins] (hN : Named P) {S : Prims} (hP : PrimsOk P S) : ∀ n, CallsOk P (callD P S n)
  | 0 => fun g args m K E w cargs hS ha h => by simp [callD] at h
  | n + 1 => fun g args m K E w cargs hS ha h => by
    simp only [callD] at h
    split at h
    · rename_i f hf
      exact hP g f hf args m K E w cargs hS ha h
    · split at h
      · rename_i fn hfn
        split at h
        · exact .inl (cbodyD_sound hN (callD_sound hN hP n) hfn (LoopsOk.none _ _) hS ha h)
        · exact .inl (cbody_sound hN (callD_sound hN hP n) hfn (LoopsOk.none _ _) hS ha h)
      · cases h
end
/-! ## The first parts of a body, and what is left -/
section
variable (P : Program) (C : CC)
def cpre (W : Masks) (a n : Nat) : Nat → Code → Env → Mem → (Ex → Env → Mem → Prop) → (Code → Env → Mem → (Ex → Env → Mem → Prop) → Prop) → Prop
  | 0, c, ρ, m, K, KX => KX c ρ m K
  | d + 1, c, ρ, m, K, KX =>
    match c with
    | .seq x y => cexec P C noY W a n x ρ m fun e ρ m => match e with | .normal => cpre W a n d y ρ m K KX | e => K e ρ m
    | _ => False
variable {P C}
theorem cpre_sound [Pins] (hN : Named P) (hC : CallsOk P C) {E0 : Wh} {m0 : Mem} {w0 : World} {J : Act → Prop} (hS0 : Sim E0 m0 w0) {W : Masks} (hW : LoopsOk P m0.length W) (n : Nat) : ∀ (d : Nat) (c : Code), Keeps J c →
    Doing P none E0 m0 w0 J c fun ρ m K => cpre P C W m0.length n d c ρ m K fun c ρ m K => cexec P C noY W m0.length n c ρ m K
  | 0, c, hJ => cexec_sound hN hC noY_ok hS0 hW n c hJ
  | d + 1, c, hJ => by
    intro ρ m K E a w Q hS hρ hd h hQ
    unfold cpre at h
    split at h
    · rename_i x y
      refine wpIn_seq (cexec_sound hN hC noY_ok hS0 hW n x (fun o ho => hJ o (List.mem_append_left _ ho)) ρ m _ E a w _ hS hρ hd h ?_)
      intro e ρ' m' E' a' w' hk hst hρ' hd'
      cases e with
      | normal => exact cpre_sound hN hC hS0 hW n d y (fun o ho => hJ o (List.mem_append_right _ ho)) ρ' m' K E' a' w' Q hst hρ' hd' hk hQ
      | ret => exact hQ _ _ _ _ _ _ hk hst hρ' hd'
      | exit id => exact hQ _ _ _ _ _ _ hk hst hρ' hd'
    · exact h.elim
theorem cbodyP_use [Pins] (hN : Named P) {C : CC} (hC : CallsOk P C) {W : Masks} {n d : Nat} {f : FuncId} {fn : Func} (hf : P.funcs[f]? = some fn) {c : Code} (hb : fn.body = some c) {args : List V} {m : Mem} {l : Nat} (hl : m.length = l) (hW : LoopsOk P l W) {K : V → Mem → Prop}
    {E : Wh} {w : World} {cargs : Array Value} (hS : Sim E m w) (hargs : VsRel E args cargs.toList)
    (h : cpre P C W l n d c (Tr.puts 0 args (Tr.full (.tup []) (max fn.ntmps args.length) (max fn.ntmps args.length))) m (kbody P l fn K) fun c ρ m K => cexec P C noY W l n c ρ m K) :
    ((∃ fn, P.funcs[f]? = some fn ∧ fn.body.isSome = true) ∧ Calls P f cargs w (Ret K E m w)) ∨ ∃ cv w', (callFunc f cargs).run P w = .ok (.value cv) w' ∧ Ret K E m w (.returned cv) w' := by
  subst hl
  refine .inl ⟨⟨fn, hf, by rw [hb]; rfl⟩, calls_of_wp hf hb (wpIn_wide (n := 0).1 ?_)⟩
  refine cpre_sound hN hC hS hW n d c (Keeps.defers [] c) _ m _ E _ w _ (Step.refl hS) (frame_rel hargs fn.ntmps) rfl h ?_
  intro e ρ' m' E' a' w' hk hst hρ' hd
  obtain ⟨he, cv, h1, h2⟩ := kbody_done hS hk hst hρ'
  cases e with
  | exit id => exact (he id rfl).elim
  | normal => exact ⟨hd, cv, h1, h2⟩
  | ret => exact ⟨hd, cv, h1, h2⟩
/-! ## The first parts of a body, what is left from another frame of the same values -/
/-- Another frame of the same values. -/
def Conv [Pins] (ρ ρ' : Env) : Prop := ∀ (E : Wh) (cs : List Value), ERel E ρ cs → ERel E ρ' cs
theorem Conv.refl [Pins] (ρ : Env) : Conv ρ ρ := fun _ _ h => h
theorem Conv.trans [Pins] {ρ ρ' ρ'' : Env} (h : Conv ρ ρ') (h' : Conv ρ' ρ'') : Conv ρ ρ'' := fun E cs g => h' E cs (h E cs g)
theorem set_own {α : Type} (cs : List α) (t : Nat) (d : α) : cs.set t (cs.getD t d) = cs := by
  by_cases ht : t < cs.length
  · rw [List.getD_eq_getElem?_getD, List.getElem?_eq_getElem ht]; simp
  · exact List.set_eq_of_length_le (by omega)
/-- A number told as q * c + d. -/
theorem Conv.lin [Pins] {ρ : Env} {t : Nat} {k : IntKind} {i : Nat} {n q b c d : Int} (hg : ρ.get t = .I k n) (hn : n = q * c + d) (hq : q = Pins.num i) (h0 : 0 ≤ q) (h1 : q < b) : Conv ρ (ρ.set t (.L k i q b c d)) := by
  intro E cs h
  have hv := h.get t undef
  rw [hg] at hv
  simp only [VRel] at hv
  have hL : VRel E (.L k i q b c d) (cs.getD t undef) := by
    simp only [VRel]
    rw [← hn]
    exact ⟨hv.1, hv.2, hq, h0, h1⟩
  have := ERel.set hL h t
  rwa [set_own] at this
theorem cpreC_sound [Pins] (hN : Named P) (hC : CallsOk P C) {E0 : Wh} {m0 : Mem} {w0 : World} {J : Act → Prop} (hS0 : Sim E0 m0 w0) {W : Masks} (hW : LoopsOk P m0.length W) (n : Nat) : ∀ (d : Nat) (c : Code), Keeps J c →
    Doing P none E0 m0 w0 J c fun ρ m K => cpre P C W m0.length n d c ρ m K fun c ρ m K => ∃ ρ', Conv ρ ρ' ∧ cexec P C noY W m0.length n c ρ' m K
  | 0, c, hJ => by
    intro ρ m K E a w Q hS hρ hd h hQ
    unfold cpre at h
    obtain ⟨ρ', hc, h⟩ := h
    exact cexec_sound hN hC noY_ok hS0 hW n c hJ ρ' m K E a w Q hS (hc E _ hρ) hd h hQ
  | d + 1, c, hJ => by
    intro ρ m K E a w Q hS hρ hd h hQ
    unfold cpre at h
    split at h
    · rename_i x y
      refine wpIn_seq (cexec_sound hN hC noY_ok hS0 hW n x (fun o ho => hJ o (List.mem_append_left _ ho)) ρ m _ E a w _ hS hρ hd h ?_)
      intro e ρ' m' E' a' w' hk hst hρ' hd'
      cases e with
      | normal => exact cpreC_sound hN hC hS0 hW n d y (fun o ho => hJ o (List.mem_append_right _ ho)) ρ' m' K E' a' w' Q hst hρ' hd' hk hQ
      | ret => exact hQ _ _ _ _ _ _ hk hst hρ' hd'
      | exit id => exact hQ _ _ _ _ _ _ hk hst hρ' hd'
    · exact h.elim
theorem cbodyC_use [Pins] (hN : Named P) {C : CC} (hC : CallsOk P C) {W : Masks} {n d : Nat} {f : FuncId} {fn : Func} (hf : P.funcs[f]? = some fn) {c : Code} (hb : fn.body = some c) {args : List V} {m : Mem} {l N : Nat} (hl : m.length = l) (hM : max fn.ntmps args.length = N) (hW : LoopsOk P l W) {K : V → Mem → Prop}
    {E : Wh} {w : World} {cargs : Array Value} (hS : Sim E m w) (hargs : VsRel E args cargs.toList) {X : Prop}
    (hX : cpre P C W l n d c (Tr.puts 0 args (Tr.full (.tup []) N N)) m (kbody P l fn K) (fun c ρ m K => ∃ ρ', Conv ρ ρ' ∧ cexec P C noY W l n c ρ' m K) = X) (h : X) :
    ((∃ fn, P.funcs[f]? = some fn ∧ fn.body.isSome = true) ∧ Calls P f cargs w (Ret K E m w)) ∨ ∃ cv w', (callFunc f cargs).run P w = .ok (.value cv) w' ∧ Ret K E m w (.returned cv) w' := by
  subst hl; subst hM; subst hX
  refine .inl ⟨⟨fn, hf, by rw [hb]; rfl⟩, calls_of_wp hf hb (wpIn_wide (n := 0).1 ?_)⟩
  refine cpreC_sound hN hC hS hW n d c (Keeps.defers [] c) _ m _ E _ w _ (Step.refl hS) (frame_rel hargs fn.ntmps) rfl h ?_
  intro e ρ' m' E' a' w' hk hst hρ' hd
  obtain ⟨he, cv, h1, h2⟩ := kbody_done hS hk hst hρ'
  cases e with
  | exit id => exact (he id rfl).elim
  | normal => exact ⟨hd, cv, h1, h2⟩
  | ret => exact ⟨hd, cv, h1, h2⟩
end
end Go.Ab
