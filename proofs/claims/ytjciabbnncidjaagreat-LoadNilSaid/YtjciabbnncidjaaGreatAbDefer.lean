/- Functions with one deferred call: what runs at their end, where nothing has panicked. -/
import Derived.Test.YtjciabbnncidjaaGreatAbBody
import Derived.Defers
import Derived.Recover
set_option linter.unusedSimpArgs false
set_option linter.unusedVariables false
namespace Go.Ab
open Go

def isRecover (o : Oper) : Bool := match o.op with | .call c => (match c.callee with | .builtin .recover => true | _ => false) | _ => false
section
variable (P : Program) (C : CC)
/-- A list of operations of a deferred function: 'b': its caller panics with 'p', which nobody has recovered yet. -/
def copsR (p : V) (all : List Oper) : List Oper → Bool → Env → Mem → (Bool → Env → Mem → Prop) → Prop
  | [], b, ρ, m, K => K b ρ m
  | o :: os, b, ρ, m, K =>
    match isRecover o with
    | true => (match o.guard with | none => (match b with | true => copsR p all os false (put o.dst p ρ) m K | false => copsR p all os false (put o.dst .nili ρ) m K) | some _ => False)
    | false => cstep P C noY noP all o ρ m fun ρ m => copsR p all os b ρ m K
def cexecR (p : V) (a n : Nat) : Code → Bool → Env → Mem → (Bool → Ex → Env → Mem → Prop) → Prop
  | .seq x y, b, ρ, m, K => cexecR p a n x b ρ m fun b e ρ m => match e with | .normal => cexecR p a n y b ρ m K | e => K b e ρ m
  | .cond c x y, b, ρ, m, K =>
    (match opd ρ c with
     | .B t => (match t with | true => cexecR p a n x b ρ m K | false => cexecR p a n y b ρ m K)
     | _ => False)
  | .region id ops draw, b, ρ, m, K =>
    (match draw with
     | false => copsR P C p ops.toList ops.toList b ρ m fun b ρ m => K b .normal ρ m
     | true => cexec P C noY (fun _ => none) a n (.region id ops true) ρ m fun e ρ m => match e with | .panic _ => False | e => K b e ρ m)
  | c, b, ρ, m, K => cexec P C noY (fun _ => none) a n c ρ m fun e ρ m => match e with | .panic _ => False | e => K b e ρ m
/-- What a deferred function tells: whether its caller still panics. -/
def tellB (K : V → Mem → Prop) (b : Bool) : V → Mem → Prop := fun v m => match v with | .pan _ => False | _ => K (.B b) m
/-- A deferred function. -/
def cdefS (n : Nat) (p : V) (b : Bool) : CC := fun g args m K =>
  match P.funcs[g]? with
  | some fn =>
    (match fn.body with
     | some c => cexecR P C p m.length n c b (Tr.puts 0 args (Tr.full (.tup []) (max fn.ntmps args.length) (max fn.ntmps args.length))) m fun b e ρ m' => match e with | .panic _ => False | e => kbody P m.length fn (tellB K b) e ρ m'
     | none => False)
  | none => False
/-- What comes behind the deferred function. -/
def kdef (a : Nat) (fn : Func) (K : V → Mem → Prop) (p : V) : V → Env → Mem → Prop := fun v ρ m =>
  match v with
  | .B b => (match b with | true => kbody P a fn K (.panic p) ρ m | false => kbody P a fn K .ret ρ m)
  | _ => False
/-- Does no operation of the code write this temporary? -/
def keepsT (t : Tmp) (c : Code) : Bool := (codeOps c).all fun o => match o.dst with | some d => !Nat.beq d t | none => true
/-- 'defer f()' in the two operations of a region: the other one, and where f stands. -/
def deferOf : List Oper → Option (Oper × Tmp)
  | [o1, o2] =>
    (match o2.op, o2.guard, o2.dst with
     | .defer c, none, none =>
       (match c.callee, c.args.toList with
        | .value (.tmp t), [] => some (o1, t)
        | _, _ => none)
     | _, _, _ => none)
  | _ => none
/-- 'defer f()', as a part of a body. -/
def deferHere : Code → Option (Array Oper × Oper × Tmp)
  | .region _ ops false => (match deferOf ops.toList with | some (o1, t) => some (ops, o1, t) | none => none)
  | _ => none
/-- What comes behind a body with a deferred function at 't'. -/
def kdefer (a n : Nat) (fn : Func) (K : V → Mem → Prop) (t : Tmp) : Ex → Env → Mem → Prop := fun e ρ m =>
  match e with
  | .exit _ => False
  | .panic p =>
    (match V.refs p with
     | [] => (match ρ.get t with | .fn (.func g) first captured => ccall (cdefS P C n p true) g (first ++ captured) ρ m (kdef P a fn K p) | _ => False)
     | _ => False)
  | _ => (match ρ.get t with | .fn (.func g) first captured => ccall (cdefS P C n .undef false) g (first ++ captured) ρ m (kdef P a fn K .undef) | _ => False)
/-- From here on: parts that may return at once; one 'defer'; the rest. -/
def cfromD (W : Masks) (n a : Nat) (fn : Func) (K : V → Mem → Prop) : Code → Env → Mem → Prop
  | .seq A B, ρ, m =>
    (match deferHere A with
     | some (ops, o1, t) =>
       (match keepsT t B with
        | true => cstep P C noY noP ops.toList o1 ρ m fun ρ m1 =>
            (match ρ.get t with
             | .fn (.func _) _ _ => cexec P C noY W a n B ρ m1 (kdefer P C a n fn K t)
             | _ => False)
        | false => False)
     | none => cexec P C noY W a n A ρ m fun e ρ m1 => match e with | .normal => cfromD W n a fn K B ρ m1 | .exit _ => False | e => kbody P a fn K e ρ m1)
  | _, _, _ => False
/-- A body of that form. -/
def cbodyD (W : Masks) (n : Nat) (fn : Func) (args : List V) (m : Mem) (K : V → Mem → Prop) : Prop :=
  match fn.body with
  | some c => cfromD P C W n m.length fn K c (Tr.puts 0 args (Tr.full (.tup []) (max fn.ntmps args.length) (max fn.ntmps args.length))) m
  | none => False
end
section
variable {P : Program} {C : CC} {E0 : Wh} {m0 : Mem} {w0 : World}
/-- How the caller of a deferred function goes on: with a panic that nobody has recovered, or not. -/
def ModeIs (c : Value) : Bool → FrameMode → Prop
  | true, u => u = .panicking [{ v := c, recovered := false }]
  | false, u => u = .returning ∨ u = .panicking [{ v := c, recovered := true }]
/-- What comes behind code of a deferred function. -/
def AfterS [Pins] (E0 : Wh) (m0 : Mem) (w0 : World) (c : Value) (c0 : Frame) (cs : List Frame) (K : Bool → Ex → Env → Mem → Prop) (Q : Exit → Act → List Frame → World → Prop) : Prop :=
  ∀ b e ρ' m' E' a' w' u', K b e ρ' m' → (∀ p, e ≠ .panic p) → Step E0 m0 w0 E' m' w' → ERel E' ρ' a'.tmps.toList → a'.defers = [] → ModeIs c b u' → Q (exitOf e) a' ({ c0 with mode := u' } :: cs) w'
theorem recover_none [Pins] {c : Value} {c0 : Frame} {cs : List Frame} (h : ModeIs c false c0.mode) : recoverD (c0 :: cs) = none := by
  rcases h with h | h <;> simp [recoverD, h]
theorem recover_some [Pins] {c : Value} {c0 : Frame} {cs : List Frame} (h : ModeIs c true c0.mode) : recoverD (c0 :: cs) = some (c, { c0 with mode := .panicking [{ v := c, recovered := true }] } :: cs) := by
  simp only [ModeIs] at h
  simp [recoverD, h]
theorem recover_run [Pins] {o : Oper} (h : isRecover o = true) (a : Act) (w : World) : (execOp a.eval o).run P w = .ok .recover w := by
  unfold isRecover at h
  split at h
  · rename_i c ho
    split at h
    · rename_i hc
      obtain ⟨cl, args, ats⟩ := c
      simp only at hc
      subst hc
      simp [execOp, ho, resolve, invoke, builtin]
    · cases h
  · cases h
theorem copsR_sound [Pins] (hN : Named P) (hC : CallsOk P C) {ops : Array Oper} {p : V} {c : Value} {cs : List Frame} (K : Bool → Env → Mem → Prop) (Q : Exit → Act → List Frame → World → Prop) : ∀ (l : List Oper) (k : Nat) (b : Bool) (c0 : Frame) (ρ : Env) (m : Mem) (E : Wh) (a : Act) (w : World),
    (∀ j, l[j]? = ops[k + j]?) → a.defers = [] → Sim E m w → ERel E ρ a.tmps.toList → ModeIs c b c0.mode → (∀ E, VRel E p c) → copsR P C p ops.toList l b ρ m K →
    (∀ b' ρ' m' E' a' w' u', K b' ρ' m' → Step E m w E' m' w' → ERel E' ρ' a'.tmps.toList → a'.defers = [] → ModeIs c b' u' → Q .normal a' ({ c0 with mode := u' } :: cs) w') → wpOpsS P ops Q (List.range' k l.length) a (c0 :: cs) w
  | [], k, b, c0, ρ, m, E, a, w, hl, hd, hS, hρ, hu, hp, h, hQ => by
    simp only [List.length_nil, List.range'_zero, wpOpsS]
    exact hQ b ρ m E a w c0.mode h (Step.refl hS) hρ hd hu
  | o :: os, k, b, c0, ρ, m, E, a, w, hl, hd, hS, hρ, hu, hp, h, hQ => by
    have ho : ops[k]? = some o := by have := hl 0; simpa using this.symm
    have hl' : ∀ j, os[j]? = ops[k + 1 + j]? := fun j => by have := hl (j + 1); rw [List.getElem?_cons_succ] at this; rw [this]; congr 1; omega
    rw [List.length_cons, List.range'_succ]
    simp only [wpOpsS, ho]
    simp only [copsR] at h
    cases hr : isRecover o with
    | true =>
      rw [hr] at h
      simp only at h
      cases hg : o.guard with
      | some _ => rw [hg] at h; exact h.elim
      | none =>
        rw [hg] at h
        have hw : Region.wanted o (yielded ops a.tmps) = true := by unfold Region.wanted; rw [hg]
        rw [if_pos hw, recover_run hr]
        cases b with
        | false =>
          simp only [recover_none hu]
          exact copsR_sound hN hC K Q os (k + 1) false c0 _ m E _ w hl' (by rw [put_defers]; exact hd) hS (put_rel hρ (by simp [VRel])) hu hp h fun b2 ρ2 m2 E2 a2 w2 u2 hk2 hst2 hρ2 hd2 hu2 => hQ b2 ρ2 m2 E2 a2 w2 u2 hk2 hst2 hρ2 hd2 hu2
        | true =>
          simp only [recover_some hu]
          refine copsR_sound hN hC K Q os (k + 1) false _ _ m E _ w hl' (by rw [put_defers]; exact hd) hS (put_rel hρ (hp E)) (.inr rfl) hp h fun b2 ρ2 m2 E2 a2 w2 u2 hk2 hst2 hρ2 hd2 hu2 => hQ b2 ρ2 m2 E2 a2 w2 u2 hk2 hst2 hρ2 hd2 hu2
    | false =>
      rw [hr] at h
      simp only [cstep] at h
      have more : ∀ (ρ' : Env) (m' : Mem) (E' : Wh) (a' : Act) (w' : World), a'.defers = [] → Step E m w E' m' w' → ERel E' ρ' a'.tmps.toList → copsR P C p ops.toList os b ρ' m' K → wpOpsS P ops Q (List.range' (k + 1) os.length) a' (c0 :: cs) w' := fun ρ' m' E' a' w' hd' hst hρ' hk =>
        copsR_sound hN hC K Q os (k + 1) b c0 ρ' m' E' a' w' hl' hd' hst.sim hρ' hu hp hk fun b2 ρ2 m2 E2 a2 w2 u2 hk2 hst2 hρ2 hd2 hu2 => hQ b2 ρ2 m2 E2 a2 w2 u2 hk2 (hst.trans hst2) hρ2 hd2 hu2
      rcases cguard_cases h with ⟨hw, h⟩ | ⟨hw, h⟩
      · rw [if_pos (wantV_rel hρ hw)]
        have hwp := cop_wp (U := fun _ => False) hN hC hS hρ (Agree.refl _ _) (fun _ _ => rfl) h (fun e a' w' => Q e a' (c0 :: cs) w') (PanQ.no _ _ _ _ _ _)
        have hwp2 : Oper.wp P o a w (fun a' w' => wpOpsS P ops Q (List.range' (k + 1) os.length) a' (c0 :: cs) w') (fun e a' w' => Q e a' (c0 :: cs) w') :=
          Oper.wp_mono (fun a' w' ha => by
            obtain ⟨cv, v, ρ', ρr', m', E', rfl, hk, hst, hv, hρ', hag⟩ := ha
            obtain rfl := hag.eq
            exact more _ _ E' _ w' (by rw [put_defers]; exact hd) hst (put_rel hρ' hv) hk) hwp
        unfold Oper.wp at hwp2
        split
        · rename_i w' hrun
          rw [hrun] at hwp2
          exact hwp2.elim
        · exact hwp2
      · rw [if_neg (by rw [wantV_rel hρ hw]; simp)]
        exact more _ _ E _ w (by rw [put_defers]; exact hd) (Step.refl hS) (put_rel (cv := undef) hρ (by simp [VRel, VsRel, undef])) h
theorem cexecR_sound [Pins] (hN : Named P) (hC : CallsOk P C) (hS0 : Sim E0 m0 w0) {p : V} {cv : Value} {cs : List Frame} (hp : ∀ E, VRel E p cv) (n : Nat) : ∀ (c : Code) (b : Bool) (c0 : Frame) (ρ : Env) (m : Mem) (K : Bool → Ex → Env → Mem → Prop) (E : Wh) (a : Act) (w : World) (Q : Exit → Act → List Frame → World → Prop),
    Step E0 m0 w0 E m w → ERel E ρ a.tmps.toList → a.defers = [] → ModeIs cv b c0.mode → cexecR P C p m0.length n c b ρ m K → (∀ b p ρ m, ¬ K b (.panic p) ρ m) → AfterS E0 m0 w0 cv c0 cs K Q → c.wpS P Q a (c0 :: cs) w := by
  intro c
  have base : ∀ (c : Code) (b : Bool) (c0 : Frame) (ρ : Env) (m : Mem) (K : Bool → Ex → Env → Mem → Prop) (E : Wh) (a : Act) (w : World) (Q : Exit → Act → List Frame → World → Prop),
    Step E0 m0 w0 E m w → ERel E ρ a.tmps.toList → a.defers = [] → ModeIs cv b c0.mode → cexec P C noY (fun _ => none) m0.length n c ρ m (fun e ρ m => match e with | .panic _ => False | e => K b e ρ m) → AfterS E0 m0 w0 cv c0 cs K Q → c.wpS P Q a (c0 :: cs) w := fun c b c0 ρ m K E a w Q hS hρ hd hu h hQ =>
    wpS_of_wp (wpIn_wide.1 (cexec_sound (r := none) hN hC noY_ok hS0 (LoopsOk.none _ _) n c (Keeps.defers [] c) ρ m _ E a w _ hS hρ hd h fun e ρ' m' E' a' w' hk hst hρ' hd' => by
      cases e with
      | panic p => exact hk.elim
      | normal => exact hQ b .normal ρ' m' E' a' w' c0.mode hk (fun _ hh => by cases hh) hst hρ' hd' hu
      | ret => exact hQ b .ret ρ' m' E' a' w' c0.mode hk (fun _ hh => by cases hh) hst hρ' hd' hu
      | exit id => exact hQ b (.exit id) ρ' m' E' a' w' c0.mode hk (fun _ hh => by cases hh) hst hρ' hd' hu))
  induction c with
  | seq x y ihx ihy =>
    intro b c0 ρ m K E a w Q hS hρ hd hu h hn hQ
    simp only [cexecR] at h
    refine wpS_seq (ihx b c0 ρ m _ E a w _ hS hρ hd hu h ?_ ?_)
    · intro b p ρ m hh
      exact hn _ _ _ _ hh
    · intro b' e ρ' m' E' a' w' u' hk hne hst hρ' hd' hu'
      cases e with
      | normal => exact ihy b' { c0 with mode := u' } ρ' m' K E' a' w' Q hst hρ' hd' hu' hk hn fun b2 e2 ρ2 m2 E2 a2 w2 u2 hk2 hne2 hst2 hρ2 hd2 hu2 => hQ b2 e2 ρ2 m2 E2 a2 w2 u2 hk2 hne2 hst2 hρ2 hd2 hu2
      | ret => exact hQ _ _ _ _ _ _ _ _ hk hne hst hρ' hd' hu'
      | exit id => exact hQ _ _ _ _ _ _ _ _ hk hne hst hρ' hd' hu'
      | panic p => exact (hne p rfl).elim
  | cond c x y ihx ihy =>
    intro b c0 ρ m K E a w Q hS hρ hd hu h hn hQ
    simp only [cexecR] at h
    split at h
    · rename_i t hc
      have hcr := opd_rel (a := a) hρ c
      rw [hc] at hcr
      simp only [VRel] at hcr
      refine wpS_cond hcr ?_
      cases t with
      | true => exact ihx b c0 ρ m K E a w Q hS hρ hd hu h hn hQ
      | false => exact ihy b c0 ρ m K E a w Q hS hρ hd hu h hn hQ
    · cases h
  | region id ops draw =>
    intro b c0 ρ m K E a w Q hS hρ hd hu h hn hQ
    simp only [cexecR] at h
    cases draw with
    | true => exact base _ b c0 ρ m K E a w Q hS hρ hd hu h hQ
    | false =>
      refine wpS_region ?_
      have := copsR_sound hN hC (cs := cs) (p := p) (c := cv) _ Q ops.toList 0 b c0 ρ m E a w (fun j => by simp) hd hS.sim hρ hu hp h fun b' ρ' m' E' a' w' u' hk hst hρ' hd' hu' => hQ b' .normal ρ' m' E' a' w' u' hk (fun _ hh => by cases hh) (hS.trans hst) hρ' hd' hu'
      rwa [Array.length_toList, ← List.range_eq_range'] at this
  | _ => intro b c0 ρ m K E a w Q hS hρ hd hu h hn hQ; exact base _ b c0 ρ m K E a w Q hS hρ hd hu h hQ
theorem frame_rel [Pins] {E : Wh} {args : List V} {cargs : Array Value} (hargs : VsRel E args cargs.toList) (N : Nat) :
    ERel E (Tr.puts 0 args (Tr.full (.tup []) (max N args.length) (max N args.length))) (cargs ++ Array.replicate (N - cargs.size) undef).toList := by
  have hlen : args.length = cargs.size := by simpa using hargs.length
  have h0 : ERel E (Tr.full (.tup []) (max N args.length) (max N args.length)) (List.replicate (max N args.length) undef) := by
    intro i v hv
    rw [Tr.look_full _ _ _ _ (Nat.le_refl _)] at hv
    split at hv
    · rename_i hi
      cases hv
      exact ⟨undef, by rw [List.getElem?_replicate, if_pos hi], by simp [VRel, VsRel, undef]⟩
    · cases hv
  have h1 := ERel.puts (n := 0) hargs h0
  rw [Array.toList_append, Array.toList_replicate]
  have e1 : cargs.toList.take (max N args.length) = cargs.toList := List.take_of_length_le (by rw [Array.length_toList, ← hlen]; omega)
  simp only [List.take_zero, List.nil_append, List.length_replicate, Nat.sub_zero, e1, Nat.zero_add, List.drop_replicate, Array.length_toList] at h1
  have e2 : max N args.length - cargs.size = N - cargs.size := by omega
  rw [e2] at h1
  exact h1
/-- What a body comes to. -/
theorem kbody_done [Pins] {fn : Func} {m : Mem} {E : Wh} {w : World} (hS : Sim E m w) {K : V → Mem → Prop} {e : Ex} {ρ' : Env} {m' : Mem} {E' : Wh} {w' : World} {tmps : Array Value} (hk : kbody P m.length fn K e ρ' m') (hst : Step E m w E' m' w') (hρ' : ERel E' ρ' tmps.toList) (hne : ∀ p, e ≠ .panic p) :
    (∀ id, e ≠ .exit id) ∧ ∃ c, (results fn tmps).run P w' = .ok c w' ∧ Ret K E m w (.returned c) w' := by
  have done : ∀ vs, resVs P ρ' m' fn.results.toList = some vs → K (V.ren (fun j => idx? j 0 (keep m' m.length (one vs))) (one vs)) (trim m' (keep m' m.length (one vs))) →
      ∃ c, (results fn tmps).run P w' = .ok c w' ∧ Ret K E m w (.returned c) w' := by
    intro vs hvs hk
    obtain ⟨c, h1, h2⟩ := results_rel (fn := fn) hst.sim hρ' hvs
    refine ⟨c, h1, _, _, Ecut E' (keep m' m.length (one vs)), hk, ?_, h2.cut _⟩
    exact hst.trim (keep_nodup _ _ _) (fun i hi => keep_first _ _ _ hi) hS
  simp only [kbody] at hk
  cases e with
  | exit id => cases hk
  | panic p => exact (hne p rfl).elim
  | normal =>
    simp only at hk
    split at hk
    · rename_i vs hvs; exact ⟨(fun _ hh => nomatch hh), done vs hvs hk⟩
    · cases hk
  | ret =>
    simp only at hk
    split at hk
    · rename_i vs hvs; exact ⟨(fun _ hh => nomatch hh), done vs hvs hk⟩
    · cases hk
theorem kbody_pan [Pins] {fn : Func} {m : Mem} {E : Wh} {w : World} (hS : Sim E m w) {K : V → Mem → Prop} {p : V} {c : Value} {ρ' : Env} {m' : Mem} {E' : Wh} {w' : World} (hk : kbody P m.length fn K (.panic p) ρ' m') (hst : Step E m w E' m' w') (hv : VRel E' p c) :
    Ret K E m w (.panicked [{ v := c, recovered := false }]) w' :=
  ⟨p.ren (fun j => idx? j 0 (keep m' m.length p)), c, _, Ecut E' (keep m' m.length p), rfl, hk, hst.trim (keep_nodup _ _ _) (fun i hi => keep_first _ _ _ hi) hS, hv.cut _⟩
theorem cdef_sound [Pins] (hN : Named P) (hC : CallsOk P C) {n : Nat} {p : V} {b : Bool} {c : Value} {u : FrameMode} (hp : ∀ E, VRel E p c) (hu : ModeIs c b u) {g : FuncId} {args : List V} {m : Mem} {K : V → Mem → Prop} {E : Wh} {w : World} {cargs : Array Value} (hS : Sim E m w) (hargs : VsRel E args cargs.toList) (h : cdefS P C n p b g args m K) :
    (∃ fn, P.funcs[g]? = some fn ∧ fn.body.isSome = true) ∧ CallsD P g cargs u w fun e u' w' => ∃ b', ModeIs c b' u' ∧ Ret (tellB K b') E m w e w' := by
  unfold cdefS at h
  split at h
  · rename_i fn hfn
    split at h
    · rename_i cd hcd
      refine ⟨⟨fn, hfn, by rw [hcd]; rfl⟩, callsD_of_wpS hfn hcd fun c0 cs hm => ?_⟩
      refine cexecR_sound hN hC hS hp n cd b c0 _ m _ E _ w _ (Step.refl hS) (frame_rel hargs fn.ntmps) rfl (by rw [hm]; exact hu) h (fun _ _ _ _ hh => hh) ?_
      intro b' e ρ' m' E' a' w' u' hk hne hst hρ' hd hu'
      cases e with
      | panic q => exact (hne q rfl).elim
      | exit id => exact ((kbody_done hS hk hst hρ' hne).1 id rfl).elim
      | normal =>
        obtain ⟨_, cv, h1, h2⟩ := kbody_done hS hk hst hρ' hne
        exact ⟨hd, u', rfl, cv, h1, b', hu', h2⟩
      | ret =>
        obtain ⟨_, cv, h1, h2⟩ := kbody_done hS hk hst hρ' hne
        exact ⟨hd, u', rfl, cv, h1, b', hu', h2⟩
    · cases h
  · cases h
theorem keepsT_spec [Pins] {t : Tmp} {c : Code} (h : keepsT t c = true) {o : Oper} (ho : o ∈ codeOps c) : o.dst ≠ some t := by
  have := List.all_eq_true.1 h o ho
  intro hd
  rw [hd] at this
  simp at this
theorem put_other [Pins] {a : Act} {x : Option Tmp} {t : Tmp} (h : x ≠ some t) (v : Value) : (a.put x v).tmps[t]? = a.tmps[t]? := by
  cases x with
  | none => rfl
  | some d =>
    have hd : d ≠ t := fun hh => h (by rw [hh])
    simp only [Act.put, Array.getElem?_setIfInBounds, if_neg hd]
theorem deferOf_spec [Pins] {l : List Oper} {o1 : Oper} {t : Tmp} (h : deferOf l = some (o1, t)) : ∃ o2 c, l = [o1, o2] ∧ o2.op = .defer c ∧ o2.guard = none ∧ o2.dst = none ∧ c.callee = .value (.tmp t) ∧ c.args = #[] := by
  unfold deferOf at h
  split at h
  · rename_i p1 p2
    split at h
    · rename_i c ho hg hd
      split at h
      · rename_i t' hc ha
        simp only [Option.some.injEq, Prod.mk.injEq] at h
        obtain ⟨rfl, rfl⟩ := h
        exact ⟨p2, c, rfl, ho, hg, hd, hc, by obtain ⟨cl, ⟨as⟩, ts⟩ := c; simpa using ha⟩
      · cases h
    · cases h
  · cases h
theorem VRel.bare [Pins] {E E' : Wh} {p : V} {c : Value} (hr : V.refs p = []) (h : VRel E p c) : VRel E' p c := by
  have := VRel.ren (E := E) (E' := E') (π := fun k => some k) (v := p) (c := c) (fun k hk => by rw [hr] at hk; cases hk) h
  rwa [V.ren_id] at this
/-- The deferred call, at the end. -/
theorem cdefer_end [Pins] (hN : Named P) (hC : CallsOk P C) {n : Nat} {fn : Func} {m : Mem} {E0 : Wh} {w0 : World} (hS0 : Sim E0 m w0) {K : V → Mem → Prop} {ρ : Env} {m2 : Mem} {E : Wh} {w : World} {a : Act} {g : FuncId} {first captured : List V} {f' c' : Array Value}
    {p : V} {b : Bool} {c : Value} {u : FrameMode} (hp : ∀ E, VRel E p c) (hu : ModeIs c b u) (hb : b = false → p = .undef)
    (hst : Step E0 m w0 E m2 w) (hρ : ERel E ρ a.tmps.toList) (hd : a.defers = [⟨.fn (.func g) c', f' ++ #[]⟩]) (hf : VsRel E first f'.toList) (hc : VsRel E captured c'.toList)
    (h : ccall (cdefS P C n p b) g (first ++ captured) ρ m2 (kdef P m.length fn K p)) : Leaves P fn a.tmps (Ret K E0 m w0) a.defers u w := by
  rw [hd]
  have hargs : VsRel E (first ++ captured) ((f' ++ #[]) ++ c').toList := by
    rw [Array.toList_append, Array.append_empty]
    exact hf.app hc
  generalize hks : foot m2 (first ++ captured) = ks at h
  unfold ccall at h
  rw [hks] at h
  have hn : ks.Nodup := hks ▸ foot_nodup _ _
  have hl : ∀ k ∈ ks, k < m2.length := hks ▸ foot_lt _ _
  obtain ⟨⟨gn, hgn, hbody⟩, hcalls⟩ := cdef_sound hN hC hp hu (hst.sim.cut' hn) (hargs.cut ks) h
  have hb : gn.body.isNone = false := by cases hfb : gn.body <;> simp_all
  have hnm := hN g gn hgn
  have hur : u ≠ .run := by
    cases b with
    | true => simp only [ModeIs] at hu; rw [hu]; simp
    | false => rcases hu with hu | hu <;> rw [hu] <;> simp
  refine leaves_cons hur (f := g) (args := (f' ++ #[]) ++ c') ?_ (hcalls.mono fun e u' w' ⟨b', hu', he⟩ => ?_)
  · simp only [invoke, callFunc, Sem.run_bind, Sem.run_pure, Result.andThen_ok, run_program, hgn, hnm, hb, Bool.false_eq_true, if_false]
  · cases e with
    | panicked ch =>
      obtain ⟨q, cq, mf, E1, _, hK, _⟩ := he
      exact hK.elim
    | outgrown => exact he.elim
    | returned cv =>
      obtain ⟨v, mf, E1, hK, hs, hr⟩ := he
      have hK2 : kdef P m.length fn K p (.B b') (dropE (movedOf ks mf) ρ) (putB ks m2.length mf (movedOf ks mf) 0 m2 ++ newsB ks m2.length mf) := by
        unfold tellB at hK
        split at hK
        · exact hK.elim
        · simpa only [V.ren] using hK
      cases b' with
      | true =>
        simp only [ModeIs] at hu'
        subst hu'
        simp only [kdef] at hK2
        exact kbody_pan hS0 hK2 (hst.trans (hs.back hst.sim hn hl)) (hp _)
      | false =>
        simp only [kdef] at hK2
        obtain ⟨_, cv', h1, h2⟩ := kbody_done hS0 hK2 (hst.trans (hs.back hst.sim hn hl)) (dropE_rel hst.sim hn hs hρ) (fun _ hh => by cases hh)
        rcases hu' with rfl | rfl
        · exact ⟨cv', h1, h2⟩
        · exact ⟨cv', h1, h2⟩
theorem deferHere_spec [Pins] {A : Code} {ops : Array Oper} {o1 : Oper} {t : Tmp} (h : deferHere A = some (ops, o1, t)) : ∃ id, A = .region id ops false ∧ deferOf ops.toList = some (o1, t) := by
  unfold deferHere at h
  split at h
  · split at h
    · rename_i id ops' o1' t' hd
      cases h
      exact ⟨_, rfl, hd⟩
    · cases h
  · cases h
theorem cfromD_sound [Pins] (hN : Named P) (hC : CallsOk P C) {W : Masks} {n : Nat} {fn : Func} {m0 : Mem} (hW : LoopsOk P m0.length W) {K : V → Mem → Prop} {E0 : Wh} {w0 : World} (hS0 : Sim E0 m0 w0) : ∀ (c : Code) (ρ : Env) (m : Mem) (E : Wh) (a : Act) (w : World),
    Step E0 m0 w0 E m w → ERel E ρ a.tmps.toList → a.defers = [] → cfromD P C W n m0.length fn K c ρ m → c.wp P (bodyPostD P fn (Ret K E0 m0 w0)) a w := by
  intro c
  induction c with
  | seq A B ihA ih =>
    intro ρ m E a w hst hρ hd h
    simp only [cfromD] at h
    split at h
    · rename_i ops o1 t hdh
      obtain ⟨id, rfl, hdf⟩ := deferHere_spec hdh
      obtain ⟨o2, c, hops, ho2, hg2, hd2, hcal, hca⟩ := deferOf_spec hdf
      split at h
      · rename_i hkt
        refine wp_seq (wp_region_list ?_)
        rw [hops]
        refine wpList_step fun K' hK' => ?_
        -- what comes behind the first of the two operations
        have key : ∀ (ρ2 : Env) (m2 : Mem) (E2 : Wh) (a2 : Act) (w2 : World), Step E0 m0 w0 E2 m2 w2 → ERel E2 ρ2 a2.tmps.toList → a2.defers = [] →
            (match ρ2.get t with
             | .fn (.func _) _ _ => cexec P C noY W m0.length n B ρ2 m2 (kdefer P C m0.length n fn K t)
             | _ => False) → K' a2 w2 := by
          intro ρ2 m2 E2 a2 w2 hst2 hρ2 hd2' hk2
          refine hK' _ _ (wpList_step fun K'' hK'' => ?_)
          have hw2 : Region.wanted o2 (yielded ops a2.tmps) = true := by unfold Region.wanted; rw [hg2]
          rw [if_pos hw2]
          split at hk2
          · rename_i g first captured hget
            have hv := hρ2.get t undef
            rw [hget] at hv
            simp only [VRel] at hv
            obtain ⟨f', c', hcv, hff, hcc⟩ := hv
            have htv : a2.tmps[t]? = some (.func (.func g) f' c') := by
              have hl := Tr.get_set_self hget (by simp)
              obtain ⟨cv, hcv', _⟩ := hρ2 t _ hl
              rw [List.getD_eq_getElem?_getD, hcv'] at hcv
              simp only [Option.getD_some] at hcv
              rw [← hcv]
              simpa using hcv'
            have hev : a2.eval (.tmp t) = .func (.func g) f' c' := by
              simp only [Act.eval, Array.getD_eq_getD_getElem?, htv, Option.getD_some]
            have hrun : (execOp a2.eval o2).run P w2 = .ok (.defer ⟨.fn (.func g) c', f' ++ #[]⟩) w2 := by
              simp only [execOp, ho2, resolve, hcal, hca, hev, Deferred.ofValue, Sem.run_bind, Sem.run_pure, Result.andThen_ok, List.map_toArray, List.map_nil]
              try rfl
            unfold Oper.wp
            rw [hrun, Oper.upon_defer, hd2]
            refine hK'' _ _ (wpList_nil ?_)
            have hJ : Keeps (fun a => a.defers = [⟨.fn (.func g) c', f' ++ #[]⟩] ∧ a.tmps[t]? = some (.func (.func g) f' c')) B := fun o ho a v hj =>
              ⟨(put_defers a o.dst v).trans hj.1, (put_other (keepsT_spec hkt ho) v).trans hj.2⟩
            refine wpIn_wide.1 (cexec_sound (r := none) hN hC noY_ok hS0 hW n B hJ ρ2 m2 _ E2 _ w2 _ hst2 (by simpa [Act.put] using hρ2) ⟨by simp [Act.put, hd2'], by simpa [Act.put] using htv⟩ hk2 ?_)
            intro e ρ3 m3 E3 a3 w3 hk3 hst3 hρ3 hj3
            have fin : ∀ (p : V) (b : Bool) (cp : Value) (u : FrameMode), (∀ E, VRel E p cp) → ModeIs cp b u → (b = false → p = .undef) → (match ρ3.get t with
                | .fn (.func g) first captured => ccall (cdefS P C n p b) g (first ++ captured) ρ3 m3 (kdef P m0.length fn K p)
                | _ => False) → Leaves P fn a3.tmps (Ret K E0 m0 w0) a3.defers u w3 := by
              intro p b cp u hp hu hb hk3
              split at hk3
              · rename_i g3 first3 captured3 hget3
                have hv3 := hρ3.get t undef
                rw [hget3] at hv3
                have htv3 : a3.tmps.toList.getD t undef = .func (.func g) f' c' := by
                  rw [List.getD_eq_getElem?_getD, Array.getElem?_toList, hj3.2]; rfl
                rw [htv3] at hv3
                simp only [VRel] at hv3
                obtain ⟨f3, c3, heq, hff3, hcc3⟩ := hv3
                simp only [Value.func.injEq] at heq
                obtain ⟨hg3, rfl, rfl⟩ := heq
                have hgg : g3 = g := by simpa using hg3.symm
                subst hgg
                exact cdefer_end hN hC hS0 hp hu hb hst3 hρ3 hj3.1 hff3 hcc3 hk3
              · cases hk3
            have any : ∀ E : Wh, VRel E .undef undef := fun E => by simp [VRel]
            cases e with
            | exit id => exact hk3.elim
            | normal => exact fin .undef false undef .returning any (.inl rfl) (fun _ => rfl) hk3
            | ret => exact fin .undef false undef .returning any (.inl rfl) (fun _ => rfl) hk3
            | panic p =>
              intro cp hv
              simp only [kdefer] at hk3
              split at hk3
              · rename_i hrefs
                exact fin p true cp _ (fun E => hv.bare hrefs) rfl (fun hh => by cases hh) hk3
              · exact hk3.elim
          · cases hk2
        simp only [cstep] at h
        rcases cguard_cases h with ⟨hw, h⟩ | ⟨hw, h⟩
        · have hw' : Region.wanted o1 (yielded ops a.tmps) = true := wantV_rel hρ hw
          rw [if_pos hw']
          refine Oper.wp_mono (fun a' w' ha => ?_) (cop_wp (U := fun _ => False) hN hC hst.sim hρ (Agree.refl _ _) (fun _ _ => rfl) h _ (PanQ.no _ _ _ _ _ _))
          obtain ⟨cv, v, ρ', ρr', m', E', rfl, hk, hst', hv, hρ', hag⟩ := ha
          obtain rfl := hag.eq
          exact key _ _ E' _ w' (hst.trans hst') (put_rel hρ' hv) (by rw [put_defers]; exact hd) hk
        · have hw' : Region.wanted o1 (yielded ops a.tmps) = false := wantV_rel hρ hw
          rw [if_neg (by rw [hw']; simp)]
          exact key _ _ E _ w hst (put_rel (cv := undef) hρ (by simp [VRel, VsRel, undef])) (by rw [put_defers]; exact hd) h
      · cases h
    · refine wp_seq (wpIn_wide.1 (cexec_sound (r := none) hN hC noY_ok hS0 hW n A (Keeps.defers [] A) ρ m _ E a w _ hst hρ hd h ?_))
      intro e ρ1 m1 E1 a1 w1 hk1 hst1 hρ1 hd1
      cases e with
      | normal => exact ih ρ1 m1 E1 a1 w1 hst1 hρ1 hd1 hk1
      | exit id => exact hk1.elim
      | panic p =>
        intro c hv
        show Leaves P fn a1.tmps (Ret K E0 m0 w0) a1.defers _ w1
        rw [hd1]
        exact kbody_pan hS0 hk1 hst1 hv
      | ret =>
        obtain ⟨_, cv, h1, h2⟩ := kbody_done hS0 hk1 hst1 hρ1 (fun _ hh => by cases hh)
        show Leaves P fn a1.tmps (Ret K E0 m0 w0) a1.defers .returning w1
        rw [hd1]
        exact ⟨cv, h1, h2⟩
  | _ => intro ρ m E a w hst hρ hd h; simp only [cfromD] at h
theorem cbodyD_sound [Pins] (hN : Named P) (hC : CallsOk P C) {W : Masks} {n : Nat} {f : FuncId} {fn : Func} (hf : P.funcs[f]? = some fn) {args : List V} {m : Mem} (hW : LoopsOk P m.length W) {K : V → Mem → Prop} {E : Wh} {w : World} {cargs : Array Value}
    (hS : Sim E m w) (hargs : VsRel E args cargs.toList) (h : cbodyD P C W n fn args m K) : (∃ fn, P.funcs[f]? = some fn ∧ fn.body.isSome = true) ∧ Calls P f cargs w (Ret K E m w) := by
  unfold cbodyD at h
  split at h
  · rename_i c hbody
    exact ⟨⟨fn, hf, by rw [hbody]; rfl⟩, calls_of_wp_defers hf hbody (cfromD_sound hN hC hW hS c _ m E _ w (Step.refl hS) (frame_rel hargs fn.ntmps) rfl h)⟩
  · cases h
theorem cbodyD_use [Pins] (hN : Named P) {C : CC} (hC : CallsOk P C) {W : Masks} {n : Nat} {f : FuncId} {fn : Func} (hf : P.funcs[f]? = some fn) {args : List V} {m : Mem} {l : Nat} (hl : m.length = l) (hW : LoopsOk P l W) {K : V → Mem → Prop} {X : Prop} (hX : cbodyD P C W n fn args m K = X)
    {E : Wh} {w : World} {cargs : Array Value} (hS : Sim E m w) (hargs : VsRel E args cargs.toList) (h : X) : ((∃ fn, P.funcs[f]? = some fn ∧ fn.body.isSome = true) ∧ Calls P f cargs w (Ret K E m w)) ∨
    ∃ cv w', (callFunc f cargs).run P w = .ok (.value cv) w' ∧ Ret K E m w (.returned cv) w' := by
  subst hX; subst hl; exact .inl (cbodyD_sound hN hC hf hW hS hargs h)
/-- Is it a body with one deferred call? -/
def hasDeferC : Code → Bool
  | .seq A B => (match deferHere A with | some _ => true | none => hasDeferC B)
  | _ => false
def hasDefer (fn : Func) : Bool := match fn.body with | some c => hasDeferC c | _ => false
/-- Calls, with deferred ones. -/
def callD (P : Program) (S : Prims) : Nat → CC
  | 0 => fun _ _ _ _ => False
  | n + 1 => fun f args m K =>
    match S f with
    | some g => g args m K
    | none =>
      match P.funcs[f]? with
      | some fn => (match hasDefer fn with | true => cbodyD P (callD P S n) (fun _ => none) n fn args m K | false => cbody P (callD P S n) (fun _ => none) n fn args m K)
      | none => False
theorem callD_sound [Pins] (hN : Named P) {S : Prims} (hP : PrimsOk P S) : ∀ n, CallsOk P (callD P S n)
  | 0 => fun g args m K E w cargs hS ha h => by simp [callD] at h
  | n + 1 => fun g args m K E w cargs hS ha h => by
    simp only [callD] at h
    split at h
    · rename_i f hf
      exact hP g f hf args m K E w cargs hS ha h
    · split at h
      · rename_i fn hfn
        split at h
        · exact .inl (cbodyD_sound hN (callD_sound hN hP n) hfn (LoopsOk.none _ _) hS ha h)
        · exact .inl (cbody_sound hN (callD_sound hN hP n) hfn (LoopsOk.none _ _) hS ha h)
      · cases h
end
/-! ## The first parts of a body, and what is left -/
section
variable (P : Program) (C : CC)
def cpre (W : Masks) (a n : Nat) : Nat → Code → Env → Mem → (Ex → Env → Mem → Prop) → (Code → Env → Mem → (Ex → Env → Mem → Prop) → Prop) → Prop
  | 0, c, ρ, m, K, KX => KX c ρ m K
  | d + 1, c, ρ, m, K, KX =>
    match c with
    | .seq x y => cexec P C noY W a n x ρ m fun e ρ m => match e with | .normal => cpre W a n d y ρ m K KX | e => K e ρ m
    | _ => False
variable {P C}
theorem cpre_sound [Pins] (hN : Named P) (hC : CallsOk P C) {E0 : Wh} {m0 : Mem} {w0 : World} {J : Act → Prop} (hS0 : Sim E0 m0 w0) {W : Masks} (hW : LoopsOk P m0.length W) (n : Nat) : ∀ (d : Nat) (c : Code), Keeps J c →
    Doing P none E0 m0 w0 J c fun ρ m K => cpre P C W m0.length n d c ρ m K fun c ρ m K => cexec P C noY W m0.length n c ρ m K
  | 0, c, hJ => cexec_sound hN hC noY_ok hS0 hW n c hJ
  | d + 1, c, hJ => by
    intro ρ m K E a w Q hS hρ hd h hQ
    unfold cpre at h
    split at h
    · rename_i x y
      refine wpIn_seq (cexec_sound hN hC noY_ok hS0 hW n x (fun o ho => hJ o (List.mem_append_left _ ho)) ρ m _ E a w _ hS hρ hd h ?_)
      intro e ρ' m' E' a' w' hk hst hρ' hd'
      cases e with
      | normal => exact cpre_sound hN hC hS0 hW n d y (fun o ho => hJ o (List.mem_append_right _ ho)) ρ' m' K E' a' w' Q hst hρ' hd' hk hQ
      | ret => exact hQ _ _ _ _ _ _ hk hst hρ' hd'
      | exit id => exact hQ _ _ _ _ _ _ hk hst hρ' hd'
      | panic p => exact hQ _ _ _ _ _ _ hk hst hρ' hd'
    · exact h.elim
theorem cbodyP_use [Pins] (hN : Named P) {C : CC} (hC : CallsOk P C) {W : Masks} {n d : Nat} {f : FuncId} {fn : Func} (hf : P.funcs[f]? = some fn) {c : Code} (hb : fn.body = some c) {args : List V} {m : Mem} {l : Nat} (hl : m.length = l) (hW : LoopsOk P l W) {K : V → Mem → Prop}
    {E : Wh} {w : World} {cargs : Array Value} (hS : Sim E m w) (hargs : VsRel E args cargs.toList)
    (h : cpre P C W l n d c (Tr.puts 0 args (Tr.full (.tup []) (max fn.ntmps args.length) (max fn.ntmps args.length))) m (kbody P l fn K) fun c ρ m K => cexec P C noY W l n c ρ m K) :
    ((∃ fn, P.funcs[f]? = some fn ∧ fn.body.isSome = true) ∧ Calls P f cargs w (Ret K E m w)) ∨ ∃ cv w', (callFunc f cargs).run P w = .ok (.value cv) w' ∧ Ret K E m w (.returned cv) w' := by
  subst hl
  refine .inl ⟨⟨fn, hf, by rw [hb]; rfl⟩, calls_of_wp hf hb (wpIn_wide (n := 0).1 ?_)⟩
  refine cpre_sound hN hC hS hW n d c (Keeps.defers [] c) _ m _ E _ w _ (Step.refl hS) (frame_rel hargs fn.ntmps) rfl h ?_
  intro e ρ' m' E' a' w' hk hst hρ' hd
  cases e with
  | panic p => exact fun c hv => ⟨hd, kbody_pan hS hk hst hv⟩
  | exit id => exact ((kbody_done hS hk hst hρ' (fun _ hh => by cases hh)).1 id rfl).elim
  | normal => obtain ⟨_, cv, h1, h2⟩ := kbody_done hS hk hst hρ' (fun _ hh => by cases hh); exact ⟨hd, cv, h1, h2⟩
  | ret => obtain ⟨_, cv, h1, h2⟩ := kbody_done hS hk hst hρ' (fun _ hh => by cases hh); exact ⟨hd, cv, h1, h2⟩
/-! ## The first parts of a body, what is left from another frame of the same values -/
/-- Another frame of the same values. -/
def Conv [Pins] (ρ ρ' : Env) : Prop := ∀ (E : Wh) (cs : List Value), ERel E ρ cs → ERel E ρ' cs
theorem Conv.refl [Pins] (ρ : Env) : Conv ρ ρ := fun _ _ h => h
theorem Conv.trans [Pins] {ρ ρ' ρ'' : Env} (h : Conv ρ ρ') (h' : Conv ρ' ρ'') : Conv ρ ρ'' := fun E cs g => h' E cs (h E cs g)
/-- A number told as q * c + d. -/
theorem Conv.lin [Pins] {ρ : Env} {t : Nat} {k : IntKind} {i : Nat} {n q b c d : Int} (hg : ρ.get t = .I k n) (hn : n = q * c + d) (hq : q = Pins.num i) (h0 : 0 ≤ q) (h1 : q < b) : Conv ρ (ρ.set t (.L k i q b c d)) := by
  intro E cs h
  have hv := h.get t undef
  rw [hg] at hv
  simp only [VRel] at hv
  have hL : VRel E (.L k i q b c d) (cs.getD t undef) := by
    simp only [VRel]
    rw [← hn]
    exact ⟨hv.1, hv.2, hq, h0, h1⟩
  have := ERel.set hL h t
  rwa [set_own] at this
theorem cpreC_sound [Pins] (hN : Named P) (hC : CallsOk P C) {E0 : Wh} {m0 : Mem} {w0 : World} {J : Act → Prop} (hS0 : Sim E0 m0 w0) {W : Masks} (hW : LoopsOk P m0.length W) (n : Nat) : ∀ (d : Nat) (c : Code), Keeps J c →
    Doing P none E0 m0 w0 J c fun ρ m K => cpre P C W m0.length n d c ρ m K fun c ρ m K => ∃ ρ', Conv ρ ρ' ∧ cexec P C noY W m0.length n c ρ' m K
  | 0, c, hJ => by
    intro ρ m K E a w Q hS hρ hd h hQ
    unfold cpre at h
    obtain ⟨ρ', hc, h⟩ := h
    exact cexec_sound hN hC noY_ok hS0 hW n c hJ ρ' m K E a w Q hS (hc E _ hρ) hd h hQ
  | d + 1, c, hJ => by
    intro ρ m K E a w Q hS hρ hd h hQ
    unfold cpre at h
    split at h
    · rename_i x y
      refine wpIn_seq (cexec_sound hN hC noY_ok hS0 hW n x (fun o ho => hJ o (List.mem_append_left _ ho)) ρ m _ E a w _ hS hρ hd h ?_)
      intro e ρ' m' E' a' w' hk hst hρ' hd'
      cases e with
      | normal => exact cpreC_sound hN hC hS0 hW n d y (fun o ho => hJ o (List.mem_append_right _ ho)) ρ' m' K E' a' w' Q hst hρ' hd' hk hQ
      | ret => exact hQ _ _ _ _ _ _ hk hst hρ' hd'
      | exit id => exact hQ _ _ _ _ _ _ hk hst hρ' hd'
      | panic p => exact hQ _ _ _ _ _ _ hk hst hρ' hd'
    · exact h.elim
theorem cbodyC_use [Pins] (hN : Named P) {C : CC} (hC : CallsOk P C) {W : Masks} {n d : Nat} {f : FuncId} {fn : Func} (hf : P.funcs[f]? = some fn) {c : Code} (hb : fn.body = some c) {args : List V} {m : Mem} {l N : Nat} (hl : m.length = l) (hM : max fn.ntmps args.length = N) (hW : LoopsOk P l W) {K : V → Mem → Prop}
    {E : Wh} {w : World} {cargs : Array Value} (hS : Sim E m w) (hargs : VsRel E args cargs.toList) {X : Prop}
    (hX : cpre P C W l n d c (Tr.puts 0 args (Tr.full (.tup []) N N)) m (kbody P l fn K) (fun c ρ m K => ∃ ρ', Conv ρ ρ' ∧ cexec P C noY W l n c ρ' m K) = X) (h : X) :
    ((∃ fn, P.funcs[f]? = some fn ∧ fn.body.isSome = true) ∧ Calls P f cargs w (Ret K E m w)) ∨ ∃ cv w', (callFunc f cargs).run P w = .ok (.value cv) w' ∧ Ret K E m w (.returned cv) w' := by
  subst hl; subst hM; subst hX
  refine .inl ⟨⟨fn, hf, by rw [hb]; rfl⟩, calls_of_wp hf hb (wpIn_wide (n := 0).1 ?_)⟩
  refine cpreC_sound hN hC hS hW n d c (Keeps.defers [] c) _ m _ E _ w _ (Step.refl hS) (frame_rel hargs fn.ntmps) rfl h ?_
  intro e ρ' m' E' a' w' hk hst hρ' hd
  cases e with
  | panic p => exact fun c hv => ⟨hd, kbody_pan hS hk hst hv⟩
  | exit id => exact ((kbody_done hS hk hst hρ' (fun _ hh => by cases hh)).1 id rfl).elim
  | normal => obtain ⟨_, cv, h1, h2⟩ := kbody_done hS hk hst hρ' (fun _ hh => by cases hh); exact ⟨hd, cv, h1, h2⟩
  | ret => obtain ⟨_, cv, h1, h2⟩ := kbody_done hS hk hst hρ' (fun _ hh => by cases hh); exact ⟨hd, cv, h1, h2⟩
end
end Go.Ab
