/- Loops over maps whose rounds leave all as it was: a round is looked at once for each entry. -/
import Derived.Test.YtjciabbnncidjaaGreatAbYield
set_option linter.unusedSimpArgs false
set_option linter.unusedVariables false
namespace Go.Ab
open Go

/-- Operations that look at no memory. -/
def noMem (o : Oper) : Bool := match o.op with | .move _ | .assign _ | .binOp _ _ _ _ _ | .unOp _ _ _ | .convert _ _ _ | .extract _ _ => true | _ => false
section
variable (P : Program)
/-- An operation of a round: the iterator 't' stands at 'en'. -/
def pval (t : Tmp) (en : V) (o : Oper) (ρ : Env) : Option V :=
  match o.op with
  | .entry (.tmp t') => (match Nat.beq t' t with | true => some en | false => none)
  | .pick c x y => (match opd ρ c with | .B b => (match b with | true => some (opd ρ x) | false => some (opd ρ y)) | _ => none)
  | _ => (match noMem o with | true => (match sop0 P o ρ [] with | some (true, v, _, _) => some v | _ => none) | false => none)
def pops (t : Tmp) (en : V) (all : List Oper) : List Oper → Env → Option Env
  | [], ρ => some ρ
  | o :: os, ρ =>
    (match wantV all o ρ with
     | some b => (match b with | true => (match pval P t en o ρ with | some v => pops t en all os (put o.dst v ρ) | none => none) | false => pops t en all os (put o.dst (.tup []) ρ))
     | none => none)
/-- Code of such operations. -/
def pexec (t : Tmp) (en : V) : Code → Env → Option (Ex × Env)
  | .skip, ρ => some (.normal, ρ)
  | .region _ ops draw, ρ => (match draw with | false => (match pops P t en ops.toList ops.toList ρ with | some ρ => some (.normal, ρ) | none => none) | true => none)
  | .seq x y, ρ => (match pexec t en x ρ with | some (e, ρ) => (match e with | .normal => pexec t en y ρ | e => some (e, ρ)) | none => none)
  | .cond c x y, ρ => (match opd ρ c with | .B b => (match b with | true => pexec t en x ρ | false => pexec t en y ρ) | _ => none)
  | .block id x, ρ => (match pexec t en x ρ with | some (e, ρ) => (match e with | .exit j => (match Nat.beq j id with | true => some (.normal, ρ) | false => some (.exit j, ρ)) | e => some (e, ρ)) | none => none)
  | .exit id, ρ => some (.exit id, ρ)
  | .ret, ρ => some (.ret, ρ)
  | .scope x, ρ => pexec t en x ρ
  | .label _, ρ => some (.normal, ρ)
  | _, _ => none
/-- The temporaries that code writes. -/
def dstsOf (c : Code) : List Tmp := (codeOps c).filterMap (·.dst)
/-- The head of such a loop: the iterator, the round's word, whether there is a round, where it ends, the round. -/
def headOf : Code → Option (Tmp × Tmp × Tmp × Nat × Code)
  | .seq (.region _ ops false) (.seq (.cond (.tmp c) .skip (.exit q)) y) =>
    (match ops.toList with
     | [o1, o2] =>
       (match o1.op, o1.dst, o1.guard, o2.op, o2.dst, o2.guard with
        | .next (.tmp t) false, some d1, none, .extract (.tmp d1') 0, some c', none => if d1' = d1 ∧ c' = c then some (t, d1, c, q, y) else none
        | _, _, _, _, _, _ => none)
     | _ => none)
  | _ => none
/-- All rounds: whoever goes on leaves all as it was. -/
def rounds (t d1 c : Tmp) (y : Code) (ρ : Env) (mg : Mem) (K : Ex → Env → Mem → Prop) : List (V × V) → Prop → Prop
  | [], R => R
  | p :: es, R =>
    (match pexec P t (.tup [p.1, p.2]) y ((ρ.set d1 (.tup [.B true, p.1, p.2])).set c (.B true)) with
     | some (e, ρ') => (match e with | .normal => rounds t d1 c y ρ mg K es R | e => K e ρ' mg ∧ rounds t d1 c y ρ mg K es R)
     | none => False)
/-- The iterator 'r', wherever it is. -/
def goneAt (r : Nat) (m : Mem) : Mem :=
  match (m.getD r default).ro, (m.getD r default).sp with
  | false, some (.it _ _ _ _) => m.set r ⟨[.gone], (m.getD r default).et, false, (m.getD r default).mv⟩
  | _, _ => m
def mapLoop : LoopF := fun x ρ m K =>
  match headOf x with
  | some (t, d1, c, q, y) =>
    (match keepsT t x, ρ.get t with
     | true, .itp r =>
       (match (m.getD r default).ro, (m.getD r default).sp with
        | false, some (.it j n [] last) =>
          (match (m.getD j default).mp with
           | some es =>
             (match Nat.beq es.length n && Nat.beq last n with
              | true => (match (undefs (dstsOf x) ρ).has d1 && (undefs (dstsOf x) ρ).has c with
                | true => rounds P t d1 c y (undefs (dstsOf x) ρ) (goneAt r m) K es (K (.exit q) (((undefs (dstsOf x) ρ).set d1 (.tup [.B false])).set c (.B false)) (goneAt r m))
                | false => False)
              | false => False)
           | none => False)
        | _, _ => False)
     | _, _ => False)
  | none => False
/-- A loop whose temporaries are forgotten at its head, and whose memory is told in other words at its end. -/
def cfor (ds : List Tmp) (gm : Mem → Mem) (body : Env → Mem → (Ex → Env → Mem → Prop) → Prop) : Nat → Env → Mem → (Ex → Env → Mem → Prop) → Prop
  | 0, _, _, _ => False
  | n + 1, ρ, m, K => body (undefs ds ρ) m fun e ρ m => match e with | .normal => cfor ds gm body n ρ m K | e => K e ρ (gm m)
end
section
variable {P : Program} {C : CC} {Y : YC} {KP : V → Env → Mem → Prop} {r : Nat} {ρ ρ' : Env} {M : Mem} {t : Tmp} {en v : V}
theorem sop0_noMem {o : Oper} (hn : noMem o = true) {c : Bool} {ρ1 : Env} {m1 : Mem} (h : sop0 P o ρ [] = some (c, v, ρ1, m1)) : sop0 P o ρ M = some (c, v, ρ, M) := by
  unfold noMem at hn
  unfold sop0 at h ⊢
  split at hn
  · rename_i x ho; rw [ho] at h ⊢; simp only [okV] at h ⊢; cases h; rfl
  · rename_i x ho; rw [ho] at h ⊢; simp only [okV] at h ⊢; cases h; rfl
  · rename_i op tt x y z ho
    rw [ho] at h ⊢
    simp only at h ⊢
    cases hb : bop P op tt (opd ρ x) (opd ρ y) with
    | none => rw [hb] at h; simp [okC] at h
    | some q => rw [hb] at h; simp only [okC] at h ⊢; cases h; rfl
  · rename_i op tt x ho
    rw [ho] at h ⊢
    simp only at h ⊢
    cases hb : uop op (opd ρ x) with
    | none => rw [hb] at h; simp [okO] at h
    | some q => rw [hb] at h; simp only [okO] at h ⊢; cases h; rfl
  · rename_i s d x ho
    rw [ho] at h ⊢
    simp only at h ⊢
    have hc : ∀ q, cop1 P s d [] (opd ρ x) = some q → cop1 P s d M (opd ρ x) = some q := by
      intro q hq
      unfold cop1 at hq ⊢
      split at hq
      · exact hq
      · exact hq
      · exact hq
      · rename_i e he hd
        try simp only [he, hd]
        split at hq
        · rename_i hu
          try simp only [hu]
          split at hq
          · rename_i b hb
            have : bytesOf M (opd ρ x) = some b := by
              unfold bytesOf at hb ⊢
              split at hb
              · exact hb
              · have : ∀ k, (([] : Mem).getD k default : Blk).cols = [] := fun _ => rfl
                simp only [this] at hb
                cases hb
              · cases hb
            first | exact hq | (rw [this]; exact hq)
          · cases hq
        · cases hq
      · cases hq
    cases hb : cop1 P s d [] (opd ρ x) with
    | none => rw [hb] at h; simp [okO] at h
    | some q => rw [hb] at h; rw [hc q hb]; simp only [okO] at h ⊢; cases h; rfl
  · rename_i x ix ho
    rw [ho] at h ⊢
    simp only at h ⊢
    split at h
    · rename_i vs hv
      cases hb : vs[ix]? with
      | none => rw [hb] at h; simp [okO] at h
      | some q => rw [hb] at h; simp only [okO] at h ⊢; cases h; rfl
    · cases h
  · cases hn
theorem cop_pval [Pins] {o : Oper} (h : pval P t en o ρ = some v) (ht : ρ.get t = .itp r) (hM : entryV M (.itp r) = some en) {K : V → Env → Mem → Prop} (hK : K v ρ M) : cop P C Y KP o ρ M K := by
  unfold pval at h
  split at h
  · rename_i t' ho
    split at h
    · rename_i hb
      obtain rfl := Nat.eq_of_beq_eq_true hb
      cases h
      unfold cop
      rw [ho]
      have h0 : sop0 P o ρ M = none := by unfold sop0; simp only [ho]
      have h1 : xop P o (o.op.operands.toList.map (opd ρ)) M = some (true, en, M) := by
        simp only [ho, Op.operands, xop, xmap, opd, List.map_cons, List.map_nil, ht, hM]
      simp only [csop, sop, h0, h1]
      exact hK
    · cases h
  · rename_i c x y ho
    split at h
    · rename_i b hb
      unfold cop
      rw [ho]
      simp only [hb]
      cases b with
      | true => simp only at h ⊢; cases h; rw [refine_same hb]; exact hK
      | false => simp only at h ⊢; cases h; rw [refine_same hb]; exact hK
    · cases h
  · split at h
    · rename_i hn
      split at h
      · rename_i v' ρ1 m1 hs
        cases h
        have hs' := sop0_noMem (M := M) hn hs
        have key : csop P o ρ M K := by simp only [csop, sop, hs']; exact hK
        unfold cop
        unfold noMem at hn
        split at hn <;> rename_i ho <;> first | (rw [ho]; exact key) | cases hn
      · cases h
    · cases h
theorem cguard_want [Pins] {all : List Oper} {o : Oper} {yes no : Env → Prop} {b : Bool} (h : wantV all o ρ = some b) (h1 : b = true → yes ρ) (h2 : b = false → no ρ) : cguard all o ρ yes no := by
  unfold cguard
  unfold wantV at h
  cases hg : o.guard with
  | none => rw [hg] at h; simp only at h ⊢; cases h; exact h1 rfl
  | some jw =>
    obtain ⟨j, want⟩ := jw
    rw [hg] at h
    simp only at h ⊢
    cases hs : slotOf all j with
    | none => rw [hs] at h; simp only at h ⊢; cases h; exact h2 rfl
    | some d =>
      rw [hs] at h
      simp only at h ⊢
      generalize hx : ρ.get d = x at h ⊢
      cases x with
      | B x =>
        cases x with
        | true =>
          simp only [refine_slot hx] at h ⊢
          cases want with
          | true => cases h; exact h1 rfl
          | false => cases h; exact h2 rfl
        | false =>
          simp only [refine_slot hx] at h ⊢
          cases want with
          | true => cases h; exact h2 rfl
          | false => cases h; exact h1 rfl
      | tup vs =>
        cases vs with
        | nil => cases h; exact h2 rfl
        | cons _ _ => cases h
      | _ => cases h
theorem put_get_ne [Pins] {dst : Option Tmp} (h : dst ≠ some t) (x : V) (ρ : Env) : (Ab.put dst x ρ).get t = ρ.get t := by
  cases dst with
  | none => rfl
  | some d => exact Tr.get_set_ne _ (fun hh => h (by rw [hh])) _
theorem put_agree [Pins] {dst : Option Tmp} {ds : List Tmp} (h : ∀ d, dst = some d → d ∈ ds) (x : V) (ρ : Env) : Agree (· ∈ ds) ρ (Ab.put dst x ρ) := by
  cases dst with
  | none => exact Agree.refl _ _
  | some d =>
    refine ⟨fun i => ?_, fun i hi => ?_⟩
    · simp only [Ab.put, Tr.look_set]; split <;> simp
    · simp only [Ab.put]; exact Tr.look_set_ne _ (fun hh => hi (by subst hh; exact h d rfl)) _
theorem Agree.trans [Pins] {U : Nat → Prop} {ρ1 ρ2 ρ3 : Env} (h : Agree U ρ1 ρ2) (h' : Agree U ρ2 ρ3) : Agree U ρ1 ρ3 :=
  ⟨fun d => (h'.1 d).trans (h.1 d), fun d hd => (h'.2 d hd).trans (h.2 d hd)⟩
theorem cops_pops [Pins] {all : List Oper} (hM : entryV M (.itp r) = some en) {K : Env → Mem → Prop} {ds : List Tmp} : ∀ {os : List Oper} {ρ ρ' : Env}, pops P t en all os ρ = some ρ' → ρ.get t = .itp r → (∀ o ∈ os, o.dst ≠ some t) → (∀ o ∈ os, ∀ d, o.dst = some d → d ∈ ds) →
    (ρ'.get t = .itp r ∧ Agree (· ∈ ds) ρ ρ') ∧ (K ρ' M → cops P C Y KP all os ρ M K)
  | [], ρ, ρ', h, ht, hk, hd => by
    simp only [pops] at h
    cases h
    exact ⟨⟨ht, Agree.refl _ _⟩, fun hK => hK⟩
  | o :: os, ρ, ρ', h, ht, hk, hd => by
    simp only [pops] at h
    split at h
    · rename_i b hw
      cases b with
      | true =>
        simp only at h
        split at h
        · rename_i v hv
          obtain ⟨⟨h1, h2⟩, h3⟩ := cops_pops hM h (by rw [put_get_ne (hk o (by simp))]; exact ht) (fun o' ho' => hk o' (by simp [ho'])) (fun o' ho' => hd o' (by simp [ho']))
          refine ⟨⟨h1, (put_agree (hd o (by simp)) _ _).trans h2⟩, fun hK => ?_⟩
          simp only [cops, cstep]
          exact cguard_want hw (fun _ => cop_pval hv ht hM (h3 hK)) (fun hh => by cases hh)
        · cases h
      | false =>
        simp only at h
        obtain ⟨⟨h1, h2⟩, h3⟩ := cops_pops hM h (by rw [put_get_ne (hk o (by simp))]; exact ht) (fun o' ho' => hk o' (by simp [ho'])) (fun o' ho' => hd o' (by simp [ho']))
        refine ⟨⟨h1, (put_agree (hd o (by simp)) _ _).trans h2⟩, fun hK => ?_⟩
        simp only [cops, cstep]
        exact cguard_want hw (fun hh => by cases hh) (fun _ => h3 hK)
    · cases h
theorem cexec_pexec [Pins] {W : Masks} {a n : Nat} (hM : entryV M (.itp r) = some en) {ds : List Tmp} : ∀ (c : Code) {ρ ρ' : Env} {e : Ex} {K : Ex → Env → Mem → Prop}, pexec P t en c ρ = some (e, ρ') → ρ.get t = .itp r → (∀ o ∈ codeOps c, o.dst ≠ some t) → (∀ o ∈ codeOps c, ∀ d, o.dst = some d → d ∈ ds) →
    (ρ'.get t = .itp r ∧ Agree (· ∈ ds) ρ ρ') ∧ (K e ρ' M → cexec P C Y W a n c ρ M K) := by
  intro c
  induction c with
  | skip =>
    intro ρ ρ' e K h ht hk hd
    simp only [pexec] at h
    cases h
    exact ⟨⟨ht, Agree.refl _ _⟩, fun hK => by simpa only [cexec] using hK⟩
  | region id ops draw =>
    intro ρ ρ' e K h ht hk hd
    simp only [pexec] at h
    cases draw with
    | true => cases h
    | false =>
      simp only at h
      split at h
      · rename_i ρ1 hp
        cases h
        obtain ⟨h1, h2⟩ := cops_pops (C := C) (Y := Y) (K := fun ρ m => K .normal ρ m) (ds := ds) hM hp ht (fun o ho => hk o ho) (fun o ho => hd o ho)
        exact ⟨h1, fun hK => by simpa only [cexec] using h2 hK⟩
      · cases h
  | seq x y ihx ihy =>
    intro ρ ρ' e K h ht hk hd
    simp only [pexec] at h
    split at h
    · rename_i e1 ρ1 hx
      have kx : ∀ o ∈ codeOps x, o.dst ≠ some t := fun o ho => hk o (List.mem_append_left _ ho)
      have ky : ∀ o ∈ codeOps y, o.dst ≠ some t := fun o ho => hk o (List.mem_append_right _ ho)
      have dx : ∀ o ∈ codeOps x, ∀ d, o.dst = some d → d ∈ ds := fun o ho => hd o (List.mem_append_left _ ho)
      have dy : ∀ o ∈ codeOps y, ∀ d, o.dst = some d → d ∈ ds := fun o ho => hd o (List.mem_append_right _ ho)
      obtain ⟨⟨h1, h2⟩, h3⟩ := ihx (K := fun e ρ m => match e with | .normal => cexec P C Y W a n y ρ m K | e => K e ρ m) hx ht kx dx
      cases e1 with
      | normal =>
        simp only at h
        obtain ⟨⟨g1, g2⟩, g3⟩ := ihy (K := K) h h1 ky dy
        exact ⟨⟨g1, h2.trans g2⟩, fun hK => by simp only [cexec]; exact h3 (g3 hK)⟩
      | ret => simp only at h; cases h; exact ⟨⟨h1, h2⟩, fun hK => by simp only [cexec]; exact h3 hK⟩
      | exit j => simp only at h; cases h; exact ⟨⟨h1, h2⟩, fun hK => by simp only [cexec]; exact h3 hK⟩
      | panic p => simp only at h; cases h; exact ⟨⟨h1, h2⟩, fun hK => by simp only [cexec]; exact h3 hK⟩
    · cases h
  | cond c x y ihx ihy =>
    intro ρ ρ' e K h ht hk hd
    simp only [pexec] at h
    split at h
    · rename_i b hc
      cases b with
      | true =>
        obtain ⟨h1, h3⟩ := ihx (K := K) h ht (fun o ho => hk o (List.mem_append_left _ ho)) (fun o ho => hd o (List.mem_append_left _ ho))
        exact ⟨h1, fun hK => by simp only [cexec, hc]; exact h3 hK⟩
      | false =>
        obtain ⟨h1, h3⟩ := ihy (K := K) h ht (fun o ho => hk o (List.mem_append_right _ ho)) (fun o ho => hd o (List.mem_append_right _ ho))
        exact ⟨h1, fun hK => by simp only [cexec, hc]; exact h3 hK⟩
    · cases h
  | block id x ih =>
    intro ρ ρ' e K h ht hk hd
    simp only [pexec] at h
    split at h
    · rename_i e1 ρ1 hx
      obtain ⟨h1, h3⟩ := ih (K := fun e ρ m => match e with | .exit j => (match Nat.beq j id with | true => K .normal ρ m | false => K (.exit j) ρ m) | e => K e ρ m) hx ht hk hd
      cases e1 with
      | normal => simp only at h; cases h; exact ⟨h1, fun hK => by simp only [cexec]; exact h3 hK⟩
      | ret => simp only at h; cases h; exact ⟨h1, fun hK => by simp only [cexec]; exact h3 hK⟩
      | panic p => simp only at h; cases h; exact ⟨h1, fun hK => by simp only [cexec]; exact h3 hK⟩
      | exit j =>
        simp only at h
        cases hb : Nat.beq j id with
        | true => rw [hb] at h; simp only at h; cases h; exact ⟨h1, fun hK => by simp only [cexec]; exact h3 (by simp only [hb]; exact hK)⟩
        | false => rw [hb] at h; simp only at h; cases h; exact ⟨h1, fun hK => by simp only [cexec]; exact h3 (by simp only [hb]; exact hK)⟩
    · cases h
  | scope x ih =>
    intro ρ ρ' e K h ht hk hd
    simp only [pexec] at h
    obtain ⟨h1, h3⟩ := ih (K := K) h ht hk hd
    exact ⟨h1, fun hK => by simp only [cexec]; exact h3 hK⟩
  | exit id =>
    intro ρ ρ' e K h ht hk hd
    simp only [pexec] at h
    cases h
    exact ⟨⟨ht, Agree.refl _ _⟩, fun hK => by simpa only [cexec] using hK⟩
  | ret =>
    intro ρ ρ' e K h ht hk hd
    simp only [pexec] at h
    cases h
    exact ⟨⟨ht, Agree.refl _ _⟩, fun hK => by simpa only [cexec] using hK⟩
  | label l =>
    intro ρ ρ' e K h ht hk hd
    simp only [pexec] at h
    cases h
    exact ⟨⟨ht, Agree.refl _ _⟩, fun hK => by simpa only [cexec] using hK⟩
  | _ =>
    intro ρ ρ' e K h ht hk hd
    simp only [pexec] at h
    cases h
theorem rounds_spec [Pins] {d1 c : Tmp} {y : Code} {mg : Mem} {K : Ex → Env → Mem → Prop} : ∀ {es : List (V × V)} {R : Prop}, rounds P t d1 c y ρ mg K es R → R ∧ ∀ p ∈ es, ∃ e ρ', pexec P t (.tup [p.1, p.2]) y ((ρ.set d1 (.tup [.B true, p.1, p.2])).set c (.B true)) = some (e, ρ') ∧ (e = .normal ∨ K e ρ' mg)
  | [], R, h => ⟨h, fun p hp => by cases hp⟩
  | p :: es, R, h => by
    simp only [rounds] at h
    split at h
    · rename_i e ρ' hp
      cases e with
      | normal =>
        obtain ⟨h1, h2⟩ := rounds_spec h
        exact ⟨h1, fun q hq => by
          rcases List.mem_cons.1 hq with rfl | hq
          · exact ⟨_, _, hp, .inl rfl⟩
          · exact h2 q hq⟩
      | ret =>
        obtain ⟨h0, h⟩ := h
        obtain ⟨h1, h2⟩ := rounds_spec h
        exact ⟨h1, fun q hq => by
          rcases List.mem_cons.1 hq with rfl | hq
          · exact ⟨_, _, hp, .inr h0⟩
          · exact h2 q hq⟩
      | panic j =>
        obtain ⟨h0, h⟩ := h
        obtain ⟨h1, h2⟩ := rounds_spec h
        exact ⟨h1, fun q hq => by
          rcases List.mem_cons.1 hq with rfl | hq
          · exact ⟨_, _, hp, .inr h0⟩
          · exact h2 q hq⟩
      | exit j =>
        obtain ⟨h0, h⟩ := h
        obtain ⟨h1, h2⟩ := rounds_spec h
        exact ⟨h1, fun q hq => by
          rcases List.mem_cons.1 hq with rfl | hq
          · exact ⟨_, _, hp, .inr h0⟩
          · exact h2 q hq⟩
    · exact h.elim
theorem allN_of [Pins] {f : Nat → Prop} : ∀ {l : List Nat}, (∀ i ∈ l, f i) → allN f l
  | [], _ => trivial
  | [i], h => h i (by simp)
  | i :: j :: l, h => ⟨h i (by simp), allN_of (l := j :: l) fun k hk => h k (by simp at hk ⊢; exact .inr hk)⟩
theorem leftN_less [Pins] {n i : Nat} {seen : List Nat} (h : i ∈ leftN n seen) : (leftN n (seen ++ [i])).length < (leftN n seen).length := by
  have e : leftN n (seen ++ [i]) = (leftN n seen).filter fun k => !Nat.beq k i := by
    unfold leftN
    rw [List.filter_filter]
    refine List.filter_congr fun k _ => ?_
    rw [Bool.eq_iff_iff]
    simp only [Bool.and_eq_true, Bool.not_eq_true', ← Bool.not_eq_true, mem?_iff, List.mem_append, List.mem_singleton, Nat.beq_eq_true_eq, Nat.beq_eq]
    constructor
    · intro h; exact ⟨fun hh => h (.inr hh), fun hh => h (.inl hh)⟩
    · rintro ⟨h1, h2⟩ (h3 | h3)
      · exact h2 h3
      · exact h1 h3
  rw [e]
  exact List.length_filter_lt_length_iff_exists.2 ⟨i, h, by simp⟩
end
section
variable {P : Program} {C : CC} {E0 : Wh} {m0 : Mem} {w0 : World} {J : Act → Prop} {r : Option Nat}
theorem cfor_sound [Pins] {c : Code} {f : Env → Mem → (Ex → Env → Mem → Prop) → Prop} {ds : List Tmp} {gm : Mem → Mem} (hgm : ∀ E m w, Step E0 m0 w0 E m w → Step E0 m0 w0 E (gm m) w) (hf : Doing P r E0 m0 w0 J c f) (Q : Exit → Act → World → Prop) :
    ∀ (n : Nat) (ρ : Env) (m : Mem) (K : Ex → Env → Mem → Prop) (E : Wh) (a : Act) (w : World),
    Step E0 m0 w0 E m w → ERel E ρ a.tmps.toList → J a → cfor ds gm f n ρ m K → After E0 m0 w0 J K Q → Code.roundsIn (FW r) 0 P c Q n a w
  | 0, ρ, m, K, E, a, w, hS, hρ, hd, h, hQ => by simp [cfor] at h
  | n + 1, ρ, m, K, E, a, w, hS, hρ, hd, h, hQ => by
    simp only [cfor] at h
    rw [roundsIn_succ]
    refine hf _ m _ E a w _ hS (undefs_rel hρ) hd h ?_
    intro e ρ' m' E' a' w' hk hst hρ' hd'
    cases e with
    | normal => exact cfor_sound hgm hf Q n ρ' m' K E' a' w' hst hρ' hd' hk hQ
    | ret => exact hQ _ _ _ _ _ _ hk (hgm _ _ _ hst) hρ' hd'
    | exit id => exact hQ _ _ _ _ _ _ hk (hgm _ _ _ hst) hρ' hd'
    | panic p => exact hQ _ _ _ _ _ _ hk (hgm _ _ _ hst) hρ' hd'
/-- A block that nobody knows, told in other words. -/
theorem Step.lost [Pins] {E : Wh} {m : Mem} {w : World} (h : Step E0 m0 w0 E m w) {q : Nat} (hE : E q = none) (b : Blk) : Step E0 m0 w0 E (m.set q b) w := by
  have at_ : ∀ k e, E k = some e → (m.set q b)[k]? = m[k]? := fun k e hk => by
    rw [List.getElem?_set_ne (fun hh => by subst hh; rw [hE] at hk; cases hk)]
  have own : ∀ j, Owned E (m.set q b) j → Owned E m j := by
    rintro j ⟨k, e, b', hk, hb, h1, h2, h3⟩
    exact ⟨k, e, b', hk, by rw [← at_ k e hk]; exact hb, h1, h2, h3⟩
  refine ⟨⟨fun k e hk => ?_, fun k e b1 k' e' hk hb hro hcr hk' hcr' hne => ?_, fun j hj => ?_⟩, h.os, h.tape, h.output, h.size, h.old, fun j hj hl => h.fresh j (own j hj) hl, by simpa using h.len, h.born, fun k e hk => ?_, h.gone⟩
  · rw [at_ k e hk]; exact h.sim.blk k e hk
  · rw [at_ k e hk] at hb; exact h.sim.apart k e b1 k' e' hk hb hro hcr hk' hcr' hne
  · exact ⟨(h.sim.tab j hj).1, fun ho => (h.sim.tab j hj).2 (own j ho)⟩
  · obtain ⟨e', b1, b2, g1, g2, g3, g4⟩ := h.keep k e hk
    exact ⟨e', b1, b2, g1, by rw [at_ k e' g3]; exact g2, g3, g4⟩
theorem goneAt_step [Pins] (q : Nat) {E : Wh} {m : Mem} {w : World} (h : Step E0 m0 w0 E m w) : Step E0 m0 w0 E (goneAt q m) w := by
  unfold goneAt
  split
  · rename_i j n seen last hro hsp
    cases he : E q with
    | none => exact h.lost he _
    | some e =>
      obtain ⟨hcr, ob, hob, hrel⟩ := sp_at h.sim he hsp
      have hst := sp_step h.sim he hro hsp (c' := .gone) rfl hcr (ob' := ob) (by cases ob <;> simp only [SpRel] at hrel ⊢ <;> first | exact hrel.elim | trivial)
      have hw : ({ w with heap := w.heap.setIfInBounds e.blk ob } : World) = w := by
        have : w.heap.setIfInBounds e.blk ob = w.heap := by
          apply Array.ext_getElem?
          intro i
          rw [Array.getElem?_setIfInBounds]
          split
          · rename_i hi; subst hi; split
            · rw [hob]
            · rename_i hlt; rw [Array.getElem?_eq_none (by omega)]
          · rfl
        rw [this]
      rw [hw] at hst
      exact h.trans hst
  · exact h
theorem headOf_spec {x : Code} {t d1 c : Tmp} {q : Nat} {y : Code} (h : headOf x = some (t, d1, c, q, y)) : ∃ id ops o1 o2, x = .seq (.region id ops false) (.seq (.cond (.tmp c) .skip (.exit q)) y) ∧ ops.toList = [o1, o2] ∧ o1.op = .next (.tmp t) false ∧ o1.dst = some d1 ∧ o1.guard = none ∧ o2.op = .extract (.tmp d1) 0 ∧ o2.dst = some c ∧ o2.guard = none := by
  unfold headOf at h
  split at h
  · rename_i id ops c1 q1 y1
    split at h
    · rename_i o1 o2 hops
      split at h
      · rename_i t1 d1' d1'' c' h1 h2 h3 h4 h5 h6
        split at h
        · rename_i hc
          obtain ⟨rfl, rfl⟩ := hc
          cases h
          exact ⟨id, ops, o1, o2, rfl, hops, h1, h2, h3, h4, h5, h6⟩
        · cases h
      · cases h
    · cases h
  · cases h
theorem bset_getD (m : Mem) (k : Nat) (b : Blk) (h : k < m.length) : (m.set k b).getD k default = b := by
  rw [List.getD_eq_getElem?_getD, List.getElem?_set_self h]; rfl
theorem bset_getD_ne (m : Mem) {k j : Nat} (b : Blk) (h : k ≠ j) : (m.set k b).getD j default = m.getD j default := by
  rw [List.getD_eq_getElem?_getD, List.getElem?_set_ne h, ← List.getD_eq_getElem?_getD]
theorem get_set_has [Pins] {ρ : Env} {d : Tmp} (h : ρ.has d = true) (v : V) : (ρ.set d v).get d = v := by
  rw [Tr.has_look] at h
  rw [Tr.get_look, Tr.look_set_self]
  cases hl : ρ.look d with
  | none => rw [hl] at h; cases h
  | some x => rfl
theorem has_set [Pins] (ρ : Env) (d i : Tmp) (v : V) : (ρ.set d v).has i = ρ.has i := by
  rw [Tr.has_look, Tr.has_look, Tr.look_set]
  split <;> simp
/-- Round by round, from wherever the iterator is. -/
theorem cfor_rounds [Pins] {W : Masks} {a n0 : Nat} {t d1 c : Tmp} {q : Nat} {y x : Code} (hx : headOf x = some (t, d1, c, q, y)) (hk : keepsT t x = true) {q0 j n et : Nat} {mv : Bool} {m : Mem} {es : List (V × V)} (hlt : q0 < m.length) (hj : j ≠ q0) (hes : (m.getD j default).mp = some es) (hn : es.length = n)
    {ρ0 : Env} (hh1 : ρ0.has d1 = true) (hh2 : ρ0.has c = true) (ht : ρ0.get t = .itp q0) (h0 : undefs (dstsOf x) ρ0 = ρ0) {K : Ex → Env → Mem → Prop}
    (hend : K (.exit q) ((ρ0.set d1 (.tup [.B false])).set c (.B false)) (m.set q0 ⟨[.gone], et, false, mv⟩))
    (hr : ∀ p ∈ es, ∃ e ρ', pexec P t (.tup [p.1, p.2]) y ((ρ0.set d1 (.tup [.B true, p.1, p.2])).set c (.B true)) = some (e, ρ') ∧ (e = .normal ∨ K e ρ' (m.set q0 ⟨[.gone], et, false, mv⟩))) :
    ∀ (k : Nat) (seen : List Nat) (ρ : Env), (leftN n seen).length ≤ k → undefs (dstsOf x) ρ = ρ0 →
      cfor (dstsOf x) (goneAt q0) (fun ρ m K => cexec P C noY W a n0 x ρ m K) (k + 1) ρ (m.set q0 ⟨[.it j n seen n], et, false, mv⟩) K := by
  obtain ⟨id, ops, o1, o2, hxe, hops, ho1, hd1, hg1, ho2, hd2, hg2⟩ := headOf_spec hx
  have hcodes : codeOps x = [o1, o2] ++ codeOps y := by rw [hxe]; simp [codeOps, hops]
  have kt : ∀ o ∈ codeOps x, o.dst ≠ some t := fun o ho => keepsT_spec hk ho
  have hd1t : d1 ≠ t := fun h => kt o1 (by rw [hcodes]; simp) (by rw [hd1, h])
  have hct : c ≠ t := fun h => kt o2 (by rw [hcodes]; simp) (by rw [hd2, h])
  have hin : ∀ o ∈ codeOps x, ∀ d, o.dst = some d → d ∈ dstsOf x := fun o ho d hd => List.mem_filterMap.2 ⟨o, ho, hd⟩
  have hd1in : d1 ∈ dstsOf x := hin o1 (by rw [hcodes]; simp) _ hd1
  have hcin : c ∈ dstsOf x := hin o2 (by rw [hcodes]; simp) _ hd2
  have hgone : ∀ seen, goneAt q0 (m.set q0 ⟨[.it j n seen n], et, false, mv⟩) = m.set q0 ⟨[.gone], et, false, mv⟩ := by
    intro seen
    unfold goneAt
    rw [bset_getD _ _ _ hlt]
    simp only [Blk.sp, Col.plain, List.set_set]
  -- a word of the iterator, taken apart
  have word : ∀ (b : Bool) (l : List V) (M : Mem) (KP : V → Env → Mem → Prop) (KK : Env → Mem → Prop), KK ((ρ0.set d1 (.tup (.B b :: l))).set c (.B b)) M → cops P C noY KP [o1, o2] [o2] (put o1.dst (.tup (.B b :: l)) ρ0) M KK := by
    intro b l M KP KK h
    have h1 : sop0 P o2 (ρ0.set d1 (.tup (.B b :: l))) M = some (true, .B b, ρ0.set d1 (.tup (.B b :: l)), M) := by
      unfold sop0
      simp only [ho2, opd, get_set_has hh1]
      rfl
    have h2 : csop P o2 (ρ0.set d1 (.tup (.B b :: l))) M (fun v ρ m => KK (put (some c) v ρ) m) := by
      simp only [csop, sop, h1, put]
      exact h
    simp only [cops, cstep, cguard, hg2, hd1, hd2, put]
    unfold cop
    rw [ho2]
    exact h2
  have cget : ∀ (b : Bool) (l : List V), ((ρ0.set d1 (.tup (.B b :: l))).set c (.B b)).get c = .B b := fun b l => get_set_has (by rw [has_set]; exact hh2) _
  have tget : ∀ (b : Bool) (l : List V), ((ρ0.set d1 (.tup (.B b :: l))).set c (.B b)).get t = .itp q0 := fun b l => by
    rw [Tr.get_set_ne _ hct, Tr.get_set_ne _ hd1t]; exact ht
  have hag1 : ∀ (b : Bool) (l : List V), Agree (· ∈ dstsOf x) ρ0 ((ρ0.set d1 (.tup (.B b :: l))).set c (.B b)) := fun b l =>
    (put_agree (dst := some d1) (fun d hd => by cases hd; exact hd1in) _ _).trans (put_agree (dst := some c) (fun d hd => by cases hd; exact hcin) _ _)
  have hxeq : x = .seq (.region id ops false) (.seq (.cond (.tmp c) .skip (.exit q)) y) := hxe
  have head : ∀ (k : Nat) (seen : List Nat) (ρ : Env), undefs (dstsOf x) ρ = ρ0 →
      (∀ i ∈ leftN n seen, ∀ ρ', undefs (dstsOf x) ρ' = ρ0 →
        cfor (dstsOf x) (goneAt q0) (fun ρ m K => cexec P C noY W a n0 x ρ m K) k ρ' (m.set q0 ⟨[.it j n (seen ++ [i]) n], et, false, mv⟩) K) →
      cfor (dstsOf x) (goneAt q0) (fun ρ m K => cexec P C noY W a n0 x ρ m K) (k + 1) ρ (m.set q0 ⟨[.it j n seen n], et, false, mv⟩) K := by
    intro k seen ρ hρ hgo
    have hb : Nat.beq n n = true := Nat.beq_refl n
    simp only [cfor, hρ]
    have hfold : ∀ ρ m K, cexec P C noY W a n0 x ρ m K = cexec P C noY W a n0 (.seq (.region id ops false) (.seq (.cond (.tmp c) .skip (.exit q)) y)) ρ m K := fun _ _ _ => by rw [hxe]
    rw [hfold]
    generalize (fun (ρ : Env) (m : Mem) (K : Ex → Env → Mem → Prop) => cexec P C noY W a n0 x ρ m K) = FX at hgo ⊢
    simp only [cexec, hops]
    show cstep P C noY _ [o1, o2] o1 ρ0 _ (fun ρ m => cops P C noY _ [o1, o2] [o2] ρ m _)
    simp only [cstep, cguard, hg1]
    unfold cop
    rw [ho1]
    simp only [opd, ht]
    unfold cnext
    simp only [bset_getD _ _ _ hlt, Blk.sp, Col.plain, bset_getD_ne _ _ (Ne.symm hj), hes, hn, hb, Bool.and_self, List.set_set]
    split
    · refine word false [] _ _ _ ?_
      simp only [cget, hgone]
      exact hend
    · refine allN_of fun i hi => ?_
      have hi2 : i < es.length := by rw [hn]; exact (mem_leftN.1 hi).1
      rw [List.getElem?_eq_getElem hi2]
      simp only
      refine word true [_, _] _ _ _ ?_
      simp only [cget]
      obtain ⟨e, ρ', hpe, hor⟩ := hr es[i] (List.getElem_mem hi2)
      have hM : entryV (m.set q0 ⟨[.it j n (seen ++ [i]) n], et, false, mv⟩) (.itp q0) = some (.tup [es[i].1, es[i].2]) := by
        unfold entryV
        simp only [bset_getD _ _ _ hlt, Blk.sp, Col.plain, bset_getD_ne _ _ (Ne.symm hj), hes, List.getLast?_concat, hn, hb, List.getElem?_eq_getElem hi2]
      obtain ⟨⟨h1, h2⟩, h3⟩ := cexec_pexec (P := P) (C := C) (Y := noY) (W := W) (a := a) (n := n0) (ds := dstsOf x) (K := fun e ρ m => match e with | .normal => cfor (dstsOf x) (goneAt q0) FX k ρ m K | e => K e ρ (goneAt q0 m)) hM y hpe (tget true _)
        (fun o ho => kt o (by rw [hcodes]; exact List.mem_append_right _ ho)) (fun o ho => hin o (by rw [hcodes]; exact List.mem_append_right _ ho))
      refine h3 ?_
      cases e with
      | normal => exact hgo i hi ρ' ((undefs_agree ((hag1 true _).trans h2)).trans h0)
      | ret =>
        simp only [hgone]
        rcases hor with hor | hor
        · cases hor
        · exact hor
      | exit z =>
        simp only [hgone]
        rcases hor with hor | hor
        · cases hor
        · exact hor
      | panic z =>
        simp only [hgone]
        rcases hor with hor | hor
        · cases hor
        · exact hor
  intro k
  induction k with
  | zero =>
    intro seen ρ hl hρ
    refine head 0 seen ρ hρ fun i hi => ?_
    rw [List.eq_nil_of_length_eq_zero (Nat.le_zero.1 hl)] at hi
    cases hi
  | succ k ih =>
    intro seen ρ hl hρ
    refine head (k + 1) seen ρ hρ fun i hi ρ' hρ' => ih _ ρ' ?_ hρ'
    have := leftN_less hi
    omega
/-- A loop over a map, whose rounds leave all as it was. -/
theorem mapLoop_sound [Pins] (hN : Named P) (a : Nat) (i : Nat) : ∀ x {r : Option Nat} {E0 : Wh} {m0 : Mem} {w0 : World} {J : Act → Prop}, Sim E0 m0 w0 → m0.length = a → Keeps J (.loop x) → Doing P r E0 m0 w0 J (.loop x) (mapLoop P x) := by
  intro x r E0 m0 w0 J hS0 hl hJ ρ m K E ac w Q hst hρ hd h hQ
  unfold mapLoop at h
  split at h
  · rename_i t d1 c q y hx
    split at h
    · rename_i q0 hk ht
      split at h
      · rename_i j n last hro hsp
        split at h
        · rename_i es hes
          split at h
          · rename_i hb
            simp only [Bool.and_eq_true] at hb
            have hn : es.length = n := Nat.eq_of_beq_eq_true hb.1
            obtain rfl : last = n := Nat.eq_of_beq_eq_true hb.2
            split at h
            · rename_i hh
              simp only [Bool.and_eq_true] at hh
              obtain ⟨hend, hr⟩ := rounds_spec h
              have hx2 := hρ.get t undef
              rw [ht] at hx2
              simp only [VRel] at hx2
              obtain ⟨e, he, _⟩ := hx2
              have hlt := hst.sim.lt he
              have hj : j ≠ q0 := by
                intro hjj
                subst hjj
                rw [Blk.sp_mp hes] at hsp
                cases hsp
              obtain ⟨hcols, _⟩ := Blk.sp_some hsp
              have hm : m = m.set q0 ⟨[.it j last [] last], (m.getD q0 default).et, false, (m.getD q0 default).mv⟩ := by
                apply List.ext_getElem?
                intro z
                rw [List.getElem?_set]
                split
                · rename_i hz
                  subst hz
                  have hg : m[q0]? = some (m.getD q0 default) := by rw [List.getD_eq_getElem?_getD, List.getElem?_eq_getElem hlt]; rfl
                  rw [hg]
                  generalize m.getD q0 default = bb at hcols hro
                  obtain ⟨c1, c2, c3, c4⟩ := bb
                  simp only at hcols hro
                  subst hcols; subst hro
                  first | rfl | simp [hlt]
                · rfl
              have hg : goneAt q0 m = m.set q0 ⟨[.gone], (m.getD q0 default).et, false, (m.getD q0 default).mv⟩ := by
                unfold goneAt; rw [hro, hsp]
              rw [hg] at hend hr
              have htd : ∀ ds : List Tmp, t ∉ ds → (undefs ds ρ).get t = .itp q0 := fun ds hds => by
                rw [Tr.get_look, look_undefs, if_neg hds, ← Tr.get_look]; exact ht
              have htn : t ∉ dstsOf x := fun hm => by
                obtain ⟨o, ho, hdt⟩ := List.mem_filterMap.1 hm
                exact keepsT_spec hk ho hdt
              have hidem : undefs (dstsOf x) (undefs (dstsOf x) ρ) = undefs (dstsOf x) ρ := by
                refine Tr.ext fun z => ?_
                rw [look_undefs, look_undefs]
                split
                · cases ρ.look z <;> rfl
                · rfl
              have hC : CallsOk P (fun _ _ _ _ => False) := fun g args m K E w cargs _ _ h => h.elim
              have key := cfor_rounds (P := P) (C := fun _ _ _ _ => False) (W := fun _ => none) (a := a) (n0 := 1) hx hk hlt hj hes hn hh.1 hh.2 (htd _ htn) hidem hend hr es.length [] ρ (by rw [hn]; unfold leftN; exact Nat.le_trans (List.length_filter_le _ _) (by simp)) rfl
              rw [← hm] at key
              refine wpIn_loop_rounds _ (cfor_sound (gm := goneAt q0) (ds := dstsOf x) (fun E' m' w' hs => goneAt_step q0 hs) (by subst hl; exact cexec_sound hN hC noY_ok hS0 (LoopsOk.none _ _) 1 x hJ) Q (es.length + 1) ρ m K E ac w hst hρ hd key hQ)
            · exact h.elim
          · exact h.elim
        · exact h.elim
      · exact h.elim
    · exact h.elim
  · exact h.elim
/-- Which loops are taken so: functions with the first regions of loops. -/
def maskR (P : Program) (R : List (Nat × Nat)) (f : FuncId) : Masks := fun i => match R.any (fun p => Nat.beq p.1 f && Nat.beq p.2 i) with | true => some (mapLoop P) | false => none
theorem maskR_ok [Pins] (hN : Named P) (R : List (Nat × Nat)) (f : FuncId) (a : Nat) : LoopsOk P a (maskR P R f) := by
  intro i lf hi x r E0 m0 w0 J hS0 hl hJ
  unfold maskR at hi
  split at hi
  · cases hi
    exact mapLoop_sound hN a i x hS0 hl hJ
  · cases hi
/-- Calls, with deferred ones, with loops over functions in the functions 'L', and with such loops over maps. -/
def callR (P : Program) (S : Prims) (L : List FuncId) (R : List (Nat × Nat)) : Nat → CC
  | 0 => fun _ _ _ _ => False
  | n + 1 => fun f args m K =>
    match S f with
    | some g => g args m K
    | none =>
      match P.funcs[f]? with
      | some fn =>
        (match mem? f L with
         | true => cbodyY P (callR P S L R n) n fn args m K
         | false => (match hasDefer fn with | true => cbodyD P (callR P S L R n) (fun _ => none) n fn args m K | false => cbody P (callR P S L R n) (maskR P R f) n fn args m K))
      | none => False
theorem callR_sound [Pins] (hN : Named P) {S : Prims} {L : List FuncId} {R : List (Nat × Nat)} (hP : PrimsOk P S) : ∀ n, CallsOk P (callR P S L R n)
  | 0 => fun g args m K E w cargs hS ha h => by simp [callR] at h
  | n + 1 => fun g args m K E w cargs hS ha h => by
    simp only [callR] at h
    split at h
    · rename_i f hf
      exact hP g f hf args m K E w cargs hS ha h
    · split at h
      · rename_i fn hfn
        split at h
        · exact .inl (cbodyY_sound hN (callR_sound hN hP n) hfn hS ha h)
        · split at h
          · exact .inl (cbodyD_sound hN (callR_sound hN hP n) hfn (LoopsOk.none _ _) hS ha h)
          · exact .inl (cbody_sound hN (callR_sound hN hP n) hfn (maskR_ok hN R _ _) hS ha h)
      · cases h
end
end Go.Ab
