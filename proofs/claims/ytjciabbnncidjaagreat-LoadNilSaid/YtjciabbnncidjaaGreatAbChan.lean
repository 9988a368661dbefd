/- Channels in one goroutine, where nothing waits: sends with room, selects of receives with a default. -/
import Derived.Test.YtjciabbnncidjaaGreatAbRange
import Derived.Conc.LoneSelectN
import Derived.Conc.LoneCalls
set_option linter.unusedSimpArgs false
set_option linter.unusedVariables false
namespace Go.Ab
open Go

section
variable (P : Program) (C : CC)
/-- A channel's room and what lies in it. -/
def chanAt (m : Mem) (k : Nat) : Option (Nat × List V) := match (m.getD k default).ro, (m.getD k default).sp with | false, some (.ch cap xs) => some (cap, xs) | _, _ => none
def setCh (m : Mem) (k cap : Nat) (xs : List V) : Mem := m.set k ⟨[.ch cap xs], (m.getD k default).et, false, (m.getD k default).mv⟩
/-- The cases of a select: all of them receive. -/
def selC (ρ : Env) (m : Mem) : List SelectCase → Option (List (Nat × Nat × List V × V))
  | [] => some []
  | c :: cs =>
    (match c.send, opd ρ c.chan, zeroM P c.elem with
     | none, .chp k, some z => (match chanAt m k, selC ρ m cs with | some (cap, xs), some r => some ((k, cap, xs, z) :: r) | _, _ => none)
     | _, _, _ => none)
/-- Which of them could go on. -/
def readyC : Nat → List (Nat × Nat × List V × V) → List (Nat × Nat × Nat × V × List V)
  | _, [] => []
  | j, (k, cap, xs, z) :: l => (match xs with | [] => readyC (j + 1) l | x :: xs => (j, k, cap, x, xs) :: readyC (j + 1) l)
def selVals (j : Nat) (v : V) : Nat → List (Nat × Nat × List V × V) → List V
  | _, [] => []
  | i, c :: l => (match Nat.beq i j with | true => v | false => c.2.2.2) :: selVals j v (i + 1) l
def selV (rs : List (Nat × Nat × List V × V)) (m : Mem) : Option (V × Mem) :=
  match readyC 0 rs with
  | [] => some (.tup (.I .i64 (-1) :: .B false :: rs.map fun c => c.2.2.2), m)
  | [(j, k, cap, x, xs)] => (match Nat.blt j 4096 with | true => some (.tup (.I .i64 j :: .B true :: selVals j x 0 rs), setCh m k cap xs) | false => none)
  | _ => none
def isComm (o : Oper) : Bool := match o.op with | .send _ _ => true | .select _ _ => true | _ => false
def commV (o : Oper) (ρ : Env) (m : Mem) : Option (V × Mem) :=
  match o.op with
  | .send c x =>
    (match opd ρ c with
     | .chp k => (match chanAt m k with | some (cap, xs) => (match Nat.blt xs.length cap with | true => some (.undef, setCh m k cap (xs ++ [opd ρ x])) | false => none) | none => none)
     | _ => none)
  | .select cs false => (match selC P ρ m cs.toList with | some rs => selV rs m | none => none)
  | _ => none
/-- Operations in the order of the text, sends and selects among them. -/
def ccomms : List Oper → Env → Mem → (Env → Mem → Prop) → Prop
  | [], ρ, m, K => K ρ m
  | o :: os, ρ, m, K =>
    (match o.guard with
     | some _ => False
     | none =>
       (match isComm o with
        | true => (match commV P o ρ m with | some (v, m') => ccomms os (put o.dst v ρ) m' K | none => False)
        | false => csop P o ρ m fun v ρ m => ccomms os (put o.dst v ρ) m K))
def anyComm (ops : List Oper) : Bool := ops.any isComm
/-- Code with sends and selects. -/
def cexecH (W : Masks) (a n : Nat) : Code → Env → Mem → (Ex → Env → Mem → Prop) → Prop
  | .seq x y, ρ, m, K => cexecH W a n x ρ m fun e ρ m => match e with | .normal => cexecH W a n y ρ m K | e => K e ρ m
  | .cond c x y, ρ, m, K =>
    (match opd ρ c with
     | .B t => (match t with | true => cexecH W a n x ρ m K | false => cexecH W a n y ρ m K)
     | _ => False)
  | .block id x, ρ, m, K => cexecH W a n x ρ m fun e ρ m => match e with | .exit j => (match Nat.beq j id with | true => K .normal ρ m | false => K (.exit j) ρ m) | e => K e ρ m
  | .scope x, ρ, m, K => cexecH W a n x ρ m K
  | .region id ops draw, ρ, m, K =>
    (match anyComm ops.toList with
     | true => (match draw with | false => ccomms P ops.toList ρ m fun ρ m => K .normal ρ m | true => False)
     | false => cexec P C noY W a n (.region id ops draw) ρ m K)
  | c, ρ, m, K => cexec P C noY W a n c ρ m K
def cbodyH (n : Nat) (fn : Func) (args : List V) (m : Mem) (K : V → Mem → Prop) : Prop :=
  match fn.body with
  | none => False
  | some c => cexecH P C (fun _ => none) m.length n c (Tr.puts 0 args (Tr.full (.tup []) (max fn.ntmps args.length) (max fn.ntmps args.length))) m (kbody P m.length fn K)
end
section
variable {P : Program} {C : CC} {E : Wh} {m : Mem} {w : World} {ρ : Env} {a : Act}
theorem chan_at [Pins] (hS : Sim E m w) {k : Nat} {e : BE} (hk : E k = some e) {cap : Nat} {xs : List V} (h : chanAt m k = some (cap, xs)) :
    (m.getD k default).ro = false ∧ (m.getD k default).sp = some (.ch cap xs) ∧ e.cr ≠ 0 ∧ ∃ b s r, w.heap[e.blk]? = some (.chan cap b false s r false) ∧ VsRel E xs b.toList := by
  unfold chanAt at h
  split at h
  · rename_i hro hsp
    cases h
    obtain ⟨hcr, ob, hob, hrel⟩ := sp_at hS hk hsp
    cases ob <;> simp only [SpRel] at hrel <;> first | exact hrel.elim | skip
    obtain ⟨rfl, rfl, rfl, h4⟩ := hrel
    exact ⟨hro, hsp, hcr, _, _, _, hob, h4⟩
  · cases h
theorem setCh_step [Pins] (hS : Sim E m w) {k : Nat} {e : BE} (hk : E k = some e) {cap : Nat} {xs xs' : List V} (h : chanAt m k = some (cap, xs)) {b : Array Value} {s r : Nat} (hb : VsRel E xs' b.toList) :
    Step E m w E (setCh m k cap xs') (w.setChan e.blk cap b false s r false) := by
  obtain ⟨hro, hsp, hcr, _⟩ := chan_at hS hk h
  exact sp_step hS hk hro hsp rfl hcr (ob' := .chan cap b false s r false) ⟨rfl, rfl, rfl, hb⟩
/-- An operation that communicates, in the machine of one. -/
theorem comm_at [Pins] {ops : Array Oper} {i : Nat} {o : Oper} (ho : ops[i]? = some o) (hg : o.guard = none) {cases : Array CommCase} {bl : Bool} {shape : CommShape} {w' : World} (hr : (execOp a.eval o).run P w = .ok (.comm cases bl shape) w')
    {b : Frame} {k : List Item} {cs : List Frame} {rest : List Nat} (hro : b.roundOf = none) :
    ∃ es, stepG P true (Conc.G (b.atR a (.inRegion ops (i :: rest) :: k)) cs) w = .comm (Conc.G (b.atR a (.inRegion ops (i :: rest) :: k)) cs) cases bl shape w' es := by
  have hw : Region.wanted o (yielded ops a.tmps) = true := by unfold Region.wanted; rw [hg]
  have h := stepGR_op (P := P) (b := b) (a := a) (k := k) (cs := cs) (w := w) (rest := rest) ho hw
  rw [hro, Oper.semAt_none] at h
  unfold Conc.G
  rw [h]
  simp only [stepG.apply, Sem.runT_eq, hr]
  exact ⟨_, rfl⟩
/-- What a communication comes to. -/
def CommOk [Pins] (P : Program) (o : Oper) (a : Act) (E : Wh) (m : Mem) (w : World) (v : V) (m' : Mem) : Prop :=
  ∃ cv w', Step E m w E m' w' ∧ VRel E v cv ∧ ∀ (ops : Array Oper) (i : Nat) (b : Frame) (k : List Item) (cs : List Frame) (rest : List Nat), ops[i]? = some o → o.guard = none → b.roundOf = none →
    step P (lone (b.atR a (.inRegion ops (i :: rest) :: k)) cs w) = .next (lone ((b.atR a (.inRegion ops (i :: rest) :: k)).finish cv) cs w')
theorem send_ok [Pins] (hS : Sim E m w) (hρ : ERel E ρ a.tmps.toList) {o : Oper} {c x : Operand} (ho : o.op = .send c x) {k : Nat} (hk : opd ρ c = .chp k) {cap : Nat} {xs : List V} (hc : chanAt m k = some (cap, xs)) (hroom : xs.length < cap) :
    CommOk P o a E m w .undef (setCh m k cap (xs ++ [opd ρ x])) := by
  have hcr := opd_rel (a := a) hρ c
  rw [hk] at hcr
  simp only [VRel] at hcr
  obtain ⟨e, he, hce⟩ := hcr
  obtain ⟨hro, hsp, hcr, b, s, r, hh, hb⟩ := chan_at hS he hc
  refine ⟨undef, w.setChan e.blk cap (b.push (a.eval x)) false (s + 1) r false, ?_, by simp [VRel], ?_⟩
  · refine setCh_step hS he hc ?_
    rw [Array.toList_push]
    refine hb.app ?_
    simp only [VsRel]
    exact ⟨_, [], rfl, opd_rel hρ x, rfl⟩
  · intro ops i bf k cs rest hoi hg hrd
    have hrun : (execOp a.eval o).run P w = .ok (.comm #[Conc.scase e.blk (a.eval x) (.tuple #[])] true .send) w := by
      simp only [execOp, ho, hce, Sem.run_pure, Conc.scase]
    obtain ⟨es, hst⟩ := comm_at (P := P) (w := w) (k := k) (cs := cs) (rest := rest) hoi hg hrun hrd
    exact Conc.step_lone_send_room hst hh (by rw [← Array.length_toList, ← hb.length]; exact hroom)
/-- The cases of a select, in the machine. -/
theorem selC_rel [Pins] (hS : Sim E m w) (hρ : ERel E ρ a.tmps.toList) : ∀ {cs : List SelectCase} {rs : List (Nat × Nat × List V × V)}, selC P ρ m cs = some rs →
    ∃ ccs : List CommCase, (cs.mapM fun s => (do pure { chan := a.eval s.chan, send := s.send.map a.eval, zero := ← zeroValue s.elem : CommCase } : Sem CommCase)).run P w = .ok ccs w ∧ ccs.length = rs.length ∧
      ∀ (j : Nat) (r : Nat × Nat × List V × V), rs[j]? = some r → ∃ e z, ccs[j]? = some (Conc.rcase e.blk z) ∧ E r.1 = some e ∧ chanAt m r.1 = some (r.2.1, r.2.2.1) ∧ VRel E r.2.2.2 z
  | [], rs, h => by
    simp only [selC] at h
    cases h
    exact ⟨[], by simp, rfl, fun j r hj => by simp at hj⟩
  | c :: cs, rs, h => by
    simp only [selC] at h
    split at h
    · rename_i k z hsend hk hz
      split at h
      · rename_i cap xs r hc hr
        cases h
        obtain ⟨ccs, h1, h2, h3⟩ := selC_rel hS hρ hr
        obtain ⟨cz, hz1, hz2⟩ := zeroM_rel (E := E) (w := w) hz
        have hcr := opd_rel (a := a) hρ c.chan
        rw [hk] at hcr
        simp only [VRel] at hcr
        obtain ⟨e, he, hce⟩ := hcr
        refine ⟨Conc.rcase e.blk cz :: ccs, ?_, by simp [h2], fun j r hj => ?_⟩
        · rw [List.mapM_cons]
          simp only [Sem.run_bind, hz1, Result.andThen_ok, Sem.run_pure, hsend, Option.map_none, hce, h1, Conc.rcase]
        · cases j with
          | zero => simp only [List.getElem?_cons_zero, Option.some.injEq] at hj; subst hj; exact ⟨e, cz, rfl, he, hc, hz2⟩
          | succ j => simpa using h3 j r (by simpa using hj)
      · cases h
    · cases h
theorem readyC_nil : ∀ {rs : List (Nat × Nat × List V × V)} {j : Nat}, readyC j rs = [] → ∀ r ∈ rs, r.2.2.1 = []
  | [], _, _, r, hr => by cases hr
  | (k, cap, xs, z) :: l, j, h, r, hr => by
    simp only [readyC] at h
    split at h
    · rcases List.mem_cons.1 hr with rfl | hr
      · rfl
      · exact readyC_nil h r hr
    · cases h
theorem readyC_one : ∀ {rs : List (Nat × Nat × List V × V)} {i j k cap : Nat} {x : V} {xs : List V}, readyC i rs = [(j, k, cap, x, xs)] →
    ∃ z, i ≤ j ∧ rs[j - i]? = some (k, cap, x :: xs, z) ∧ ∀ (q : Nat) (r : Nat × Nat × List V × V), q ≠ j - i → rs[q]? = some r → r.2.2.1 = []
  | [], i, j, k, cap, x, xs, h => by simp [readyC] at h
  | (k0, cap0, xs0, z0) :: l, i, j, k, cap, x, xs, h => by
    simp only [readyC] at h
    split at h
    · rename_i hx
      obtain ⟨z, h1, h2, h3⟩ := readyC_one h
      have e : j - i = (j - (i + 1)) + 1 := by omega
      refine ⟨z, by omega, by rw [e]; simpa using h2, fun q r hq hr => ?_⟩
      cases q with
      | zero => simp only [List.getElem?_cons_zero, Option.some.injEq] at hr; subst hr; rfl
      | succ q => exact h3 q r (by omega) (by simpa using hr)
    · rename_i x1 xs1 hx
      simp only [List.cons.injEq, Prod.mk.injEq] at h
      obtain ⟨⟨rfl, rfl, rfl, rfl, rfl⟩, hl⟩ := h
      refine ⟨z0, Nat.le_refl _, by simp, fun q r hq hr => ?_⟩
      cases q with
      | zero => omega
      | succ q => exact readyC_nil hl r (List.mem_of_getElem? (by simpa using hr))
theorem selVals_rel [Pins] {v : V} {cv : Value} {j : Nat} (hv : VRel E v cv) : ∀ {rs : List (Nat × Nat × List V × V)} {ccs : List CommCase} {i : Nat}, ccs.length = rs.length →
    (∀ (j : Nat) (r : Nat × Nat × List V × V), rs[j]? = some r → ∃ e z, ccs[j]? = some (Conc.rcase e.blk z) ∧ E r.1 = some e ∧ chanAt m r.1 = some (r.2.1, r.2.2.1) ∧ VRel E r.2.2.2 z) →
    VsRel E (selVals j v i rs) ((ccs.zipIdx i).map fun p => if (p.2 : Int) = (j : Int) then cv else p.1.zero)
  | [], [], i, _, _ => by simp [selVals, VsRel]
  | [], _ :: _, i, hl, _ => by simp at hl
  | _ :: _, [], i, hl, _ => by simp at hl
  | r :: rs, c :: ccs, i, hl, h => by
    simp only [selVals, List.zipIdx_cons, List.map_cons, VsRel]
    obtain ⟨e, z, h1, h2, h3, h4⟩ := h 0 r rfl
    simp only [List.getElem?_cons_zero, Option.some.injEq] at h1
    subst h1
    refine ⟨_, _, rfl, ?_, selVals_rel hv (by simpa using hl) fun j r hj => by simpa using h (j + 1) r (by simpa using hj)⟩
    cases hb : Nat.beq i j with
    | true => rw [if_pos (by rw [Nat.eq_of_beq_eq_true hb])]; exact hv
    | false => rw [if_neg (by have := Nat.ne_of_beq_eq_false hb; omega)]; exact h4
theorem recvs_all {ccs : List CommCase} (h : ∀ c ∈ ccs, c.send = none) : (ccs.toArray.zipIdx.filter fun p => p.1.send.isNone).toList = ccs.zipIdx := by
  rw [Array.toList_filter, Array.toList_zipIdx]
  refine List.filter_eq_self.2 fun p hp => ?_
  have := List.mem_zipIdx hp
  obtain ⟨_, _, h3⟩ := this
  rw [h3, h _ (List.getElem_mem _)]
  rfl
theorem zeros_rel [Pins] : ∀ {rs : List (Nat × Nat × List V × V)} {ccs : List CommCase} {i : Nat}, ccs.length = rs.length →
    (∀ (j : Nat) (r : Nat × Nat × List V × V), rs[j]? = some r → ∃ e z, ccs[j]? = some (Conc.rcase e.blk z) ∧ E r.1 = some e ∧ chanAt m r.1 = some (r.2.1, r.2.2.1) ∧ VRel E r.2.2.2 z) →
    VsRel E (rs.map fun c => c.2.2.2) ((ccs.zipIdx i).map fun p => if (p.2 : Int) = -1 then undef else p.1.zero)
  | [], [], i, _, _ => by simp [VsRel]
  | [], _ :: _, i, hl, _ => by simp at hl
  | _ :: _, [], i, hl, _ => by simp at hl
  | r :: rs, c :: ccs, i, hl, h => by
    simp only [List.zipIdx_cons, List.map_cons, VsRel]
    obtain ⟨e, z, h1, h2, h3, h4⟩ := h 0 r rfl
    simp only [List.getElem?_cons_zero, Option.some.injEq] at h1
    subst h1
    refine ⟨_, _, rfl, ?_, zeros_rel (by simpa using hl) fun j r hj => by simpa using h (j + 1) r (by simpa using hj)⟩
    rw [if_neg (by omega)]
    exact h4
theorem commResult_list {ccs : List CommCase} (h : ∀ c ∈ ccs, c.send = none) (k : Int) (v : Value) (ok : Bool) :
    commResult ccs.toArray .select k v ok = .tuple (goInt k :: .bool ok :: (ccs.zipIdx.map fun p => if (p.2 : Int) = k then v else p.1.zero)).toArray := by
  unfold commResult
  simp only
  congr 1
  apply Array.ext'
  rw [Array.toList_append, Array.toList_map, recvs_all h]
  rfl
theorem selV_ok [Pins] (hS : Sim E m w) (hρ : ERel E ρ a.tmps.toList) {o : Oper} {cs : Array SelectCase} (ho : o.op = .select cs false) {rs : List (Nat × Nat × List V × V)} (hc : selC P ρ m cs.toList = some rs) {v : V} {m' : Mem} (h : selV rs m = some (v, m')) :
    CommOk P o a E m w v m' := by
  obtain ⟨ccs, h1, h2, h3⟩ := selC_rel hS hρ hc
  have hrun : (execOp a.eval o).run P w = .ok (.comm ccs.toArray false .select) w := by
    simp only [execOp, ho, Sem.run_bind]
    rw [Array.mapM_eq_mapM_toList]
    simp only [Sem.run_map, h1, Result.andThen_ok, Sem.run_pure]
  have hrc : ∀ c ∈ ccs, c.send = none := by
    intro c hcm
    obtain ⟨j, hj, rfl⟩ := List.getElem_of_mem hcm
    obtain ⟨e, z, g1, _⟩ := h3 j rs[j] (List.getElem?_eq_getElem (by omega))
    rw [List.getElem?_eq_getElem hj] at g1
    rw [Option.some.inj g1]
    rfl
  have hno : ∀ (j : Nat) (c : CommCase) (r : Nat × Nat × List V × V), ccs[j]? = some c → rs[j]? = some r → r.2.2.1 = [] → Conc.NoWay w c := by
    intro j c r hcj hrj hx
    obtain ⟨e, z, g1, g2, g3, _⟩ := h3 j r hrj
    rw [hcj] at g1
    rw [Option.some.inj g1]
    rw [hx] at g3
    obtain ⟨_, _, _, b, s, q, hh, hb⟩ := chan_at hS g2 g3
    simp only [VsRel] at hb
    have : b = #[] := by apply Array.ext'; exact hb
    subst this
    exact Conc.noWay_recv hh
  unfold selV at h
  split at h
  · rename_i hr
    cases h
    have hall := readyC_nil hr
    refine ⟨commResult ccs.toArray .select (-1) undef false, w, Step.refl hS, ?_, ?_⟩
    · rw [commResult_list hrc]
      simp only [VRel, VsRel]
      exact ⟨_, rfl, _, _, rfl, ⟨rfl, by decide⟩, _, _, rfl, rfl, zeros_rel h2 h3⟩
    · intro ops i bf k cs rest hoi hg hrd
      obtain ⟨es, hst⟩ := comm_at (P := P) (w := w) (k := k) (cs := cs) (rest := rest) hoi hg hrun hrd
      refine Conc.step_lone_sel_default hst fun cc hcc => ?_
      obtain ⟨j, hj, rfl⟩ := List.getElem_of_mem (List.mem_toArray.1 hcc)
      exact hno j _ rs[j] (List.getElem?_eq_getElem hj) (List.getElem?_eq_getElem (by omega)) (hall _ (List.getElem_mem _))
  · rename_i j k cap x xs hr
    split at h
    case h_2 => cases h
    rename_i hbl4
    have hj4 : j < 4096 := by simpa [Nat.blt_eq] using hbl4
    cases h
    obtain ⟨z, _, g2, g3⟩ := readyC_one hr
    simp only [Nat.sub_zero] at g2 g3
    obtain ⟨e, cz, q1, q2, q3, q4⟩ := h3 j _ g2
    obtain ⟨_, _, _, b, s, q, hh, hb⟩ := chan_at hS q2 q3
    simp only [VsRel] at hb
    obtain ⟨c0, cs0, hbl, hx, hxs⟩ := hb
    have hb0 : b.getD 0 undef = c0 := by rw [Array.getD_eq_getD_getElem?, ← Array.getElem?_toList, hbl]; rfl
    have hb1 : (b.extract 1 b.size).toList = cs0 := by
      rw [Array.toList_extract, List.extract_eq_take_drop, hbl, List.drop_succ_cons, List.drop_zero]
      refine List.take_of_length_le ?_
      have : b.size = cs0.length + 1 := by rw [← Array.length_toList, hbl]; rfl
      omega
    refine ⟨commResult ccs.toArray .select j (b.getD 0 undef) true, w.setChan e.blk cap (b.extract 1 b.size) false s (q + 1) false, ?_, ?_, ?_⟩
    · exact setCh_step hS q2 q3 (by rw [hb1]; exact hxs)
    · rw [commResult_list hrc, hb0]
      simp only [VRel, VsRel]
      exact ⟨_, rfl, _, _, rfl, ⟨rfl, by simp [inR, IntKind.min, IntKind.max, IntKind.bits, IntKind.signed]; omega⟩, _, _, rfl, rfl, selVals_rel hx h2 h3⟩
    · intro ops i bf k' cs rest hoi hg hrd
      obtain ⟨es, hst⟩ := comm_at (P := P) (w := w) (k := k') (cs := cs) (rest := rest) hoi hg hrun hrd
      refine Conc.step_lone_sel_recv_buf hst (by simpa using q1) (fun p c' hp hc' => ?_) hh (by rw [← Array.length_toList, hbl]; simp)
      have hc'' : ccs[p]? = some c' := by simpa using hc'
      have hlt : p < rs.length := by have := (List.getElem?_eq_some_iff.1 hc'').1; omega
      exact hno p c' rs[p] hc'' (List.getElem?_eq_getElem hlt) (g3 p rs[p] hp (List.getElem?_eq_getElem hlt))
  · cases h
theorem commV_ok [Pins] (hS : Sim E m w) (hρ : ERel E ρ a.tmps.toList) {o : Oper} {v : V} {m' : Mem} (h : commV P o ρ m = some (v, m')) : CommOk P o a E m w v m' := by
  unfold commV at h
  split at h
  · rename_i c x ho
    split at h
    · rename_i k hk
      split at h
      · rename_i cap xs hc
        split at h
        · rename_i hb
          cases h
          exact send_ok hS hρ ho hk hc (by simpa [Nat.blt_eq] using hb)
        · cases h
      · cases h
    · cases h
  · rename_i cs ho
    split at h
    · rename_i rs hr
      exact selV_ok hS hρ ho hr h
    · cases h
  · cases h
theorem ccomms_sound [Pins] {ops : Array Oper} {J : Act → Prop} (K : Env → Mem → Prop) (Q : Exit → Act → World → Prop) : ∀ (l : List Oper) (i : Nat) (ρ : Env) (m : Mem) (E : Wh) (a : Act) (w : World),
    (∀ j, l[j]? = ops[i + j]?) → (∀ o ∈ l, ∀ a v, J a → J (a.put o.dst v)) → J a → Sim E m w → ERel E ρ a.tmps.toList → ccomms P l ρ m K →
    (∀ ρ' m' E' a' w', K ρ' m' → Step E m w E' m' w' → ERel E' ρ' a'.tmps.toList → J a' → Q .normal a' w') →
    ∀ (b : Frame) (k : List Item) (cs : List Frame), b.roundOf = none → (FW none).fn b.fn → (FW none).room (cs.length + 1 + 0) →
      ∃ e a' w', Q e a' w' ∧ ArrivesIn (Machine.fenced P (FW none)) P (lone (b.atR a (.inRegion ops (List.range' i l.length) :: k)) cs w) b k cs e a' w'
  | [], i, ρ, m, E, a, w, hl, hJ, hj, hS, hρ, h, hQ => by
    intro b k cs hro hb hr
    exact ⟨.normal, a, w, hQ ρ m E a w h (Step.refl hS) hρ hj, .one (fenced_calm hb hr rfl) stepR_region_end⟩
  | o :: os, i, ρ, m, E, a, w, hl, hJ, hj, hS, hρ, h, hQ => by
    intro b k cs hro hb hr
    have ho : ops[i]? = some o := by have := hl 0; simpa using this.symm
    have hl' : ∀ j, os[j]? = ops[i + 1 + j]? := fun j => by have := hl (j + 1); rw [List.getElem?_cons_succ] at this; rw [this]; congr 1; omega
    have hJ' : ∀ o ∈ os, ∀ a v, J a → J (a.put o.dst v) := fun o ho => hJ o (List.mem_cons_of_mem _ ho)
    rw [List.length_cons, List.range'_succ]
    have h0 : (lone (b.atR a (.inRegion ops (i :: List.range' (i + 1) os.length) :: k)) cs w).fenced P (FW none) := fenced_oper hb hr ho (fun _ _ => trivial)
    have hfin : ∀ v, (b.atR a (.inRegion ops (i :: List.range' (i + 1) os.length) :: k)).finish v = b.atR (a.put o.dst v) (.inRegion ops (List.range' (i + 1) os.length) :: k) := by
      intro v; rw [Frame.finish_atR, ho]; rfl
    simp only [ccomms] at h
    cases hg : o.guard with
    | some _ => rw [hg] at h; exact h.elim
    | none =>
      rw [hg] at h
      simp only at h
      have more : ∀ (ρ' : Env) (m' : Mem) (E' : Wh) (cv : Value) (w' : World), Step E m w E' m' w' → ERel E' ρ' (a.put o.dst cv).tmps.toList → ccomms P os ρ' m' K →
          step P (lone (b.atR a (.inRegion ops (i :: List.range' (i + 1) os.length) :: k)) cs w) = .next (lone ((b.atR a (.inRegion ops (i :: List.range' (i + 1) os.length) :: k)).finish cv) cs w') →
          ∃ e a' w', Q e a' w' ∧ ArrivesIn (Machine.fenced P (FW none)) P (lone (b.atR a (.inRegion ops (i :: List.range' (i + 1) os.length) :: k)) cs w) b k cs e a' w' := by
        intro ρ' m' E' cv w' hst hρ' hk hstep
        obtain ⟨e, a', w'', hq, harr⟩ := ccomms_sound K Q os (i + 1) ρ' m' E' (a.put o.dst cv) w' hl' hJ' (hJ o (by simp) _ _ hj) hst.sim hρ' hk (fun ρ2 m2 E2 a2 w2 hk2 hst2 hρ2 hj2 => hQ ρ2 m2 E2 a2 w2 hk2 (hst.trans hst2) hρ2 hj2) b k cs hro hb hr
        refine ⟨e, a', w'', hq, .of_steps (.one h0 ?_) harr⟩
        rw [hstep, hfin]
      cases hc : isComm o with
      | true =>
        rw [hc] at h
        simp only at h
        split at h
        · rename_i v m' hv
          obtain ⟨cv, w', hst, hvr, hstep⟩ := commV_ok hS hρ hv
          exact more _ _ E cv w' hst (put_rel hρ hvr) h (hstep ops i b k cs _ ho hg hro)
        · exact h.elim
      | false =>
        rw [hc] at h
        simp only at h
        unfold csop at h
        split at h
        · rename_i c v ρ' m' hs
          split at h
          · obtain ⟨E', cv, w', hd, hst, hv, hρ'⟩ := sop_sound hS hρ hs
            have hw : Region.wanted o (yielded ops a.tmps) = true := by unfold Region.wanted; rw [hg]
            have hgr := stepGR_op (P := P) (b := b) (a := a) (k := k) (cs := cs) (w := w) (rest := List.range' (i + 1) os.length) ho hw
            rw [hro, Oper.semAt_none] at hgr
            refine more _ _ E' cv w' hst (put_rel hρ' hv) h ?_
            rcases hd with hd | ⟨hd, rfl⟩
            · exact step_lone_go (by rw [hgr]; simp [stepG.apply, hd])
            · exact step_lone_go (by rw [hgr]; simp [stepG.apply, hd])
          · exact h.elim
        · exact h.elim
theorem cexecH_sound [Pins] (hN : Named P) (hC : CallsOk P C) {E0 : Wh} {m0 : Mem} {w0 : World} {J : Act → Prop} (hS0 : Sim E0 m0 w0) {W : Masks} (hW : LoopsOk P m0.length W) (n : Nat) : ∀ (c : Code), Keeps J c → Doing P none E0 m0 w0 J c (cexecH P C W m0.length n c) := by
  intro c
  induction c with
  | seq x y ihx ihy =>
    intro hK ρ m K E a w Q hS hρ hd h hQ
    simp only [cexecH] at h
    refine wpIn_seq (ihx (fun o ho => hK o (List.mem_append_left _ ho)) ρ m _ E a w _ hS hρ hd h ?_)
    intro e ρ' m' E' a' w' hk hst hρ' hd'
    cases e with
    | normal => exact ihy (fun o ho => hK o (List.mem_append_right _ ho)) ρ' m' K E' a' w' Q hst hρ' hd' hk hQ
    | ret => exact hQ _ _ _ _ _ _ hk hst hρ' hd'
    | exit id => exact hQ _ _ _ _ _ _ hk hst hρ' hd'
    | panic p => exact hQ _ _ _ _ _ _ hk hst hρ' hd'
  | cond c x y ihx ihy =>
    intro hK ρ m K E a w Q hS hρ hd h hQ
    simp only [cexecH] at h
    split at h
    · rename_i t hc
      have hcr := opd_rel (a := a) hρ c
      rw [hc] at hcr
      simp only [VRel] at hcr
      refine wpIn_cond hcr ?_
      cases t with
      | true => exact ihx (fun o ho => hK o (List.mem_append_left _ ho)) ρ m K E a w Q hS hρ hd h hQ
      | false => exact ihy (fun o ho => hK o (List.mem_append_right _ ho)) ρ m K E a w Q hS hρ hd h hQ
    · cases h
  | block id x ih =>
    intro hK ρ m K E a w Q hS hρ hd h hQ
    simp only [cexecH] at h
    refine wpIn_block (ih hK ρ m _ E a w _ hS hρ hd h ?_)
    intro e ρ' m' E' a' w' hk hst hρ' hd'
    cases e with
    | normal => exact hQ _ _ _ _ _ _ hk hst hρ' hd'
    | ret => exact hQ _ _ _ _ _ _ hk hst hρ' hd'
    | panic p => exact hQ _ _ _ _ _ _ hk hst hρ' hd'
    | exit j =>
      simp only [QE, exitOf, Exit.inBlock]
      cases hb : Nat.beq j id with
      | true =>
        rw [if_pos (Nat.eq_of_beq_eq_true hb)]
        simp only [hb] at hk
        exact hQ _ _ _ _ _ _ hk hst hρ' hd'
      | false =>
        rw [if_neg (Nat.ne_of_beq_eq_false hb)]
        simp only [hb] at hk
        exact hQ _ _ _ _ _ _ hk hst hρ' hd'
  | scope x ih =>
    intro hK ρ m K E a w Q hS hρ hd h hQ
    simp only [cexecH] at h
    refine wpIn_scope_straight (ih hK ρ m K E a w _ hS hρ hd h ?_)
    intro e ρ' m' E' a' w' hk hst hρ' hd'
    have := hQ e ρ' m' E' a' w' hk hst hρ' hd'
    cases e <;> exact this
  | region id ops draw =>
    intro hK ρ m K E a w Q hS hρ hd h hQ
    simp only [cexecH] at h
    split at h
    · split at h
      · intro b k cs hro hb hr
        have hsz : List.range ops.size = List.range' 0 ops.toList.length := by rw [List.range_eq_range', Array.length_toList]
        obtain ⟨e, a', w', hq, harr⟩ := ccomms_sound (J := J) _ Q ops.toList 0 ρ m E a w (fun j => by rw [Nat.zero_add, Array.getElem?_toList]) (fun o ho => hK o (by simpa [codeOps] using ho)) hd hS.sim hρ h
          (fun ρ' m' E' a' w' hk hst hρ' hd' => hQ .normal ρ' m' E' a' w' hk (hS.trans hst) hρ' hd') b k cs hro hb hr
        rw [← hsz] at harr
        exact ⟨e, a', w', hq, .of_steps (.one (fenced_calm hb hr rfl) stepR_region) harr⟩
      · cases h
    · exact cexec_sound hN hC noY_ok hS0 hW n _ hK ρ m K E a w Q hS hρ hd h hQ
  | _ =>
    intro hK ρ m K E a w Q hS hρ hd h hQ
    simp only [cexecH] at h
    exact cexec_sound hN hC noY_ok hS0 hW n _ hK ρ m K E a w Q hS hρ hd h hQ
theorem cbodyH_sound [Pins] (hN : Named P) (hC : CallsOk P C) {n : Nat} {f : FuncId} {fn : Func} (hf : P.funcs[f]? = some fn) {args : List V} {K : V → Mem → Prop} {cargs : Array Value} (hS : Sim E m w) (hargs : VsRel E args cargs.toList) (h : cbodyH P C n fn args m K) :
    (∃ fn, P.funcs[f]? = some fn ∧ fn.body.isSome = true) ∧ Calls P f cargs w (Ret K E m w) := by
  unfold cbodyH at h
  split at h
  · cases h
  · rename_i c hc
    refine ⟨⟨fn, hf, by rw [hc]; rfl⟩, fw_calls' (r := none) (n := 0) (callsIn_of_wp hf hc trivial ?_ rfl)⟩
    refine cexecH_sound hN hC hS (LoopsOk.none _ _) n c (Keeps.defers [] c) _ m _ E _ w _ (Step.refl hS) (frame_rel hargs fn.ntmps) rfl h ?_
    intro e ρ' m' E' a' w' hk hst hρ' hd
    cases e with
    | panic p => exact fun c hv => ⟨hd, kbody_pan hS hk hst hv⟩
    | exit id => exact ((kbody_done hS hk hst hρ' (fun _ hh => by cases hh)).1 id rfl).elim
    | normal => obtain ⟨_, cv, h1, h2⟩ := kbody_done hS hk hst hρ' (fun _ hh => by cases hh); exact ⟨hd, cv, h1, h2⟩
    | ret => obtain ⟨_, cv, h1, h2⟩ := kbody_done hS hk hst hρ' (fun _ hh => by cases hh); exact ⟨hd, cv, h1, h2⟩
/-- Calls, with deferred ones, with loops over functions in the functions 'L', with loops over maps ('R'), with channels in the functions 'H'. -/
def callZ (P : Program) (S : Prims) (L : List FuncId) (R : List (Nat × Nat)) (H : List FuncId) : Nat → CC
  | 0 => fun _ _ _ _ => False
  | n + 1 => fun f args m K =>
    match S f with
    | some g => g args m K
    | none =>
      match P.funcs[f]? with
      | some fn =>
        (match mem? f L with
         | true => cbodyY P (callZ P S L R H n) n fn args m K
         | false =>
           (match mem? f H with
            | true => cbodyH P (callZ P S L R H n) n fn args m K
            | false => (match hasDefer fn with | true => cbodyD P (callZ P S L R H n) (maskR P R f) n fn args m K | false => cbody P (callZ P S L R H n) (maskR P R f) n fn args m K)))
      | none => False
theorem callZ_sound [Pins] (hN : Named P) {S : Prims} {L : List FuncId} {R : List (Nat × Nat)} {H : List FuncId} (hP : PrimsOk P S) : ∀ n, CallsOk P (callZ P S L R H n)
  | 0 => fun g args m K E w cargs hS ha h => by simp [callZ] at h
  | n + 1 => fun g args m K E w cargs hS ha h => by
    simp only [callZ] at h
    split at h
    · rename_i f hf
      exact hP g f hf args m K E w cargs hS ha h
    · split at h
      · rename_i fn hfn
        split at h
        · exact .inl (cbodyY_sound hN (callZ_sound hN hP n) hfn hS ha h)
        · split at h
          · exact .inl (cbodyH_sound hN (callZ_sound hN hP n) hfn hS ha h)
          · split at h
            · exact .inl (cbodyD_sound hN (callZ_sound hN hP n) hfn (maskR_ok hN R _ _) hS ha h)
            · exact .inl (cbody_sound hN (callZ_sound hN hP n) hfn (maskR_ok hN R _ _) hS ha h)
      · cases h
end
end Go.Ab
