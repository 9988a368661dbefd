/- Loops over functions: a round is a call of yield; the loop's record is a block. -/
import Derived.Test.YtjciabbnncidjaaGreatAbDefer
import Derived.RangeFuncLeaves
import Derived.RangeFuncRecord
set_option linter.unusedSimpArgs false
set_option linter.unusedVariables false
namespace Go.Ab
open Go

def pairT : List Tmp → List V → List (Nat × V)
  | t :: ts, v :: vs => (t, v) :: pairT ts vs
  | _, _ => []
/-- A round's frame: the record's temporaries, and yield's arguments. -/
def rframe (ps : List Tmp) (d vs : List V) : Env := setsE (pairT ps vs) (selE d.length ((List.range d.length).zip d))
section
variable (P : Program) (C : CC)
/-- The record of a loop. -/
def recAt (m : Mem) (k : Nat) : Option Col := match (m.getD k default).ro, (m.getD k default).mv with | false, false => (m.getD k default).sp | _, _ => none
def setRec (m : Mem) (k : Nat) (c : Col) : Mem := m.set k ⟨[c], (m.getD k default).et, false, (m.getD k default).mv⟩
/-- What comes behind a round. -/
def endR (k a : Nat) (K : V → Mem → Prop) : Ex → Env → Mem → Prop := fun e _ m =>
  match recAt m k with
  | some (.lp .busy none ps x y d) =>
    (match e with
     | .normal => K (.B true) (trim (setRec m k (.lp .ready none ps x y d)) (keep (setRec m k (.lp .ready none ps x y d)) a (.B true)))
     | .ret => K (.B false) (trim (setRec m k (.lp .done (some .ret) ps x y d)) (keep (setRec m k (.lp .done (some .ret) ps x y d)) a (.B false)))
     | .exit id => K (.B false) (trim (setRec m k (.lp .done (some (.exit id)) ps x y d)) (keep (setRec m k (.lp .done (some (.exit id)) ps x y d)) a (.B false)))
     | .panic _ => False)
  | _ => False
/-- One round. -/
def yieldF (n : Nat) : YC := fun args m K =>
  match args with
  | .yv k :: vs =>
    (match (m.getD k default).sp with
     | some (.lp .ready none ps x y d) =>
       (match Nat.beq ps.size vs.length with
        | true =>
          cexec P C noY (fun _ => none) m.length n x (rframe ps.toList d vs) m fun e ρ m1 =>
            (match e with
             | .normal =>
               (match recAt m1 k with
                | some (.lp .ready none ps' x' y' d') => cexec P C noY (fun _ => none) m.length n y ρ (setRec m1 k (.lp .busy none ps' x' y' d')) (endR k m.length K)
                | _ => False)
             | _ => False)
        | false => False)
     | _ => False)
  | _ => False
/-- The function that is ranged over. -/
def cbodyI (Y : YC) (n : Nat) (g : FuncId) : CC := fun _ args m K =>
  match P.funcs[g]? with
  | some fn =>
    (match fn.body with
     | some c => cexec P C Y (fun _ => none) m.length n c (Tr.puts 0 args (Tr.full (.tup []) (max fn.ntmps args.length) (max fn.ntmps args.length))) m (kbody P m.length fn K)
     | none => False)
  | none => False
/-- Behind the loop. -/
def endL (k : Nat) (K : Ex → Env → Mem → Prop) : V → Env → Mem → Prop := fun v ρ m =>
  match v with
  | .pan _ => False
  | _ =>
  match recAt m k with
  | some (.lp s pe ps x y d) =>
    (match s with
     | .busy => False
     | _ =>
       match pe with
       | none => K .normal ρ (setRec m k (.lp .exhausted pe ps x y d))
       | some .ret => K .ret ρ (setRec m k (.lp .exhausted pe ps x y d))
       | some (.exit id) => K (.exit id) ρ (setRec m k (.lp .exhausted pe ps x y d))
       | _ => False)
  | _ => False
def lpBlk (ps : Array Tmp) (x y : Code) (d : List V) : Blk := ⟨[.lp .ready none ps x y d], 0, false, false⟩
def rangeF (n N : Nat) (f : Operand) (ps : Array Tmp) (x y : Code) (ρ : Env) (m : Mem) (K : Ex → Env → Mem → Prop) : Prop :=
  match opd ρ f, ρ.has (N - 1) with
  | .fn (.func g) first captured, true =>
    ccall (cbodyI P C (yieldF P C n) n g) 0 (first ++ [.yv m.length] ++ captured) ρ (m ++ [lpBlk ps x y ((List.range N).map ρ.get)]) (endL m.length K)
  | _, _ => False
/-- Code with loops over functions. -/
def cexecY (n N a : Nat) : Code → Env → Mem → (Ex → Env → Mem → Prop) → Prop
  | .seq x y, ρ, m, K => cexecY n N a x ρ m fun e ρ m => match e with | .normal => cexecY n N a y ρ m K | e => K e ρ m
  | .cond c x y, ρ, m, K =>
    (match opd ρ c with
     | .B t => (match t with | true => cexecY n N a x ρ m K | false => cexecY n N a y ρ m K)
     | _ => False)
  | .block id x, ρ, m, K => cexecY n N a x ρ m fun e ρ m => match e with | .exit j => (match Nat.beq j id with | true => K .normal ρ m | false => K (.exit j) ρ m) | e => K e ρ m
  | .scope x, ρ, m, K => cexecY n N a x ρ m K
  | .rangeFunc f ps x y, ρ, m, K => rangeF P C n N f ps x y ρ m K
  | c, ρ, m, K => cexec P C noY (fun _ => none) a n c ρ m fun e ρ m => match e with | .panic _ => False | e => K e ρ m
def cbodyY (n : Nat) (fn : Func) (args : List V) (m : Mem) (K : V → Mem → Prop) : Prop :=
  match fn.body with
  | none => False
  | some c => cexecY P C n (max fn.ntmps args.length) m.length c (Tr.puts 0 args (Tr.full (.tup []) (max fn.ntmps args.length) (max fn.ntmps args.length))) m (kbody P m.length fn K)
end
section
variable {P : Program} {C : CC} {E : Wh} {m : Mem} {w : World} {ρ : Env}
theorem cexec_a (P : Program) (C : CC) (Y : YC) (n a a' : Nat) : ∀ c : Code, cexec P C Y (fun _ => none) a n c = cexec P C Y (fun _ => none) a' n c := by
  intro c
  induction c with
  | seq x y ihx ihy => funext ρ m K; simp only [cexec, ihx, ihy]
  | cond c x y ihx ihy => funext ρ m K; simp only [cexec, ihx, ihy]
  | block id x ih => funext ρ m K; simp only [cexec, ih]
  | loop x ih => funext ρ m K; simp only [cexec, ih]
  | scope x ih => funext ρ m K; simp only [cexec, ih]
  | _ => funext ρ m K; simp only [cexec]
theorem recAt_some [Pins] {k : Nat} {c : Col} (h : recAt m k = some c) : (m.getD k default).ro = false ∧ (m.getD k default).mv = false ∧ (m.getD k default).sp = some c := by
  unfold recAt at h
  split at h
  · rename_i h1 h2; exact ⟨h1, h2, h⟩
  · cases h
theorem sets_rel [Pins] {cs : Array Value} : ∀ {ps : List Tmp} {vs : List V} {as : List Value} {ρ : Env}, VsRel E vs as → ERel E ρ cs.toList → ERel E (setsE (pairT ps vs) ρ) ((ps.zip as).foldl (fun t (p, v) => t.setIfInBounds p v) cs).toList := by
  intro ps
  induction ps generalizing cs with
  | nil => intro vs as ρ _ h; simpa [pairT, setsE] using h
  | cons p ps ih =>
    intro vs as ρ hv h
    cases vs with
    | nil =>
      simp only [VsRel] at hv
      subst hv
      simpa [pairT, setsE] using h
    | cons v vs =>
      simp only [VsRel] at hv
      obtain ⟨c, as', rfl, h1, h2⟩ := hv
      simp only [pairT, setsE, List.zip_cons_cons, List.foldl_cons]
      refine ih h2 ?_
      rw [Array.toList_setIfInBounds]
      exact ERel.set h1 h p
theorem zip_range_get {d : List V} {p : Nat × V} (h : p ∈ (List.range d.length).zip d) : d[p.1]? = some p.2 := by
  obtain ⟨i, hi, rfl⟩ := List.mem_iff_getElem.1 h
  have hi2 : i < d.length := by simpa using hi
  simp [hi2]
theorem rframe_rel [Pins] {ps : Array Tmp} {d vs : List V} {tmps as : Array Value} (hd : VsRel E d (tmps.toList.take d.length)) (hv : VsRel E vs as.toList) :
    ERel E (rframe ps.toList d vs) ((ps.zip as).foldl (fun t (p, v) => t.setIfInBounds p v) tmps).toList := by
  have hl := hd.length
  rw [List.length_take] at hl
  have hn : d.length ≤ tmps.toList.length := by omega
  have h0 : ERel E (selE d.length ((List.range d.length).zip d)) tmps.toList := by
    refine setsE_rel (fun p hp c hc => ?_) (ERel.full hn)
    have h1 := zip_range_get hp
    obtain ⟨c', h2, h3⟩ := hd.look _ _ h1
    have hlt : p.1 < d.length := (List.getElem?_eq_some_iff.1 h1).1
    rw [List.getElem?_take, if_pos hlt, hc] at h2
    cases h2
    exact h3
  have e : (ps.zip as).foldl (fun t (p, v) => t.setIfInBounds p v) tmps = (ps.toList.zip as.toList).foldl (fun t (p, v) => t.setIfInBounds p v) tmps := by
    rw [← Array.foldl_toList, Array.toList_zip]
  rw [e]
  exact sets_rel hv h0
theorem setRec_step [Pins] (hS : Sim E m w) {k : Nat} {e : BE} (hk : E k = some e) {c c' : Col} (h : recAt m k = some c) (hp' : c'.plain = false) {ob' : Obj} (hrel : SpRel E c' ob') : Step E m w E (setRec m k c') (w.putObj e.blk ob') := by
  obtain ⟨h1, _, h3⟩ := recAt_some h
  exact sp_step hS hk h1 h3 hp' (sp_at hS hk h3).1 hrel
theorem keep_rec [Pins] {E0 : Wh} {m0 : Mem} {w0 : World} (hst : Step E0 m0 w0 E m w) {k : Nat} {e : BE} (hk : E0 k = some e) {c : Col} (h : recAt m k = some c) : E k = some e := by
  obtain ⟨e', b, b', h1, h2, h3, _, _, h4⟩ := hst.keep k e hk
  obtain ⟨_, hmv, _⟩ := recAt_some h
  rw [List.getD_eq_getElem?_getD, h2] at hmv
  rw [h3, h4 hmv]
theorem yieldF_ok [Pins] (hN : Named P) (hC : CallsOk P C) (n : Nat) : YieldsOk P (yieldF P C n) := by
  intro args m K E w cargs hS ha h
  unfold yieldF at h
  split at h
  · rename_i k vs
    simp only [VsRel] at ha
    obtain ⟨c0, crest, hca, hc0, hvs⟩ := ha
    simp only [VRel] at hc0
    obtain ⟨e, hk, rfl⟩ := hc0
    split at h
    · rename_i ps x y d hsp
      obtain ⟨hcr, ob, hob, hrel⟩ := sp_at hS hk hsp
      cases ob <;> simp only [SpRel] at hrel <;> first | exact hrel.elim | skip
      rename_i rec
      obtain ⟨hst, hpe, rfl, rfl, rfl, hd⟩ := hrel
      split at h
      · rename_i hsz
        replace hsz := Nat.eq_of_beq_eq_true hsz
        have hsz2 : crest.toArray.size = rec.params.size := by rw [hsz, hvs.length]; rfl
        refine ⟨e.blk, crest.toArray, rec.fn, _, _, _, ?_, run_yield hob hsz2, roundIn_of_wpIn trivial ?_⟩
        · apply Array.ext'; rw [hca]; simp
        · have hρ := rframe_rel (as := crest.toArray) (ps := rec.params) hd hvs
          refine cexec_sound (r := some e.blk) hN hC noY_ok hS (LoopsOk.none _ _) n rec.assign (Keeps.defers [] _) _ m _ E { tmps := _, defers := [] } w _ (Step.refl hS) hρ rfl h ?_
          intro ex ρ1 m1 E1 a1 w1 hk1 hst1 hρ1 hd1
          cases ex with
          | ret => exact hk1.elim
          | exit id => exact hk1.elim
          | panic p => exact hk1.elim
          | normal =>
            simp only at hk1
            split at hk1
            · rename_i ps1 x1 y1 d1 hrec1
              have hE1 := keep_rec hst1 hk hrec1
              obtain ⟨hcr1, ob1, hob1, hrel1⟩ := sp_at hst1.sim hE1 (recAt_some hrec1).2.2
              cases ob1 <;> simp only [SpRel] at hrel1 <;> first | exact hrel1.elim | skip
              rename_i rec1
              obtain ⟨hs1, hp1, rfl, rfl, rfl, hd1'⟩ := hrel1
              refine ⟨_, run_beginRound hob1 hs1, ?_⟩
              have hstB := setRec_step hst1.sim hE1 hrec1 (c' := .lp .busy none rec1.params rec1.assign rec1.body d1) rfl (ob' := .loop { rec1 with state := .busy }) ⟨rfl, hp1, rfl, rfl, rfl, hd1'⟩
              refine cexec_sound (r := some e.blk) hN hC noY_ok hS (LoopsOk.none _ _) n rec.body (Keeps.defers [] _) _ _ _ E1 _ _ _ (hst1.trans hstB) hρ1 hd1 hk1 ?_
              intro ex2 ρ2 m2 E2 a2 w2 hk2 hst2 hρ2 hd2
              unfold endR at hk2
              split at hk2
              · rename_i ps2 x2 y2 d2 hrec2
                have hE2 := keep_rec hst2 hk hrec2
                obtain ⟨hcr2, ob2, hob2, hrel2⟩ := sp_at hst2.sim hE2 (recAt_some hrec2).2.2
                cases ob2 <;> simp only [SpRel] at hrel2 <;> first | exact hrel2.elim | skip
                rename_i rec2
                obtain ⟨hs2, hp2, rfl, rfl, rfl, hd2'⟩ := hrel2
                have fin : ∀ (pe : Option Code) (s0 : LoopState) (b : Bool), s0 = (if pe.isNone then .ready else .done) → b = pe.isNone →
                    K (.B b) (trim (setRec m2 k (.lp s0 pe rec2.params rec2.assign rec2.body d2)) (keep (setRec m2 k (.lp s0 pe rec2.params rec2.assign rec2.body d2)) m.length (.B b))) →
                    ∃ v w', (Instr.endRound e.blk pe).run P w2 = .ok v w' ∧ Ret K E m w (.returned v) w' := by
                  intro pe s0 b hs0 hb hK
                  refine ⟨_, _, run_endRound pe hob2, ?_⟩
                  have hstE := setRec_step hst2.sim hE2 hrec2 (c' := .lp s0 pe rec2.params rec2.assign rec2.body d2) rfl (ob' := .loop { rec2 with state := if pe.isNone then .ready else .done, pending := pe }) ⟨hs0.symm, rfl, rfl, rfl, rfl, hd2'⟩
                  refine ⟨.B b, _, _, hK, (hst2.trans hstE).trim (keep_nodup _ _ _) (fun i hi => keep_first _ _ _ hi) hS, ?_⟩
                  simp only [VRel, hb]
                cases ex2 with
                | normal => exact fin none .ready true rfl rfl hk2
                | ret => exact fin (some .ret) .done false rfl rfl hk2
                | exit id => exact fin (some (.exit id)) .done false rfl rfl hk2
                | panic p => exact hk2.elim
              · exact hk2.elim
            · exact hk1.elim
      · exact h.elim
    · exact h.elim
  · exact h.elim
/-- A function that is ranged over. -/
theorem cbodyI_sound [Pins] (hN : Named P) (hC : CallsOk P C) {Y : YC} (hY : YieldsOk P Y) {n : Nat} {g i : FuncId} {args : List V} {K : V → Mem → Prop} {cargs : Array Value} (hS : Sim E m w) (hargs : VsRel E args cargs.toList) (h : cbodyI P C Y n g i args m K) :
    (∃ fn, P.funcs[g]? = some fn ∧ fn.body.isSome = true) ∧ Calls P g cargs w (Ret K E m w) := by
  unfold cbodyI at h
  split at h
  · rename_i fn hf
    split at h
    · rename_i c hc
      refine ⟨⟨fn, hf, by rw [hc]; rfl⟩, fw_calls' (r := none) (n := 0) (callsIn_of_wp hf hc trivial ?_ rfl)⟩
      refine cexec_sound hN hC hY hS (LoopsOk.none _ _) n c (Keeps.defers [] c) _ m _ E _ w _ (Step.refl hS) (frame_rel hargs fn.ntmps) rfl h ?_
      intro e ρ' m' E' a' w' hk hst hρ' hd
      cases e with
      | panic p => exact fun c hv => ⟨hd, kbody_pan hS hk hst hv⟩
      | exit id => exact ((kbody_done hS hk hst hρ' (fun _ hh => by cases hh)).1 id rfl).elim
      | normal => obtain ⟨_, cv, h1, h2⟩ := kbody_done hS hk hst hρ' (fun _ hh => by cases hh); exact ⟨hd, cv, h1, h2⟩
      | ret => obtain ⟨_, cv, h1, h2⟩ := kbody_done hS hk hst hρ' (fun _ hh => by cases hh); exact ⟨hd, cv, h1, h2⟩
    · exact h.elim
  · exact h.elim
/-! ## Marks: blocks for the calls that rounds defer -/
def FreeAt (E : Wh) (D : Nat) : Prop := ∀ k e, E k = some e → e.cr ≠ 0 → e.blk ≠ D
/-- The calls that a frame has deferred are marks, whose blocks stand, are new, and nobody's. -/
def Marks (w0 : World) (E : Wh) (w : World) : List Deferred → Prop
  | [] => True
  | x :: ds => (∃ D, x = { target := .collected D, args := #[] } ∧ w.heap[D]? = some (.deferred (some [])) ∧ FreeAt E D ∧ w0.heap.size ≤ D ∧ ∀ y ∈ ds, y ≠ x) ∧ Marks w0 E w ds
theorem FreeAt.notOwned {D : Nat} (h : FreeAt E D) : ¬ Owned E m D := fun ⟨k, e, _, hk, _, _, hc, hb⟩ => h k e hk hc hb
theorem FreeAt.step [Pins] {E' : Wh} {m' : Mem} {w' : World} (hst : Step E m w E' m' w') {D : Nat} (h : FreeAt E D) (hD : D < w.heap.size) : FreeAt E' D := by
  intro k e hk hc hb
  obtain ⟨k0, e0, h1, h2, h3⟩ := hst.born k e hk hc (by rw [hb]; exact hD)
  exact h k0 e0 h1 h2 (h3.trans hb)
theorem at_lt {D : Nat} {o : Obj} (h : w.heap[D]? = some o) : D < w.heap.size := (Array.getElem?_eq_some_iff.1 h).1
theorem Marks.step [Pins] {w0 : World} {E' : Wh} {m' : Mem} {w' : World} (hst : Step E m w E' m' w') : ∀ {ds : List Deferred}, Marks w0 E w ds → Marks w0 E' w' ds
  | [], _ => trivial
  | x :: ds, ⟨⟨D, h1, h2, h3, h4, h5⟩, h6⟩ => ⟨⟨D, h1, (hst.old D (at_lt h2) h3.notOwned).trans h2, h3.step hst (at_lt h2), h4, h5⟩, h6.step hst⟩
theorem Marks.lt {w0 : World} : ∀ {ds : List Deferred}, Marks w0 E w ds → ∀ y ∈ ds, ∃ D, y = { target := .collected D, args := #[] } ∧ D < w.heap.size
  | [], _, y, hy => by cases hy
  | x :: ds, ⟨⟨D, h1, h2, _⟩, h6⟩, y, hy => by
    rcases List.mem_cons.1 hy with rfl | hy
    · exact ⟨D, h1, at_lt h2⟩
    · exact h6.lt y hy
/-- The block of a mark is shut. -/
theorem Step.shut [Pins] {E0 : Wh} {m0 : Mem} {w0 : World} (hS0 : Sim E0 m0 w0) (hst : Step E0 m0 w0 E m w) {D : Nat} {o : Obj} (hf : FreeAt E D) (hD : w0.heap.size ≤ D) : Step E0 m0 w0 E m (w.putObj D o) := by
  have hot : ∀ j, j ≠ D → (w.putObj D o).heap[j]? = w.heap[j]? := fun j hj => World.putObj_heap_other hj
  have hsz : (w.putObj D o).heap.size = w.heap.size := by simp [World.putObj]
  refine ⟨⟨fun k e he => ?_, hst.sim.apart, fun j hp => ?_⟩, hst.os, hst.tape, hst.output, by rw [hsz]; exact hst.size, fun j hj ho => ?_, hst.fresh, hst.len, hst.born, hst.keep, hst.gone⟩
  · obtain ⟨b, h1, h2⟩ := hst.sim.blk k e he
    exact ⟨b, h1, h2.kept (fun _ _ hh => hh) (fun hc => hot _ (hf k e he hc)) (by rw [hsz]; exact Nat.le_refl _)⟩
  · obtain ⟨h1, h2⟩ := hst.sim.tab j hp
    have hlt := (hS0.tab j hp).1.lt
    exact ⟨h1.of fun _ => hot j (by omega), h2⟩
  · rw [hot j (by omega)]; exact hst.old j hj ho
theorem Marks.other [Pins] {w0 : World} {D : Nat} {o : Obj} : ∀ {ds : List Deferred}, Marks w0 E w ds → (∀ y ∈ ds, y ≠ ({ target := .collected D, args := #[] } : Deferred)) → Marks w0 E (w.putObj D o) ds
  | [], _, _ => trivial
  | x :: ds, ⟨⟨D', h1, h2, h3, h4, h5⟩, h6⟩, hn => ⟨⟨D', h1, by
      rw [World.putObj_heap_other]
      · exact h2
      · rintro rfl; exact hn x (by simp) h1, h3, h4, h5⟩, h6.other fun y hy => hn y (by simp [hy])⟩
/-- A frame with marks leaves. -/
theorem leaves_marks [Pins] {E0 : Wh} {m0 : Mem} {w0 : World} (hS0 : Sim E0 m0 w0) {fn : Func} {tmps : Array Value} {R : Ending → World → Prop}
    (hR : ∀ w', Step E0 m0 w0 E m w' → ∃ c, (results fn tmps).run P w' = .ok c w' ∧ R (.returned c) w') : ∀ (ds : List Deferred) (w : World), Marks w0 E w ds → Step E0 m0 w0 E m w → LeavesInM (FW none) 0 P fn tmps R ds .returning w
  | [], w, _, hst => hR w hst
  | x :: ds, w, ⟨⟨D, h1, h2, h3, h4, h5⟩, h6⟩, hst => by
    subst h1
    refine ⟨by simp, .inl ⟨D, _, rfl, run_takeDeferred h2, ?_⟩⟩
    exact leaves_marks hS0 hR ds _ (h6.other h5) (hst.shut hS0 h3 h4)
/-! ## The statement -/
def AfterY [Pins] (E0 : Wh) (m0 : Mem) (w0 : World) (K : Ex → Env → Mem → Prop) (Q : Exit → Act → World → Prop) : Prop :=
  ∀ e ρ' m' E' a' w', K e ρ' m' → (∀ p, e ≠ .panic p) → Step E0 m0 w0 E' m' w' → ERel E' ρ' a'.tmps.toList → Marks w0 E' w' a'.defers → Q (exitOf e) a' w'
def DoingY [Pins] (P : Program) (E0 : Wh) (m0 : Mem) (w0 : World) (c : Code) (f : Env → Mem → (Ex → Env → Mem → Prop) → Prop) : Prop :=
  ∀ (ρ : Env) (m : Mem) (K : Ex → Env → Mem → Prop) (E : Wh) (a : Act) (w : World) (Q : Exit → Act → World → Prop),
    Step E0 m0 w0 E m w → ERel E ρ a.tmps.toList → Marks w0 E w a.defers → f ρ m K → AfterY E0 m0 w0 K Q → c.wpIn (FW none) 0 P Q a w
theorem Step.grow [Pins] (hS : Sim E m w) (o : Obj) : Step E m w E m (w.alloc o) := by
  have hold : ∀ j, j < w.heap.size → (w.alloc o).heap[j]? = w.heap[j]? := fun j hj => heap_alloc_old w o hj
  refine Step.of hS (fun k e he => ?_) hS.apart rfl rfl rfl (by simp) (fun j hj _ => hold j hj) (fun j h _ => h) (Nat.le_refl _) (fun k e he hc _ => ⟨k, e, he, hc, rfl⟩) (fun k e he => ?_) (fun _ _ h => h)
  · obtain ⟨b, h1, h2⟩ := hS.blk k e he
    exact ⟨b, h1, h2.kept (fun _ _ hh => hh) (fun hc => hold _ (h2.lt hc)) (by simp)⟩
  · obtain ⟨b, hb, _⟩ := hS.blk k e he
    exact ⟨e, b, b, hb, hb, he, id, id, fun _ => rfl⟩
theorem rec_new [Pins] (hS : Sim E m w) (c : Col) (hp : c.plain = false) (t : TypeId) {ob : Obj} (hrel : SpRel E c ob) : NewB E m w (w.alloc ob) ⟨[c], t, false, false⟩ ⟨w.heap.size, 0, 1, 1, 0⟩ := by
  have h := sp_new hS c hp t hrel
  exact ⟨h.os, h.tape, h.out, h.size, h.hold, ⟨h.blk.nc, h.blk.rows, h.blk.len, h.blk.cells, h.blk.own, h.blk.lt, h.blk.room, h.blk.max, h.blk.mo⟩, h.far⟩
theorem range_rel [Pins] {ρ : Env} {cs : List Value} (hρ : ERel E ρ cs) {N : Nat} (hn : ρ.has (N - 1) = true) : VsRel E ((List.range N).map ρ.get) (cs.take ((List.range N).map ρ.get).length) := by
  have hN : N ≤ cs.length := by
    rw [Tr.has_look] at hn
    cases hl : ρ.look (N - 1) with
    | none => rw [hl] at hn; cases hn
    | some v =>
      obtain ⟨c, hc, _⟩ := hρ _ v hl
      have := (List.getElem?_eq_some_iff.1 hc).1
      omega
  rw [List.length_map, List.length_range]
  refine VsRel.of (by rw [List.length_map, List.length_range, List.length_take]; omega) fun j v hv => ?_
  simp only [List.getElem?_map, Option.map_eq_some_iff] at hv
  obtain ⟨i, hi, rfl⟩ := hv
  obtain ⟨hj, hji⟩ := List.getElem?_eq_some_iff.1 hi
  rw [List.length_range] at hj
  rw [List.getElem_range] at hji
  subst hji
  have hlt : j < cs.length := by omega
  refine ⟨cs[j], by rw [List.getElem?_take, if_pos hj, List.getElem?_eq_getElem hlt], ?_⟩
  have := hρ.get j undef
  rwa [List.getD_eq_getElem?_getD, List.getElem?_eq_getElem hlt] at this
set_option maxHeartbeats 2000000 in
theorem rangeF_sound [Pins] (hN : Named P) (hC : CallsOk P C) {E0 : Wh} {m0 : Mem} {w0 : World} (n N : Nat) (f : Operand) (ps : Array Tmp) (x y : Code) :
    DoingY P E0 m0 w0 (.rangeFunc f ps x y) (rangeF P C n N f ps x y) := by
  intro ρ m K E a w Q hst hρ hM h hQ
  unfold rangeF at h
  split at h
  · rename_i g first captured hf hn
    have hfv := opd_rel (a := a) hρ f
    rw [hf] at hfv
    simp only [VRel] at hfv
    obtain ⟨f', c', hfc, hfirst, hcapt⟩ := hfv
    refine wpIn_rangeFunc fun fn _ => ?_
    -- the record and the block for deferred calls
    have hstA := Step.grow hst.sim (.deferred (some []))
    have hDsz : (w.alloc (.deferred (some []))).heap.size = w.heap.size + 1 := by simp
    have hDat : (w.alloc (.deferred (some []))).heap[w.heap.size]? = some (.deferred (some [])) := heap_alloc_new w _
    have hd := range_rel hρ hn
    have hnew := rec_new hstA.sim (.lp .ready none ps x y ((List.range N).map ρ.get)) rfl 0 (ob := .loop { state := .ready, pending := none, fn, tmps := a.tmps, params := ps, assign := x, body := y, defers := w.heap.size }) ⟨rfl, rfl, rfl, rfl, rfl, hd⟩
    have hstB := hnew.step hstA.sim
    have hkE : upd E m.length ⟨(w.alloc (.deferred (some []))).heap.size, 0, 1, 1, 0⟩ m.length = some ⟨(w.alloc (.deferred (some []))).heap.size, 0, 1, 1, 0⟩ := upd_same _ _ _
    have hstAB := hstA.trans hstB
    have hargs : VsRel (upd E m.length ⟨(w.alloc (.deferred (some []))).heap.size, 0, 1, 1, 0⟩) (first ++ [.yv m.length] ++ captured) ((f' ++ #[Value.func (Fn.yield (w.heap.size + 1)) #[] #[]]) ++ c').toList := by
      rw [Array.toList_append, Array.toList_append]
      refine VsRel.app (VsRel.app (hfirst.mono (upd_new hst.sim _)) ?_) (hcapt.mono (upd_new hst.sim _))
      simp only [VsRel, VRel]
      exact ⟨_, [], rfl, ⟨_, hkE, by rw [hDsz]⟩, rfl⟩
    generalize hw1 : (w.alloc (.deferred (some []))).alloc (.loop { state := .ready, pending := none, fn, tmps := a.tmps, params := ps, assign := x, body := y, defers := w.heap.size }) = w1 at hstB hstAB
    generalize hm1 : m ++ [lpBlk ps x y ((List.range N).map ρ.get)] = m1 at h
    have hm1' : m ++ [⟨[.lp .ready none ps x y ((List.range N).map ρ.get)], 0, false, false⟩] = m1 := hm1
    rw [hm1'] at hstB hstAB
    generalize hE1 : upd E m.length ⟨(w.alloc (.deferred (some []))).heap.size, 0, 1, 1, 0⟩ = E1 at hstB hstAB hkE hargs
    generalize hks : foot m1 (first ++ [.yv m.length] ++ captured) = ks at h
    unfold ccall at h
    rw [hks] at h
    have hnd : ks.Nodup := hks ▸ foot_nodup _ _
    have hlt : ∀ k ∈ ks, k < m1.length := hks ▸ foot_lt _ _
    obtain ⟨⟨gn, hgn, hbody⟩, hcalls⟩ := cbodyI_sound hN hC (yieldF_ok hN hC n) (hstB.sim.cut' hnd) (hargs.cut ks) h
    have hb : gn.body.isNone = false := by cases hfb : gn.body <;> simp_all
    have hnm := hN g gn hgn
    refine ⟨w.heap.size + 1, [{ target := .collected w.heap.size, args := #[] }], w1, { target := .fn (.func g) c', args := f' ++ #[Value.func (Fn.yield (w.heap.size + 1)) #[] #[]] }, w1, g, (f' ++ #[Value.func (Fn.yield (w.heap.size + 1)) #[] #[]]) ++ c', w1, ?_, ?_, fun _ _ => trivial, ?_, fun hh => (by cases hh), fw_calls (Calls.mono hcalls fun e w' he => ?_)⟩
    · rw [← hw1]; exact run_enterLoop_outer _ _ _ _ _
    · simp only [resolve, rangeCall, hfc]
      simp [Deferred.ofValue, Act.eval]
      try rfl
    · simp only [invoke, callFunc, Sem.run_bind, Sem.run_pure, Result.andThen_ok, run_program, hgn, hnm, hb, Bool.false_eq_true, if_false]
    · cases e with
      | panicked c =>
        obtain ⟨p, c, mf, E2, _, hK, _⟩ := he
        simp only [V.ren, endL] at hK
      | outgrown => exact he.elim
      | returned cv =>
        obtain ⟨v, mf, E2, hK, hs, hr⟩ := he
        have hsb := hs.back hstB.sim hnd hlt
        have hρ1 : ERel E1 ρ a.tmps.toList := by rw [← hE1]; exact hρ.mono (upd_new hst.sim _)
        have hρ3 := dropE_rel hstB.sim hnd hs hρ1
        have hD1 : w1.heap[w.heap.size]? = some (.deferred (some [])) := by rw [← hw1, heap_alloc_old _ _ (by simp)]; exact hDat
        have hF1 : FreeAt E1 w.heap.size := by
          intro k e hk hc
          rw [← hE1] at hk
          by_cases hkm : k = m.length
          · subst hkm
            rw [upd_same] at hk
            cases hk
            simp
          · rw [upd_ne hkm] at hk
            obtain ⟨b, _, hb2⟩ := hst.sim.blk k e hk
            have := hb2.lt hc
            omega
        have hM1 : Marks w0 E1 w1 ({ target := .collected w.heap.size, args := #[] } :: a.defers) :=
          ⟨⟨_, rfl, hD1, hF1, hst.size, fun y hy hyx => by
            obtain ⟨D', h1, h2⟩ := hM.lt y hy
            rw [hyx] at h1
            simp only [Deferred.mk.injEq, Target.collected.injEq, and_true] at h1
            omega⟩, hM.step hstAB⟩
        simp only [endL] at hK
        split at hK
        · exact hK.elim
        split at hK
        · rename_i s0 pe ps' x' y' d' hrec
          have hE3 := keep_rec hsb hkE hrec
          obtain ⟨hcr3, ob, hob, hrel⟩ := sp_at hsb.sim hE3 (recAt_some hrec).2.2
          cases ob <;> simp only [SpRel] at hrel <;> first | exact hrel.elim | skip
          rename_i rec
          obtain ⟨hs0, hpe, rfl, rfl, rfl, hd3⟩ := hrel
          have hstE := setRec_step hsb.sim hE3 hrec (c' := .lp .exhausted pe rec.params rec.assign rec.body d') rfl (ob' := .loop { rec with state := .exhausted }) ⟨rfl, hpe, rfl, rfl, rfl, hd3⟩
          have hall := hst.trans (hstAB.trans (hsb.trans hstE))
          have hM4 := hM1.step (hsb.trans hstE)
          have hob' : w'.heap[w.heap.size + 1]? = some (.loop rec) := by rw [← hDsz]; exact hob
          have hw4 : (w'.putObj (w.heap.size + 1) (.loop { rec with state := .exhausted })) = (w'.putObj (w.alloc (.deferred (some []))).heap.size (.loop { rec with state := .exhausted })) := by rw [hDsz]
          have fin : ∀ (hbusy : rec.state ≠ .busy), (∀ c, c.wpIn (FW none) 0 P Q { a with defers := [{ target := .collected w.heap.size, args := #[] }] ++ a.defers } (w'.putObj (w.heap.size + 1) (.loop { rec with state := .exhausted })) → pe = some c → rangePost (FW none) 0 P (w.heap.size + 1) Q { a with defers := [{ target := .collected w.heap.size, args := #[] }] ++ a.defers } (.returned cv) w') ∧
              (Q .normal { a with defers := [{ target := .collected w.heap.size, args := #[] }] ++ a.defers } (w'.putObj (w.heap.size + 1) (.loop { rec with state := .exhausted })) → pe = none → rangePost (FW none) 0 P (w.heap.size + 1) Q { a with defers := [{ target := .collected w.heap.size, args := #[] }] ++ a.defers } (.returned cv) w') := by
            intro hbusy
            refine ⟨fun c hc hp => ?_, fun hq hp => ?_⟩
            · have hp' : rec.pending = some c := hpe.trans hp
              exact ⟨some c, _, (run_endLoop hob' hbusy).trans (by rw [hp']), hc⟩
            · have hp' : rec.pending = none := hpe.trans hp
              exact ⟨none, _, (run_endLoop hob' hbusy).trans (by rw [hp']), hq⟩
          rw [← hw4] at hall hM4
          clear hd3 hstE hrec hw4
          generalize hmm : setRec (putB ks m1.length mf (movedOf ks mf) 0 m1 ++ newsB ks m1.length mf) m.length (.lp .exhausted pe rec.params rec.assign rec.body d') = mm at hK hall
          clear hmm
          cases s0 <;> first | exact hK.elim | skip
          all_goals
            simp only at hK
            obtain ⟨f1, f2⟩ := fin (by rw [hs0]; simp)
            clear fin
            split at hK
            · exact f2 (hQ .normal _ _ _ _ _ hK (fun _ hh => by cases hh) hall hρ3 hM4) rfl
            · exact f1 _ (wpIn_ret (hQ .ret _ _ _ _ _ hK (fun _ hh => by cases hh) hall hρ3 hM4)) rfl
            · exact f1 _ (wpIn_exit (hQ (.exit _) _ _ _ _ _ hK (fun _ hh => by cases hh) hall hρ3 hM4)) rfl
            · exact hK.elim
        · exact hK.elim
  · exact h.elim
theorem cexecY_sound [Pins] (hN : Named P) (hC : CallsOk P C) {E0 : Wh} {m0 : Mem} {w0 : World} (hS0 : Sim E0 m0 w0) (n N : Nat) : ∀ c : Code, DoingY P E0 m0 w0 c (cexecY P C n N m0.length c) := by
  have base : ∀ c : Code, DoingY P E0 m0 w0 c (fun ρ m K => cexec P C noY (fun _ => none) m0.length n c ρ m fun e ρ m => match e with | .panic _ => False | e => K e ρ m) := by
    intro c ρ m K E a w Q hst hρ hM h hQ
    rw [cexec_a P C noY n m0.length m.length c] at h
    refine cexec_sound (r := none) (J := fun a' => a'.defers = a.defers) hN hC noY_ok hst.sim (LoopsOk.none _ _) n c (Keeps.defers a.defers c) ρ m _ E a w Q (Step.refl hst.sim) hρ rfl h ?_
    intro e ρ' m' E' a' w' hk hst' hρ' hd
    cases e with
    | panic p => exact hk.elim
    | normal => exact hQ .normal ρ' m' E' a' w' hk (fun _ hh => by cases hh) (hst.trans hst') hρ' (by rw [hd]; exact hM.step hst')
    | ret => exact hQ .ret ρ' m' E' a' w' hk (fun _ hh => by cases hh) (hst.trans hst') hρ' (by rw [hd]; exact hM.step hst')
    | exit id => exact hQ (.exit id) ρ' m' E' a' w' hk (fun _ hh => by cases hh) (hst.trans hst') hρ' (by rw [hd]; exact hM.step hst')
  intro c
  induction c with
  | seq x y ihx ihy =>
    intro ρ m K E a w Q hst hρ hM h hQ
    simp only [cexecY] at h
    refine wpIn_seq (ihx ρ m _ E a w _ hst hρ hM h ?_)
    intro e ρ' m' E' a' w' hk hne hst' hρ' hM'
    cases e with
    | normal => exact ihy ρ' m' K E' a' w' Q hst' hρ' hM' hk hQ
    | ret => exact hQ _ _ _ _ _ _ hk (fun _ hh => by cases hh) hst' hρ' hM'
    | panic p => exact (hne p rfl).elim
    | exit id => exact hQ _ _ _ _ _ _ hk (fun _ hh => by cases hh) hst' hρ' hM'
  | cond c x y ihx ihy =>
    intro ρ m K E a w Q hst hρ hM h hQ
    simp only [cexecY] at h
    split at h
    · rename_i t hc
      have hcr := opd_rel (a := a) hρ c
      rw [hc] at hcr
      simp only [VRel] at hcr
      refine wpIn_cond hcr ?_
      cases t with
      | true => exact ihx ρ m K E a w Q hst hρ hM h hQ
      | false => exact ihy ρ m K E a w Q hst hρ hM h hQ
    · cases h
  | block id x ih =>
    intro ρ m K E a w Q hst hρ hM h hQ
    simp only [cexecY] at h
    refine wpIn_block (ih ρ m _ E a w _ hst hρ hM h ?_)
    intro e ρ' m' E' a' w' hk hne hst' hρ' hM'
    cases e with
    | normal => exact hQ _ _ _ _ _ _ hk (fun _ hh => by cases hh) hst' hρ' hM'
    | ret => exact hQ _ _ _ _ _ _ hk (fun _ hh => by cases hh) hst' hρ' hM'
    | panic p => exact (hne p rfl).elim
    | exit j =>
      simp only [exitOf, Exit.inBlock]
      cases hb : Nat.beq j id with
      | true =>
        rw [if_pos (Nat.eq_of_beq_eq_true hb)]
        simp only [hb] at hk
        exact hQ _ _ _ _ _ _ hk (fun _ hh => by cases hh) hst' hρ' hM'
      | false =>
        rw [if_neg (Nat.ne_of_beq_eq_false hb)]
        simp only [hb] at hk
        exact hQ _ _ _ _ _ _ hk (fun _ hh => by cases hh) hst' hρ' hM'
  | scope x ih =>
    intro ρ m K E a w Q hst hρ hM h hQ
    simp only [cexecY] at h
    refine wpIn_scope_straight (ih ρ m K E a w _ hst hρ hM h ?_)
    intro e ρ' m' E' a' w' hk hne hst' hρ' hM'
    have := hQ e ρ' m' E' a' w' hk hne hst' hρ' hM'
    cases e <;> exact this
  | rangeFunc f ps x y =>
    intro ρ m K E a w Q hst hρ hM h hQ
    simp only [cexecY] at h
    exact rangeF_sound hN hC n N f ps x y ρ m K E a w Q hst hρ hM h hQ
  | _ =>
    intro ρ m K E a w Q hst hρ hM h hQ
    simp only [cexecY] at h
    exact base _ ρ m K E a w Q hst hρ hM h hQ
theorem cbodyY_sound [Pins] (hN : Named P) (hC : CallsOk P C) {n : Nat} {f : FuncId} {fn : Func} (hf : P.funcs[f]? = some fn) {args : List V} {K : V → Mem → Prop} {cargs : Array Value} (hS : Sim E m w) (hargs : VsRel E args cargs.toList) (h : cbodyY P C n fn args m K) :
    (∃ fn, P.funcs[f]? = some fn ∧ fn.body.isSome = true) ∧ Calls P f cargs w (Ret K E m w) := by
  unfold cbodyY at h
  split at h
  · cases h
  · rename_i c hc
    refine ⟨⟨fn, hf, by rw [hc]; rfl⟩, fw_calls' (r := none) (n := 0) (callsIn_of_wp_marks hf hc trivial ?_ rfl)⟩
    refine cexecY_sound hN hC hS n _ c _ m _ E { tmps := _, defers := [] } w _ (Step.refl hS) (frame_rel hargs fn.ntmps) trivial h ?_
    intro e ρ' m' E' a' w' hk hne hst hρ' hM
    have he : ∀ id, e ≠ .exit id := (kbody_done hS hk hst hρ' hne).1
    have key : LeavesInM (FW none) 0 P fn a'.tmps (Ret K E m w) a'.defers .returning w' :=
      leaves_marks hS (fun w'' hst'' => (kbody_done hS hk hst'' hρ' hne).2) a'.defers w' hM hst
    cases e with
    | panic p => exact (hne p rfl).elim
    | exit id => exact (he id rfl).elim
    | normal => exact key
    | ret => exact key
theorem cbodyY_use [Pins] (hN : Named P) {C : CC} (hC : CallsOk P C) {n : Nat} {f : FuncId} {fn : Func} (hf : P.funcs[f]? = some fn) {args : List V} {m : Mem} {l : Nat} (hl : m.length = l) {K : V → Mem → Prop} {X : Prop} (hX : cbodyY P C n fn args m K = X)
    {E : Wh} {w : World} {cargs : Array Value} (hS : Sim E m w) (hargs : VsRel E args cargs.toList) (h : X) : ((∃ fn, P.funcs[f]? = some fn ∧ fn.body.isSome = true) ∧ Calls P f cargs w (Ret K E m w)) ∨
    ∃ cv w', (callFunc f cargs).run P w = .ok (.value cv) w' ∧ Ret K E m w (.returned cv) w' := by
  subst hX; exact .inl (cbodyY_sound hN hC hf hS hargs h)
/-- Calls, with deferred ones, and with loops over functions in these functions. -/
def callY (P : Program) (S : Prims) (L : List FuncId) : Nat → CC
  | 0 => fun _ _ _ _ => False
  | n + 1 => fun f args m K =>
    match S f with
    | some g => g args m K
    | none =>
      match P.funcs[f]? with
      | some fn =>
        (match mem? f L with
         | true => cbodyY P (callY P S L n) n fn args m K
         | false => (match hasDefer fn with | true => cbodyD P (callY P S L n) (fun _ => none) n fn args m K | false => cbody P (callY P S L n) (fun _ => none) n fn args m K))
      | none => False
theorem callY_sound [Pins] (hN : Named P) {S : Prims} {L : List FuncId} (hP : PrimsOk P S) : ∀ n, CallsOk P (callY P S L n)
  | 0 => fun g args m K E w cargs hS ha h => by simp [callY] at h
  | n + 1 => fun g args m K E w cargs hS ha h => by
    simp only [callY] at h
    split at h
    · rename_i f hf
      exact hP g f hf args m K E w cargs hS ha h
    · split at h
      · rename_i fn hfn
        split at h
        · exact .inl (cbodyY_sound hN (callY_sound hN hP n) hfn hS ha h)
        · split at h
          · exact .inl (cbodyD_sound hN (callY_sound hN hP n) hfn (LoopsOk.none _ _) hS ha h)
          · exact .inl (cbody_sound hN (callY_sound hN hP n) hfn (LoopsOk.none _ _) hS ha h)
      · cases h
end
end Go.Ab
