/- A law's call: what the evaluator says of a law gives what a row asks. -/
import Derived.Test.YtjciabbnncidjaaGreatAbBody
import Derived.RowKit3
import Derived.ReadAgain
import Derived.ChangeOld
import Derived.ChangeSlices
import Derived.OpenShut
import Derived.ChangeSame
import Derived.WalkKit
set_option linter.unusedVariables false
namespace Go.Ab
open Go in
instance (priority := low) noPins : Pins := ⟨fun _ => False, fun _ _ => False, fun i => (i : Int), fun i j h => Int.ofNat_lt.2 h⟩
open Go

/-- What a law must come to: true, and nothing that was there has changed. -/
def Held (W : World) : Ending → World → Prop := fun e w' => e = .returned (.bool true) ∧ (W.keptBut w' (fun _ => False) ∧ W.heap.size ≤ w'.heap.size) ∧ ∀ j, j < W.heap.size → w'.heap[j]? = W.heap[j]?
theorem Ret.held [Pins] {E : Wh} {m : Mem} {W : World} (hro : ∀ b ∈ m, b.ro = true) {e : Ending} {w' : World} (h : Ret (fun v _ => v = .B true) E m W e w') : Held W e w' := by
  cases e with
  | panicked c =>
    obtain ⟨p, _, _, _, _, hp, _⟩ := h
    cases hp
  | outgrown => exact h.elim
  | returned c =>
    obtain ⟨v, m', E', rfl, hst, hv⟩ := h
    simp only [VRel] at hv
    have hold : ∀ j, j < W.heap.size → w'.heap[j]? = W.heap[j]? := fun j hj => hst.old j hj fun ⟨k, e, b, h1, h2, h3, _⟩ => by
      rw [hro b (List.mem_of_getElem? h2)] at h3
      cases h3
    refine ⟨by rw [hv], ⟨⟨hst.os, hst.output, fun i hi => ?_⟩, hst.size⟩, hold⟩
    rw [hold i hi]
    cases W.heap[i]? with
    | none => rfl
    | some o =>
      cases o with
      | cells c t fr => exact ⟨rfl, rfl, rfl, fun _ _ => rfl⟩
      | map es cl => exact .inr ⟨rfl, rfl⟩
      | _ => rfl
section
variable {H : Type} {enc : TypeId × Value → H} {P : Program} {W W' : World}
/-- What was read reads the same where nothing that was there has changed. -/
theorem trodAll_grown [Pins] (hold : ∀ j, j < W.heap.size → W'.heap[j]? = W.heap[j]?) {base : Nat} {sp : Nat → Bool} {held : Bool} : ∀ {ts : List TypeId} {vs : List Value} {ds : List (DataW H)} {ps : List MemPlace},
    DataW.TrodAll enc P W base sp held ts vs ds ps → (∀ p ∈ ps, p.block < W.heap.size) → DataW.TrodAll enc P W' base sp held ts vs ds ps
  | [], [], [], _, h, _ => h
  | _ :: _, _ :: _, _ :: _, _, ⟨p, q, ⟨n, hn⟩, hs, e⟩, hl => by
    refine ⟨p, q, ⟨n, DataW.trod_carry n _ _ _ hn fun x hx => ?_⟩, trodAll_grown hold hs fun x hx => hl x (by rw [e]; exact List.mem_append_right _ hx), e⟩
    have hb := hold _ (hl x (by rw [e]; exact List.mem_append_left _ hx))
    cases x with
    | cell b off => exact World.cell?_of_block (w := W) hb
    | map b => exact hb
/-- A slice of whole numbers that was handed in: its block, which is not written. -/
theorem open_nums [Pins] {t e : TypeId} {k : IntKind} {fuel : Nat} {base : Nat} {held : Bool} {v : Value} {x : DataW H × List MemPlace} (ht : P.underlying t = some (.slice e)) (he : P.underlying e = some (.int k)) (hc : P.cellsOf e = 1)
    (hok : Value.okWide P W .any base t v) (h : DataW.trod enc P W 0 (fun _ => true) held fuel t v.cells.toList = some x) :
    ∃ (xs : List Int) (be : BE), (∀ E j, E j = some be → VRel E (.sl j 0 none none) v) ∧ (∀ E et, BlkRel E W ⟨[.ints k xs], et, true, false⟩ be) ∧
      ((x.1 = .nil ∧ xs = []) ∨ ∃ elems spare, x.1 = .slice elems spare ∧ elems.length = xs.length) ∧ (∀ n ∈ xs, inR k n = true) := by
  have hv1 : v.cells.toList = [v] := by
    unfold Value.okWide Cell.okWide Cell.ok at hok
    simp only [ht] at hok
    cases v <;> first | rfl | exact hok.elim
  rw [hv1] at h
  rcases ChangeShapes.open_ints ht he hc h with ⟨hv, rfl⟩ | ⟨a, len, cap, zs, hv, _, hl, hm, hzl, rfl, hcell, hwf⟩
  · obtain rfl := List.cons.inj hv |>.1
    refine ⟨[], ⟨0, 0, 0, 1, 0⟩, fun E j hj => ?_, fun E et => ?_, .inl ⟨rfl, rfl⟩, by simp⟩
    · simp only [VRel]
      exact ⟨_, none, 0, hj, rfl, Nat.le_refl _, Nat.le_refl _, rfl, by simp⟩
    · refine ⟨rfl, rfl, ?_, ?_, by simp, by simp, by simp, by simp, fun es hes => by simp [Blk.sp, Col.plain] at hes⟩
      · intro c hc
        simp only [List.mem_singleton] at hc
        subst hc; rfl
      · intro row fld col v hcol hrow
        cases fld with
        | zero => simp at hcol; subst hcol; simp [Col.list] at hrow
        | succ n => simp at hcol
  · obtain rfl := List.cons.inj hv |>.1
    simp only [if_true] at hzl
    have hhas : W.has P .any base a e cap := by
      unfold Value.okWide Cell.okWide Cell.ok at hok
      simp only [ht] at hok
      exact hok.2.2
    obtain ⟨_, hspot, row, cells, hsh, _⟩ := hhas
    have hadd : ∀ i, a.add i = ⟨a.block, a.off + i, none⟩ := fun i => by
      obtain ⟨b, o, s⟩ := a
      simp only at hspot
      subst hspot
      cases i <;> simp [Addr.add]
    have hlt : a.block < W.heap.size := by
      unfold World.shape? at hsh
      rcases Nat.lt_or_ge a.block W.heap.size with h | h
      · exact h
      · rw [Array.getElem?_eq_none h] at hsh; cases hsh
    have hxl : (zs.take len).length = len := by simp; omega
    refine ⟨zs.take len, ⟨a.block, a.off, cap, 1, len⟩, fun E j hj => ?_, fun E et => ?_, .inr ⟨_, _, rfl, by simp [ChangeShapes.lits]⟩, fun n hn => ?_⟩
    · simp only [VRel]
      refine ⟨_, some a, cap, hj, rfl, by simp [slN], by simpa [slN] using hl, by simp [CapOk], fun _ => ?_⟩
      obtain ⟨b, o, s⟩ := a
      simp only at hspot
      subst hspot
      simp
    · refine ⟨rfl, hxl.symm, ?_, ?_, by simp, fun _ => hlt, hl, hm, fun es hes => by simp [Blk.sp, Col.plain] at hes⟩
      · intro c hc
        simp only [List.mem_singleton] at hc
        subst hc; exact hxl
      · intro row fld col v hcol hrow
        cases fld with
        | zero =>
          simp at hcol
          subst hcol
          simp only [Col.list, List.getElem?_map, Option.map_eq_some_iff] at hrow
          obtain ⟨n, hn, rfl⟩ := hrow
          have hr : row < len := by
            have := (List.getElem?_eq_some_iff.1 hn).1
            omega
          have hz : zs[row]? = some n := by rw [List.getElem?_take, if_pos hr] at hn; exact hn
          have hc := hcell row (by omega)
          rw [hadd, List.getD_eq_getElem?_getD, hz] at hc
          refine ⟨_, by simpa using hc, rfl, ?_⟩
          have := hwf n (List.mem_of_getElem? hz)
          show VRel E (.I k n) (.int k n)
          simp only [VRel]
          exact ⟨trivial, by simpa [inR, Lit.wf] using this⟩
        | succ n => simp at hcol
    · have := hwf n (List.mem_of_mem_take hn)
      simpa [inR, Lit.wf] using this
/-- The blocks of what was handed in. -/
theorem sim_ro [Pins] {m : Mem} (bes : List BE) (h : ∀ (k : Nat) (e : BE), bes[k]? = some e → ∃ b : Blk, m[k]? = some b ∧ b.ro = true ∧ ∀ E : Wh, BlkRel E W b e) 
    (ht : ∀ j, Pins.pin j → TabOk W j := by intro j h; exact False.elim h) : Sim (fun k => bes[k]?) m W := by
  refine ⟨fun k e he => ?_, fun k e b k' e' he hb hro _ _ _ _ => ?_, fun j hp => ⟨ht j hp, fun ⟨k, e, b, he, hb, hro, _⟩ => by
    obtain ⟨b', hb', hro', _⟩ := h k e he
    rw [hb] at hb'
    cases hb'
    rw [hro] at hro'
    cases hro'⟩⟩
  · obtain ⟨b, hb, _, hr⟩ := h k e he
    exact ⟨b, hb, hr _⟩
  · obtain ⟨b', hb', hro', _⟩ := h k e he
    rw [hb] at hb'
    cases hb'
    rw [hro] at hro'
    cases hro'
/-- A struct of whole numbers that was handed in. -/
theorem open_numstruct [Pins] {t : TypeId} {fs : Array Field} {base : Nat} {v : Value} {ts : List TypeId} (ht : P.underlying t = some (.struct fs)) (hts : P.cellTypes P.depth t = some ts) (hn : P.cellsOf t = ts.length) (hk : ∀ u ∈ ts, P.underlying u = some (.int .i64))
    (hok : Value.okWide P W .any base t v) : ∃ ns : List Int, v = .agg (ns.map (Value.int .i64)).toArray ∧ ns.length = ts.length ∧ ∀ n ∈ ns, inR .i64 n = true := by
  unfold Value.okWide at hok
  simp only [ht] at hok
  obtain ⟨cs, rfl, hsz, ts', hts', _, hcell⟩ := hok
  rw [hts] at hts'
  cases hts'
  have each : ∀ v ∈ cs.toList, ∃ n, v = .int .i64 n ∧ inR .i64 n = true := by
    intro v hv
    obtain ⟨i, hi⟩ := List.getElem?_of_mem hv
    obtain ⟨u, hu, hc⟩ := hcell i v (by simpa using hi)
    have hu' := hk u (List.mem_of_getElem? hu)
    unfold Cell.okWide Cell.ok at hc
    simp only [hu'] at hc
    cases v with
    | int k n => exact ⟨n, by rw [hc.1], by simpa [inR, IntKind.has] using hc.2⟩
    | _ => exact hc.elim
  have : ∀ l : List Value, (∀ v ∈ l, ∃ n, v = .int .i64 n ∧ inR .i64 n = true) → ∃ ns : List Int, l = ns.map (Value.int .i64) ∧ ∀ n ∈ ns, inR .i64 n = true := by
    intro l
    induction l with
    | nil => intro _; exact ⟨[], rfl, by simp⟩
    | cons a l ih =>
      intro h
      obtain ⟨n, rfl, hn⟩ := h a (by simp)
      obtain ⟨ns, rfl, hns⟩ := ih fun v hv => h v (by simp [hv])
      exact ⟨n :: ns, rfl, by simpa [hn] using hns⟩
  obtain ⟨ns, hns, hr⟩ := this cs.toList each
  refine ⟨ns, ?_, ?_, hr⟩
  · congr 1
    apply Array.ext'
    simpa using hns
  · have := congrArg List.length hns
    simp only [List.length_map, Array.length_toList] at this
    omega
/-- A struct of plain cells that was handed in. -/
theorem open_cells [Pins] {t : TypeId} {fs : Array Field} {base : Nat} {v : Value} {ts : List TypeId} (ht : P.underlying t = some (.struct fs)) (hts : P.cellTypes P.depth t = some ts) (hn : P.cellsOf t = ts.length)
    (hok : Value.okWide P W .any base t v) : ∃ cs : List Value, v = .agg cs.toArray ∧ cs.length = ts.length ∧ ∀ (i : Nat) (u : TypeId) (c : Value), ts[i]? = some u → cs[i]? = some c → Cell.okWide P W .any base u c := by
  unfold Value.okWide at hok
  simp only [ht] at hok
  obtain ⟨cs, rfl, hsz, ts', hts', _, hcell⟩ := hok
  rw [hts] at hts'
  cases hts'
  refine ⟨cs.toList, by simp, by simp only [Array.length_toList]; omega, fun i u c hu hc => ?_⟩
  obtain ⟨u', hu', hc'⟩ := hcell i c (by simpa using hc)
  rw [Nat.mod_eq_of_lt (List.getElem?_eq_some_iff.1 hu).1, hu] at hu'
  cases hu'
  exact hc'
theorem cell_int [Pins] {u : TypeId} {base : Nat} {k : IntKind} {c : Value} (hu : P.underlying u = some (.int k)) (h : Cell.okWide P W .any base u c) : ∃ n, c = .int k n ∧ inR k n = true := by
  unfold Cell.okWide Cell.ok at h
  simp only [hu] at h
  cases c with
  | int k' n =>
    obtain ⟨h1, h2⟩ := h
    subst h1
    exact ⟨n, rfl, by simpa [inR, IntKind.has] using h2⟩
  | _ => exact h.elim
theorem cell_bool [Pins] {u : TypeId} {base : Nat} {c : Value} (hu : P.underlying u = some .bool) (h : Cell.okWide P W .any base u c) : ∃ b, c = .bool b := by
  unfold Cell.okWide Cell.ok at h
  simp only [hu] at h
  cases c with
  | bool b => exact ⟨b, rfl⟩
  | _ => exact h.elim
theorem cell_str [Pins] {u : TypeId} {base : Nat} {c : Value} (hu : P.underlying u = some .string) (h : Cell.okWide P W .any base u c) : ∃ s : ByteArray, c = .string s ∧ s.size ≤ 9223372036854775807 := by
  unfold Cell.okWide Cell.ok at h
  simp only [hu] at h
  cases c with
  | string s =>
    have h2 : ((s.size : Nat) : Int) ≤ IntKind.i64.max := h
    have h3 : ((s.size : Nat) : Int) ≤ 9223372036854775807 := h2
    exact ⟨s, rfl, by omega⟩
  | _ => exact h.elim
open Go.ChangeShapes Go.RowKit in
/-- The end of a law: nothing that was there has changed. -/
theorem post_of_held [Pins] {f : Func} {s : ChangeSpec} {apart fresh handsOn again : Bool} {args : Array Value} {v : Value} {ds gs : List (DataW H)} {before pa pv : List MemPlace}
    (hW : DataW.Whole enc P f.params.toList s.vars apart W args.toList ds gs before)
    (hres : ∀ (b : Nat) (sp : Nat → Bool) (hd : Bool), DataW.TrodAll enc P W' b sp hd f.resultTypes.toList (v.resultList f.resultTypes.size) (s.fn H (ds ++ gs)).results [])
    (hargs : ∀ sp : Nat → Bool, (∀ p ∈ before, sp p.block = true) → DataW.TrodAll enc P W' 0 sp true f.params.toList args.toList (s.fn H (ds ++ gs)).args pa)
    (hvars : ∀ sp : Nat → Bool, (∀ p ∈ before, sp p.block = true) → DataW.TrodVars enc P W' sp s.vars (s.fn H (ds ++ gs)).vars pv)
    (hps : before = pa ++ pv) (hk : W.keptBut W' (· ∈ before)) (hold' : ∀ j, j < W.heap.size → W'.heap[j]? = W.heap[j]?)
    (hok : ∀ (j : Nat) (t : TypeId) (r : Value), f.resultTypes[j]? = some t → (v.resultList f.resultTypes.size)[j]? = some r → Value.okWide P W' .any 0 t r) :
    s.post enc P f apart fresh handsOn again W args v W' := by
  have hold : ∀ p ∈ before, (fun b => decide (b < W.heap.size)) p.block = true := fun p hp => by simpa using hW.lt p hp
  have hlt : ∀ p ∈ before, p.block < W.heap.size := fun p hp => hW.lt p hp
  refine ⟨ds, gs, before, [], pa, pv, hW, hres _ _ _, hargs _ hold, hvars _ hold, World.keptBut_mono (fun p hp => ⟨hp, ?_⟩) hk, fun _ => ?_⟩
  · rw [hps, List.mem_append] at hp
    exact Or.inr hp
  · obtain ⟨_, _, _, _, _, hz, hn⟩ := hW
    refine ⟨hok, _, _, ([] ++ pa) ++ pv, ⟨[] ++ pa, pv, trodAll_append (hargs _ (fun _ _ => rfl)) (hres _ _ _), hvars _ (fun _ _ => rfl), rfl, ?_, ?_⟩, ?_⟩
    · intro b off hp
      have hp' : MemPlace.cell b off ∈ before := by rw [hps]; simpa using hp
      rw [World.frozen?_of_block (w := W) (hold' b (hlt _ hp'))]
      exact hz b off hp'
    · intro ha
      have := hn ha
      rw [hps] at this
      simpa using this
    · intro p hp _
      rw [hps]
      simpa using hp
/-- What the evaluator says of a function with a body is a call. -/
theorem calls_of [Pins] (hN : Named P) {g : FuncId} (hb : (P.funcs[g]?).map (fun fn => fn.body.isSome) = some true) {cargs : Array Value} {R : Ending → World → Prop} {w : World}
    (h : ((∃ fn, P.funcs[g]? = some fn ∧ fn.body.isSome = true) ∧ Calls P g cargs w R) ∨ ∃ cv w', (callFunc g cargs).run P w = .ok (.value cv) w' ∧ R (.returned cv) w') : Calls P g cargs w R := by
  rcases h with ⟨_, h⟩ | ⟨cv, w', hr, _⟩
  · exact h
  · obtain ⟨fn, hfn, hbd⟩ := Option.map_eq_some_iff.1 hb
    have hnm := hN g fn hfn
    have hb : fn.body.isNone = false := by cases hfb : fn.body <;> simp_all
    simp only [callFunc, Sem.run_bind, Sem.run_pure, Result.andThen_ok, run_program, hfn, hnm, hb, Bool.false_eq_true, if_false] at hr
    cases hr
end
end Go.Ab
