/- A call that reads one slice of numbers through a window: what it does there with a list of its own. -/
import Derived.Test.YtgdmellcbgalaaaGreatAbDefer
set_option linter.unusedVariables false
set_option linter.unusedSimpArgs false
namespace Go.Ab
open Go
section
variable {P : Program}
theorem VRel.free {E E' : Wh} {v : V} {c : Value} (h : VRel E v c) (hv : V.refs v = []) : VRel E' v c := by
  have := VRel.ren (E := E) (E' := E') (π := fun k => some k) (v := v) (c := c) (fun k hk => by rw [hv] at hk; cases hk) h
  rwa [V.ren_id] at this
theorem VsRel.free {E E' : Wh} {v : List V} {c : List Value} (h : VsRel E v c) (hv : V.refsL v = []) : VsRel E' v c := by
  have := VsRel.ren (E := E) (E' := E') (π := fun k => some k) (vs := v) (cs := c) (fun k hk => by rw [hv] at hk; cases hk) h
  rwa [V.renL_id] at this
def winL (xs : List Int) (row : Nat) (len : Option Nat) : List Int := match len with | some n => (xs.drop row).take n | none => xs.drop row
/-- One block, at place 0. -/
def only (e : BE) : Wh := fun k => if k = 0 then some e else none
/-- What a slice of whole numbers shows, as a block of its own that nobody writes. -/
def winB (kd : IntKind) (ys : List Int) (et : TypeId) : Blk := ⟨[.ints kd ys], et, true, false⟩
theorem focus_in {E : Wh} {m : Mem} {w : World} (hS : Sim E m w) {k row : Nat} {len cap : Option Nat} {kd : IntKind} {xs : List Int} {et : TypeId} {ro mv : Bool} {c : Value}
    (hm : m[k]? = some ⟨[.ints kd xs], et, ro, mv⟩) (hv : VRel E (.sl k row len cap) c) :
    ∃ e', Sim (only e') [winB kd (winL xs row len) et] w ∧ VRel (only e') (.sl 0 0 none none) c := by
  simp only [VRel] at hv
  obtain ⟨e, a, q, hE, rfl, h1, h2, h3, h4⟩ := hv
  obtain ⟨b, hb, hR⟩ := hS.blk k e hE
  rw [hm] at hb
  obtain rfl := Option.some.inj hb
  have hnc : e.nc = 1 := hR.nc
  have hrows : e.rows = xs.length := hR.rows
  have hroom := hR.room
  have hmax := hR.max
  have hq : row + q ≤ e.cr := by
    cases cap with
    | none => simp only [CapOk] at h3; omega
    | some c0 => simp only [CapOk] at h3; omega
  have hys : (winL xs row len).length = slN e row len := by
    cases len with
    | none => simp [slN, winL, hrows]
    | some n => simp only [slN] at h1 ⊢; simp [winL]; omega
  have hget : ∀ i, i < slN e row len → (winL xs row len)[i]? = xs[row + i]? := by
    intro i hi
    cases len with
    | none => simp [winL]
    | some n => simp only [slN] at hi; simp [winL, List.getElem?_take, hi]
  generalize hy : (winL xs row len) = ys at hys hget
  refine ⟨⟨e.blk, e.off + row, q, 1, slN e row len⟩, ⟨?_, ?_⟩, ?_⟩
  · intro k' e' he'
    simp only [only] at he'
    split at he'
    · rename_i hk; subst hk
      obtain rfl := Option.some.inj he'
      refine ⟨_, rfl, ⟨rfl, ?_, ?_, ?_, ?_, ?_, ?_, ?_, ?_⟩⟩
      · show slN e row len = ys.length; omega
      · intro c hc; simp only [winB, List.mem_singleton] at hc; subst hc; simp only [Col.len]; exact hys
      · intro r fld col v hc hv
        have hf : fld = 0 := by have := (List.getElem?_eq_some_iff.1 hc).1; simp [winB] at this; omega
        subst hf
        simp only [winB, List.getElem?_cons_zero, Option.some.injEq] at hc
        subst hc
        have hr : r < slN e row len := by have := (List.getElem?_eq_some_iff.1 hv).1; simp [Col.list] at this; omega
        have hv' : (Col.ints kd xs).list[row + r]? = some v := by
          simp only [Col.list, List.getElem?_map] at hv ⊢
          rw [← hget r hr]; exact hv
        obtain ⟨c, g1, g2, g3⟩ := hR.cells (row + r) 0 (.ints kd xs) v rfl hv'
        refine ⟨c, ?_, g2, ?_⟩
        · rw [← g1]; simp only [hnc]; congr 2; omega
        · refine g3.free ?_
          simp only [Col.list, List.getElem?_map] at hv
          cases hx : ys[r]? with
          | none => simp [hx] at hv
          | some x => simp [hx] at hv; subst hv; rfl
      · intro h; cases h
      · intro h; exact hR.lt (by simp only at h; omega)
      · simp only; omega
      · simp only; omega
      · intro c hc; cases hc
    · cases he'
  · intro k1 e1 b1 k2 e2 he hb hr
    simp only [only] at he
    split at he
    · rename_i hk; subst hk; simp [winB] at hb; subst hb; cases hr
    · cases he
  · simp only [VRel]
    refine ⟨⟨e.blk, e.off + row, q, 1, slN e row len⟩, a, q, by simp [only], ?_, ?_, ?_, ?_, ?_⟩
    · simp [slN]
    · simp [slN]
    · simp only [slN, Nat.sub_zero]; simpa only [slN] using h2
    · simp [CapOk]
    · intro h; rw [h4 h, hnc]; simp
theorem focus_out {E : Wh} {m : Mem} {w : World} (hS : Sim E m w) {e' : BE} {b : Blk} (hb : b.ro = true) {K : V → Mem → Prop} {c : Value} {w' : World}
    (h : Ret (fun v _ => V.refs v = [] ∧ K v m) (only e') [b] w (.returned c) w') : Ret K E m w (.returned c) w' := by
  obtain ⟨v, m2, E2, ⟨hf, hK⟩, hst, hv⟩ := h
  have hno : ∀ j, ¬ Owned (only e') [b] j := by
    rintro j ⟨k, e, b', he, hb', hro, _, _⟩
    simp only [only] at he
    split at he
    · rename_i hk; subst hk; simp at hb'; subst hb'; rw [hb] at hro; cases hro
    · cases he
  have hold : ∀ j, j < w.heap.size → w'.heap[j]? = w.heap[j]? := fun j hj => hst.old j hj (hno j)
  refine ⟨v, m, E, hK, ⟨⟨?_, hS.apart⟩, hst.os, hst.tape, hst.output, hst.size, fun j hj _ => hold j hj, fun j h _ => h, Nat.le_refl _, fun k e he hc _ => ⟨k, e, he, hc, rfl⟩, ?_, fun _ _ h0 => h0⟩, hv.free hf⟩
  · intro k e he
    obtain ⟨b0, h1, h2⟩ := hS.blk k e he
    exact ⟨b0, h1, h2.kept (fun _ _ h => h) (fun hc => hold _ (h2.lt hc)) hst.size⟩
  · intro k e he
    obtain ⟨b0, h1, _⟩ := hS.blk k e he
    exact ⟨e, b0, b0, h1, h1, he, id, id, fun _ => rfl⟩
/-- A call known on a window is known wherever the window is. -/
theorem focus_call {g : FuncId} {E : Wh} {m : Mem} {w : World} {cargs : Array Value} (hS : Sim E m w) {pre post : List V} {k row : Nat} {len cap : Option Nat} {kd : IntKind} {xs : List Int} {et : TypeId} {ro mv : Bool}
    (ha : VsRel E (pre ++ .sl k row len cap :: post) cargs.toList) (hpre : V.refsL pre = []) (hpost : V.refsL post = []) (hm : m[k]? = some ⟨[.ints kd xs], et, ro, mv⟩) {K : V → Mem → Prop}
    (h : ∀ E', Sim E' [winB kd (winL xs row len) et] w → VsRel E' (pre ++ .sl 0 0 none none :: post) cargs.toList →
      ((∃ fn, P.funcs[g]? = some fn ∧ fn.body.isSome = true) ∧ Calls P g cargs w (Ret (fun v _ => V.refs v = [] ∧ K v m) E' [winB kd (winL xs row len) et] w)) ∨
      ∃ cv w', (callFunc g cargs).run P w = .ok (.value cv) w' ∧ Ret (fun v _ => V.refs v = [] ∧ K v m) E' [winB kd (winL xs row len) et] w (.returned cv) w') :
    ((∃ fn, P.funcs[g]? = some fn ∧ fn.body.isSome = true) ∧ Calls P g cargs w (Ret K E m w)) ∨ ∃ cv w', (callFunc g cargs).run P w = .ok (.value cv) w' ∧ Ret K E m w (.returned cv) w' := by
  obtain ⟨c0, hc0, hv⟩ := ha.look pre.length (.sl k row len cap) (by simp)
  obtain ⟨e', hS', hv'⟩ := focus_in hS hm hv
  have ha' : VsRel (only e') (pre ++ .sl 0 0 none none :: post) cargs.toList := by
    refine VsRel.of (by have := ha.length; simp at this ⊢; exact this) fun j v hj => ?_
    by_cases hlt : j < pre.length
    · rw [List.getElem?_append_left hlt] at hj
      obtain ⟨c, g1, g2⟩ := ha.look j v (by rw [List.getElem?_append_left hlt]; exact hj)
      exact ⟨c, g1, g2.free (by
        have hmem : v ∈ pre := List.mem_of_getElem? hj
        exact refs_of_mem hpre hmem)⟩
    · rw [List.getElem?_append_right (by omega)] at hj
      by_cases heq : j = pre.length
      · subst heq
        simp at hj; subst hj
        exact ⟨c0, hc0, hv'⟩
      · obtain ⟨i, hi⟩ : ∃ i, j - pre.length = i + 1 := ⟨j - pre.length - 1, by omega⟩
        rw [hi] at hj
        simp at hj
        obtain ⟨c, g1, g2⟩ := ha.look j v (by rw [List.getElem?_append_right (by omega), hi]; simpa using hj)
        exact ⟨c, g1, g2.free (refs_of_mem hpost (List.mem_of_getElem? hj))⟩
  rcases h (only e') hS' ha' with ⟨hb, hc⟩ | ⟨cv, w', h1, h2⟩
  · refine .inl ⟨hb, hc.mono fun en w' hr => ?_⟩
    cases en with
    | returned c => exact focus_out hS rfl hr
    | _ => exact hr.elim
  · exact .inr ⟨cv, w', h1, focus_out hS rfl h2⟩
where
  refs_of_mem {v : V} : ∀ {l : List V}, V.refsL l = [] → v ∈ l → V.refs v = []
    | [], _, h => by cases h
    | x :: l, h, hm => by
      simp only [V.refsL, List.append_eq_nil_iff] at h
      rcases List.mem_cons.1 hm with rfl | hm
      · exact h.1
      · exact refs_of_mem h.2 hm
end
end Go.Ab
