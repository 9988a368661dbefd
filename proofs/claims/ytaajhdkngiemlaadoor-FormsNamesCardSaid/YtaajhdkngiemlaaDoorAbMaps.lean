/- Maps in the symbolic evaluator. -/
import Derived.Test.YtaajhdkngiemlaaDoorAbOps9
set_option linter.unusedVariables false
set_option linter.unusedSimpArgs false
namespace Go.Ab
open Go
section
variable {P : Program} {o : Oper} {a : Act} {E : Wh} {m : Mem} {w : World} {ρ : Env}
theorem bytes_beq (s t : ByteArray) : (s == t) = (bytesI s == bytesI t) := by
  rw [bytesI_beq, toList_data, toList_data]
  show (s.data == t.data) = _
  rw [Bool.eq_iff_iff]
  simp only [beq_iff_eq, Array.toList_inj]
theorem bytes_eq {s t : ByteArray} (h : (bytesI s == bytesI t) = true) : s = t := by
  rw [← bytes_beq] at h
  have h' : (s.data == t.data) = true := h
  exact ByteArray.ext (by simpa using h')
theorem sameV_now {d : TypeDesc} {k k' : V} {c c' : Value} (hd : keyOk d k = true) (hk : VRel E k c) (hk' : VRel E k' c') {b : Bool} (h : sameV k k' = some b) : Instr.sameNow d c c' = some b ∧ (b = true → c' = c) := by
  unfold keyOk at hd
  split at hd
  · rename_i _ kd kk n
    cases k' <;> simp only [sameV] at h <;> try cases h
    rename_i k2 n2
    split at h
    · rename_i hkk
      cases h
      simp only [VRel] at hk hk'
      obtain ⟨rfl, _⟩ := hk
      obtain ⟨rfl, _⟩ := hk'
      subst hkk
      refine ⟨by simp [Instr.sameNow], fun hb => ?_⟩
      simp at hb; rw [hb]
    · cases h
  · rename_i _ xs
    cases k' <;> simp only [sameV] at h <;> try cases h
    rename_i ys
    simp only [VRel] at hk hk'
    obtain ⟨s, rfl, rfl, _⟩ := hk
    obtain ⟨s', rfl, rfl, _⟩ := hk'
    refine ⟨by simp only [Instr.sameNow, bytes_beq], fun hb => ?_⟩
    rw [bytes_eq hb]
  · rename_i _ x
    cases k' <;> simp only [sameV] at h <;> try cases h
    simp only [VRel] at hk hk'
    subst hk; subst hk'
    refine ⟨by simp [Instr.sameNow], fun hb => ?_⟩
    simp at hb; rw [hb]
  · cases hd
theorem findV_now {d : TypeDesc} {k : V} {c : Value} (hd : keyOk d k = true) (hk : VRel E k c) : ∀ {es : List (V × V)} {ds : List MapEntry} {i : Nat} {r : Option Nat}, MRel E es ds → findV k es i = some r →
    (r = none → Instr.findNow d c ds i = some none) ∧ ∀ j, r = some j → i ≤ j ∧ ∃ e, ds[j - i]? = some e ∧ e.key = c ∧ Instr.findNow d c ds i = some (some (j, e.val))
  | [], ds, i, r, hm, h => by
    have : ds = [] := List.eq_nil_of_length_eq_zero hm.1.symm
    subst this
    simp only [findV, Option.some.injEq] at h
    subst h
    exact ⟨fun _ => rfl, fun j hj => by cases hj⟩
  | p :: es, [], i, r, hm, h => by simp [MRel] at hm
  | p :: es, e :: ds, i, r, hm, h => by
    have hm' : MRel E es ds := ⟨by simpa using hm.1, fun j q hq => hm.2 (j + 1) q hq⟩
    obtain ⟨e', he', hke, hve⟩ := hm.2 0 p rfl
    simp at he'; subst he'
    simp only [findV] at h
    split at h
    · rename_i b hb
      obtain ⟨g1, g2⟩ := sameV_now hd hk hke hb
      split at h
      · obtain rfl := Option.some.inj h
        refine ⟨fun hh => (by cases hh), fun j hj => ?_⟩
        obtain rfl := Option.some.inj hj
        exact ⟨Nat.le_refl _, e, by simp, g2 rfl, by simp [Instr.findNow, g1]⟩
      · obtain ⟨r1, r2⟩ := findV_now hd hk hm' h
        refine ⟨fun hh => by simp [Instr.findNow, g1, r1 hh], fun j hj => ?_⟩
        obtain ⟨q1, e2, q2, q3, q4⟩ := r2 j hj
        refine ⟨by omega, e2, ?_, q3, by simp [Instr.findNow, g1, q4]⟩
        have : j - i = (j - (i + 1)) + 1 := by omega
        rw [this]; simpa using q2
    · cases h
theorem checkKey_now {d : TypeDesc} {kt : TypeId} {k : V} {c : Value} (hu : P.underlying kt = some d) (hd : keyOk d k = true) (hk : VRel E k c) (b : Bool) : (Instr.checkKey b 10000 kt c).run P w = .ok () w := by
  unfold keyOk at hd
  unfold Instr.checkKey
  split at hd
  · simp only [VRel] at hk
    obtain ⟨rfl, _⟩ := hk
    simp [run_underlying hu]
  · simp only [VRel] at hk
    obtain ⟨s, rfl, _, _⟩ := hk
    simp [run_underlying hu]
  · simp only [VRel] at hk
    subst hk
    simp [run_underlying hu]
  · cases hd
theorem sameBits_now {d : TypeDesc} {k : V} {c : Value} (hd : keyOk d k = true) (hk : VRel E k c) : Instr.sameBits 10000 c c = true := by
  unfold keyOk at hd
  split at hd
  · simp only [VRel] at hk
    obtain ⟨rfl, _⟩ := hk
    simp [Instr.sameBits]
  · simp only [VRel] at hk
    obtain ⟨s, rfl, _, _⟩ := hk
    simp [Instr.sameBits, bytes_beq]
  · simp only [VRel] at hk
    subst hk
    simp [Instr.sameBits]
  · cases hd
theorem mapp_run (hS : Sim E m w) {x : V} {cx : Value} (hx : VRel E x cx) {es : List (V × V)} (h : entriesV m x = some es) :
    (cx = .map none ∧ es = []) ∨ ∃ j e ds clock, x = .mapp j ∧ E j = some e ∧ cx = .map (some e.blk) ∧ e.cr ≠ 0 ∧ w.heap[e.blk]? = some (.map ds clock) ∧ MRel E es ds.toList := by
  unfold entriesV at h
  split at h
  · simp only [VRel] at hx
    cases h
    exact .inl ⟨hx, rfl⟩
  · rename_i j
    simp only [VRel] at hx
    obtain ⟨e, hj, rfl⟩ := hx
    obtain ⟨hmj, hb⟩ := getD_blk hS hj
    obtain ⟨hcr, ds, clock, h1, h2⟩ := hb.mo es h
    exact .inr ⟨j, e, ds, clock, rfl, hj, rfl, hcr, h1, h2⟩
  · cases h
theorem of_rel' (E : Wh) (c : Value) : VRel E (V.of c) c := of_rel E c
theorem run_getObj_at {r : Nat} {es : Array MapEntry} {clock : Nat} (h : w.heap[r]? = some (.map es clock)) : (getObj r).run P w = .ok (.map es clock) w := by
  simp [getObj, Sem.run, h]
theorem run_setObj_at {r : Nat} {es : Array MapEntry} {clock : Nat} (h : w.heap[r]? = some (.map es clock)) (ob : Obj) : (setObj r ob).run P w = .ok () { w with heap := w.heap.setIfInBounds r ob } := by
  simp [setObj, Sem.run, h]
theorem lookupV_rel (hS : Sim E m w) {t : TypeId} {ok : Bool} {x k v : V} {cx ck : Value} (hx : VRel E x cx) (hk : VRel E k ck) (h : lookupV P t ok m x k = some v) :
    ∃ cv, (Instr.lookup t cx ck ok).run P w = .ok cv w ∧ VRel E v cv := by
  unfold lookupV at h
  split at h
  · rename_i kt et hu
    split at h
    · rename_i d z es hd hz hes
      have hzr : ∃ cz, (zeroValue et).run P w = .ok cz w ∧ VRel E z cz := by
        unfold zeroM at hz
        split at hz
        · rename_i i hi
          split at hz
          · rename_i cz hcz
            cases hz
            exact ⟨cz, by simp [zeroValue, typeInfo, hi, hcz], of_rel' E cz⟩
          · cases hz
        · cases hz
      obtain ⟨cz, hz1, hz2⟩ := hzr
      have key : ∀ (es' : List MapEntry), MRel E es es' → ∃ fk, (Instr.findKey kt ck es').run P w = .ok fk w ∧ (∀ b, (Instr.checkKey b 10000 kt ck).run P w = .ok () w) ∧
          ((fk = none ∧ v = gotV ok z false) ∨ ∃ i u pv, fk = some (i, u) ∧ v = gotV ok pv true ∧ VRel E pv u) := by
        intro es' hm
        split at h
        · rename_i hko hf
          have h1 := (findV_now hko hk hm hf).1 rfl
          exact ⟨none, by simp [Instr.findKey, run_underlying hd, h1], fun b => checkKey_now hd hko hk b, .inl ⟨rfl, (Option.some.inj h).symm⟩⟩
        · rename_i i hko hf
          split at h
          · rename_i p hp
            obtain ⟨_, e, h1, h2, h3⟩ := (findV_now hko hk hm hf).2 i rfl
            simp only [Nat.sub_zero] at h1
            obtain ⟨e', g1, _, g3⟩ := hm.2 i p hp
            rw [h1] at g1
            obtain rfl := Option.some.inj g1
            exact ⟨some (i, e.val), by simp [Instr.findKey, run_underlying hd, h3], fun b => checkKey_now hd hko hk b, .inr ⟨i, e.val, p.2, rfl, (Option.some.inj h).symm, g3⟩⟩
          · cases h
        · cases h
      have val : ∀ {u : Value} {pv : V} {b : Bool}, VRel E pv u → VRel E (gotV ok pv b) (if ok then Value.tuple #[u, .bool b] else u) := by
        intro u pv b hu'
        cases ok with
        | false => simpa [gotV] using hu'
        | true => simp only [gotV, if_true, VRel]; exact ⟨_, rfl, by simp [VsRel, VRel, hu']⟩
      rcases mapp_run hS hx hes with ⟨rfl, rfl⟩ | ⟨j, e, ds, clock, rfl, hj, rfl, hcr, hh1, hh2⟩
      · obtain ⟨fk, h1, h2, h3⟩ := key [] (by simp [MRel])
        rcases h3 with ⟨rfl, rfl⟩ | ⟨i, u, pv, rfl, rfl, hu'⟩
        · exact ⟨_, by simp [Instr.lookup, run_underlying hu, h1, h2, hz1], val hz2⟩
        · exact ⟨_, by simp [Instr.lookup, run_underlying hu, h1, h2], val hu'⟩
      · obtain ⟨fk, h1, h2, h3⟩ := key ds.toList hh2
        rcases h3 with ⟨rfl, rfl⟩ | ⟨i, u, pv, rfl, rfl, hu'⟩
        · exact ⟨_, by simp [Instr.lookup, run_underlying hu, run_getObj_at hh1, h1, h2, hz1], val hz2⟩
        · exact ⟨_, by simp [Instr.lookup, run_underlying hu, run_getObj_at hh1, h1, h2], val hu'⟩
    · cases h
  · cases h
theorem map_step (hS : Sim E m w) {j : Nat} {e : BE} (hj : E j = some e) {es es' : List (V × V)} {ds ds' : Array MapEntry} {clock clock' : Nat} (hro : (m.getD j default).ro = false) (hmp : (m.getD j default).mp = some es) (hcr : e.cr ≠ 0)
    (hh : w.heap[e.blk]? = some (.map ds clock)) (hm : MRel E es' ds'.toList) :
    Step E m w E (m.set j ⟨[.map es'], (m.getD j default).et, false, (m.getD j default).mv⟩) { w with heap := w.heap.setIfInBounds e.blk (.map ds' clock') } := by
  obtain ⟨hmj, hb⟩ := getD_blk hS hj
  have hc := Blk.mp_some hmp
  have hlt : e.blk < w.heap.size := (Array.getElem?_eq_some_iff.1 hh).1
  have hrows : e.rows = 0 := by rw [hb.rows, Blk.rows, hc]; rfl
  refine Step.set hS hj hmj hro hcr rfl rfl rfl (by simp) (fun i hi => by simp only [Array.getElem?_setIfInBounds]; rw [if_neg (by omega)]) ?_ rfl rfl
  refine ⟨by rw [hb.nc, hc]; rfl, by rw [hrows]; rfl, ?_, ?_, ?_, fun _ => by simpa using hlt, hb.room, hb.max, ?_⟩
  · intro c hc'
    simp only [List.mem_singleton] at hc'
    subst hc'; rw [hrows]; rfl
  · intro row fld col v hcol hv
    cases fld with
    | zero => simp at hcol; subst hcol; simp [Col.list] at hv
    | succ n => simp at hcol
  · intro _ _ hn; simp [Blk.mp] at hn
  · intro es0 h0
    simp only [Blk.mp, Option.some.injEq] at h0
    subst h0
    exact ⟨hcr, ds', clock', by simp [Array.getElem?_setIfInBounds, hlt], hm⟩
theorem insV_rel (hS : Sim E m w) {t : TypeId} {x k v : V} {cx ck cv : Value} (hx : VRel E x cx) (hk : VRel E k ck) (hv : VRel E v cv) {m' : Mem} (h : insV P t m x k v = some m') :
    ∃ w', (Instr.mapUpdate t cx ck cv).run P w = .ok () w' ∧ Step E m w E m' w' := by
  unfold insV at h
  split at h
  · rename_i kt et j hu
    split at h
    · rename_i d es hd hro hmp
      simp only [VRel] at hx
      obtain ⟨e, hj, rfl⟩ := hx
      obtain ⟨hmj, hb⟩ := getD_blk hS hj
      obtain ⟨hcr, ds, clock, hh, hm⟩ := hb.mo es hmp
      split at h
      · rename_i hko hf
        have h1 := (findV_now hko hk hm hf).1 rfl
        have h2 : (Instr.findKey kt ck ds.toList).run P w = .ok none w := by simp [Instr.findKey, run_underlying hd, h1]
        cases h
        refine ⟨_, by simp [Instr.mapUpdate, run_underlying hu, run_getObj_at hh, checkKey_now hd hko hk, h2, run_setObj_at hh]; rfl, map_step hS hj hro hmp hcr hh ?_⟩
        refine ⟨by simp [hm.1], fun i p hp => ?_⟩
        by_cases hi : i < es.length
        · rw [List.getElem?_append_left hi] at hp
          obtain ⟨q, g1, g2⟩ := hm.2 i p hp
          refine ⟨q, ?_, g2⟩
          rw [Array.toList_push, List.getElem?_append_left (by rw [← hm.1]; exact hi)]; exact g1
        · rw [List.getElem?_append_right (by omega)] at hp
          have hi0 : i - es.length = 0 := by
            have := (List.getElem?_eq_some_iff.1 hp).1
            simp at this; omega
          rw [hi0] at hp
          simp at hp; subst hp
          refine ⟨{ key := ck, val := cv, born := clock }, ?_, hk, hv⟩
          have : i = ds.toList.length := by rw [← hm.1]; omega
          rw [Array.toList_push, this, List.getElem?_append_right (Nat.le_refl _)]; simp
      · rename_i i hko hf
        obtain ⟨_, q, h1, h2, h3⟩ := (findV_now hko hk hm hf).2 i rfl
        simp only [Nat.sub_zero] at h1
        have h4 : (Instr.findKey kt ck ds.toList).run P w = .ok (some (i, q.val)) w := by simp [Instr.findKey, run_underlying hd, h3]
        have h5 : ds[i]? = some q := by simpa using h1
        have h6 : (Instr.keyThatStays ((((ds[i]?).map (·.key)).getD ck)) ck).run P w = .ok ck w := by
          rw [h5]; simp [Instr.keyThatStays, h2, sameBits_now hko hk]
        cases h
        refine ⟨_, by simp [Instr.mapUpdate, run_underlying hu, run_getObj_at hh, checkKey_now hd hko hk, h4, h6, run_setObj_at hh]; rfl, map_step hS hj hro hmp hcr hh ?_⟩
        refine ⟨by simp [hm.1], fun n p hp => ?_⟩
        rw [List.getElem?_set] at hp
        rw [Array.toList_modify, List.getElem?_modify]
        by_cases hn : i = n
        · subst hn
          rw [if_pos rfl] at hp
          split at hp
          · cases hp
            exact ⟨{ key := ck, val := cv, born := q.born }, by rw [h1]; simp, hk, hv⟩
          · cases hp
        · rw [if_neg hn] at hp
          obtain ⟨q', g1, g2⟩ := hm.2 n p hp
          refine ⟨q', ?_, g2⟩
          rw [g1]; simp [hn]
      · cases h
    · cases h
  · cases h
theorem goes_makeMap (hS : Sim E m w) {t : TypeId} (ho : o.op = .makeMap t none) : GoesN P o a E m w (.mapp m.length) ⟨[.map []], t, false, true⟩ := by
  refine ⟨⟨w.heap.size, 0, 1, 1, 0⟩, .map (some w.heap.size), w.alloc (.map #[] 0), by simp [execOp, ho, Instr.makeMap], ⟨rfl, rfl, rfl, by simp, fun j hj => heap_alloc_old w _ j hj, ?_, fun _ => Nat.le_refl _⟩, ?_⟩
  · refine ⟨rfl, rfl, ?_, ?_, by intro _ _ hn; simp [Blk.mp] at hn, by simp, by simp, by simp [maxLen], ?_⟩
    · intro c hc; simp at hc; subst hc; rfl
    · intro row fld col v hcol hv
      cases fld with
      | zero => simp at hcol; subst hcol; simp [Col.list] at hv
      | succ n => simp at hcol
    · intro es0 h0
      simp only [Blk.mp, Option.some.injEq] at h0
      subst h0
      exact ⟨by simp, #[], 0, heap_alloc_new w _, by simp [MRel]⟩
  · simp only [VRel]
    exact ⟨_, upd_same _ _ _, rfl⟩
theorem xmap_sound (hS : Sim E m w) (hρ : ERel E ρ a.tmps.toList) {v : V} {m' : Mem} (h : xmap P o.op (o.op.operands.toList.map (opd ρ)) m = some (true, v, m')) : Goes P o a E m w v ρ m' := by
  unfold xmap at h
  split at h
  · rename_i t ho _
    simp only [Option.some.injEq, Prod.mk.injEq, true_and] at h
    obtain ⟨rfl, rfl⟩ := h
    exact (goes_makeMap hS ho).goes hS hρ
  · rename_i t x k ok vx vk ho hvs
    split at h
    · rename_i v' hv
      simp only [Option.some.injEq, Prod.mk.injEq, true_and] at h
      obtain ⟨rfl, rfl⟩ := h
      simp only [ho, Op.operands, List.map_cons, List.map_nil, List.cons.injEq, and_true] at hvs
      obtain ⟨rfl, rfl⟩ := hvs
      obtain ⟨cv, h1, h2⟩ := lookupV_rel hS (opd_rel (a := a) hρ x) (opd_rel (a := a) hρ k) hv
      exact goes_pure hS hρ (by simp only [execOp, ho, Sem.run_bind, h1, Result.andThen_ok, Sem.run_pure]) h2
    · cases h
  · rename_i t x k y vx vk vy ho hvs
    split at h
    · rename_i m1 hv
      simp only [Option.some.injEq, Prod.mk.injEq, true_and] at h
      obtain ⟨rfl, rfl⟩ := h
      simp only [ho, Op.operands, List.map_cons, List.map_nil, List.cons.injEq, and_true] at hvs
      obtain ⟨rfl, rfl, rfl⟩ := hvs
      obtain ⟨w', h1, h2⟩ := insV_rel hS (opd_rel (a := a) hρ x) (opd_rel (a := a) hρ k) (opd_rel (a := a) hρ y) hv
      exact ⟨E, undef, w', .inr ⟨by simp [execOp, ho, h1], rfl⟩, h2, by simp [VRel], hρ⟩
    · cases h
  · rename_i t x k y vx vk vy ho hvs
    split at h
    · rename_i m1 hv
      simp only [Option.some.injEq, Prod.mk.injEq, true_and] at h
      obtain ⟨rfl, rfl⟩ := h
      simp only [ho, Op.operands, List.map_cons, List.map_nil, List.cons.injEq, and_true] at hvs
      obtain ⟨rfl, rfl, rfl⟩ := hvs
      obtain ⟨w', h1, h2⟩ := insV_rel hS (opd_rel (a := a) hρ x) (opd_rel (a := a) hρ k) (opd_rel (a := a) hρ y) hv
      exact ⟨E, undef, w', .inr ⟨by simp [execOp, ho, h1], rfl⟩, h2, by simp [VRel], hρ⟩
    · cases h
  · cases h
end
end Go.Ab
