/- Maps in the symbolic evaluator. -/
import Derived.Test.YtjciabbnncidjaaGreatAbOps9
set_option linter.unusedVariables false
set_option linter.unusedSimpArgs false
namespace Go.Ab
open Go
section
variable {P : Program} {o : Oper} {a : Act} {E : Wh} {m : Mem} {w : World} {ρ : Env}
theorem bytes_beq [Pins] (s t : ByteArray) : (s == t) = (bytesI s == bytesI t) := by
  rw [bytesI_beq, toList_data, toList_data]
  show (s.data == t.data) = _
  rw [Bool.eq_iff_iff]
  simp only [beq_iff_eq, Array.toList_inj]
theorem bytes_eq [Pins] {s t : ByteArray} (h : (bytesI s == bytesI t) = true) : s = t := by
  rw [← bytes_beq] at h
  have h' : (s.data == t.data) = true := h
  exact ByteArray.ext (by simpa using h')
theorem sameV_now [Pins] {d : TypeDesc} {k k' : V} {c c' : Value} (hd : keyOk d k = true) (hk : VRel E k c) (hk' : VRel E k' c') {b : Bool} (h : sameV k k' = some b) : Instr.sameNow d c c' = some b ∧ (b = true → c' = c) := by
  have num : ∀ {kk : IntKind} {x y : Int} {kd : IntKind}, Instr.sameNow (.int kd) (.int kk x) (.int kk y) = some (x == y) ∧ ((x == y) = true → (Value.int kk y) = .int kk x) := by
    intro kk x y kd
    refine ⟨by simp [Instr.sameNow], fun hb => ?_⟩
    simp at hb; rw [hb]
  unfold keyOk at hd
  split at hd
  · rename_i _ kd kk n
    cases k' <;> simp only [sameV] at h <;> try cases h
    · rename_i k2 n2
      split at h
      · rename_i hkk
        cases h
        simp only [VRel] at hk hk'
        obtain ⟨rfl, _⟩ := hk
        obtain ⟨rfl, _⟩ := hk'
        subst hkk
        exact num
      · cases h
    · obtain ⟨k3, a, b3, rfl, rfl, rfl⟩ := eqN_rel h hk hk'
      exact num
  · simp only [sameV] at h
    obtain ⟨k3, a, b3, rfl, rfl, rfl⟩ := eqN_rel h hk hk'
    exact num
  · rename_i _ xs
    cases k' <;> simp only [sameV] at h <;> try cases h
    rename_i ys
    simp only [VRel] at hk hk'
    obtain ⟨s, rfl, rfl, _⟩ := hk
    obtain ⟨s', rfl, rfl, _⟩ := hk'
    refine ⟨by simp only [Instr.sameNow, bytes_beq], fun hb => ?_⟩
    rw [bytes_eq hb]
  · rename_i _ x
    cases k' <;> simp only [sameV] at h <;> try cases h
    simp only [VRel] at hk hk'
    subst hk; subst hk'
    refine ⟨by simp [Instr.sameNow], fun hb => ?_⟩
    simp at hb; rw [hb]
  · cases hd
/-- Entries, one by one, without their stamps. -/
def ERel2 [Pins] (E : Wh) (es : List (V × V)) (ds : List MapEntry) : Prop :=
  es.length = ds.length ∧ ∀ (i : Nat) (p : V × V), es[i]? = some p → ∃ d, ds[i]? = some d ∧ VRel E p.1 d.key ∧ VRel E p.2 d.val
theorem MRel.two [Pins] {E : Wh} {es : List (V × V)} {ds : List MapEntry} (h : MRel E es ds) : ERel2 E es ds :=
  ⟨h.1, fun i p hp => (h.2 i p hp).imp fun _ hd => ⟨hd.1, hd.2.1, hd.2.2.1⟩⟩
theorem findV_now [Pins] {d : TypeDesc} {k : V} {c : Value} (hd : keyOk d k = true) (hk : VRel E k c) : ∀ {es : List (V × V)} {ds : List MapEntry} {i : Nat} {r : Option Nat}, ERel2 E es ds → findV k es i = some r →
    (r = none → Instr.findNow d c ds i = some none) ∧ ∀ j, r = some j → i ≤ j ∧ ∃ e, ds[j - i]? = some e ∧ e.key = c ∧ Instr.findNow d c ds i = some (some (j, e.val))
  | [], ds, i, r, hm, h => by
    have : ds = [] := List.eq_nil_of_length_eq_zero hm.1.symm
    subst this
    simp only [findV, Option.some.injEq] at h
    subst h
    exact ⟨fun _ => rfl, fun j hj => by cases hj⟩
  | p :: es, [], i, r, hm, h => by simp [ERel2] at hm
  | p :: es, e :: ds, i, r, hm, h => by
    have hm' : ERel2 E es ds := ⟨by simpa using hm.1, fun j q hq => hm.2 (j + 1) q hq⟩
    obtain ⟨e', he', hke, hve⟩ := hm.2 0 p rfl
    simp at he'; subst he'
    simp only [findV] at h
    split at h
    · rename_i b hb
      obtain ⟨g1, g2⟩ := sameV_now hd hk hke hb
      split at h
      · obtain rfl := Option.some.inj h
        refine ⟨fun hh => (by cases hh), fun j hj => ?_⟩
        obtain rfl := Option.some.inj hj
        exact ⟨Nat.le_refl _, e, by simp, g2 rfl, by simp [Instr.findNow, g1]⟩
      · obtain ⟨r1, r2⟩ := findV_now hd hk hm' h
        refine ⟨fun hh => by simp [Instr.findNow, g1, r1 hh], fun j hj => ?_⟩
        obtain ⟨q1, e2, q2, q3, q4⟩ := r2 j hj
        refine ⟨by omega, e2, ?_, q3, by simp [Instr.findNow, g1, q4]⟩
        have : j - i = (j - (i + 1)) + 1 := by omega
        rw [this]; simpa using q2
    · cases h
/-- Asked one by one. -/
theorem findE_ask [Pins] {kt : TypeId} {eq : V → V → Option Bool} {k : V} {c : Value} (heq : ∀ (k' : V) (c' : Value) (b : Bool), eq k k' = some b → VRel E k' c' → (Op.equal kt c c').run P w = .ok b w) :
    ∀ {es : List (V × V)} {ds : List MapEntry} {i : Nat} {r : Option Nat}, ERel2 E es ds → findE eq k es i = some r →
    (r = none → (Instr.findAsking kt c ds i).run P w = .ok none w) ∧ ∀ j, r = some j → i ≤ j ∧ ∃ e, ds[j - i]? = some e ∧ (Instr.findAsking kt c ds i).run P w = .ok (some (j, e.val)) w
  | [], ds, i, r, hm, h => by
    have : ds = [] := List.eq_nil_of_length_eq_zero hm.1.symm
    subst this
    simp only [findE, Option.some.injEq] at h
    subst h
    exact ⟨fun _ => by simp [Instr.findAsking], fun j hj => by cases hj⟩
  | p :: es, [], i, r, hm, h => by simp [ERel2] at hm
  | p :: es, e :: ds, i, r, hm, h => by
    have hm' : ERel2 E es ds := ⟨by simpa using hm.1, fun j q hq => hm.2 (j + 1) q hq⟩
    obtain ⟨e', he', hke, hve⟩ := hm.2 0 p rfl
    simp at he'; subst he'
    simp only [findE] at h
    split at h
    · rename_i b hb
      have g1 := heq _ _ _ hb hke
      split at h
      · obtain rfl := Option.some.inj h
        refine ⟨fun hh => (by cases hh), fun j hj => ?_⟩
        obtain rfl := Option.some.inj hj
        exact ⟨Nat.le_refl _, e, by simp, by simp [Instr.findAsking, g1]⟩
      · obtain ⟨r1, r2⟩ := findE_ask heq hm' h
        refine ⟨fun hh => by simp [Instr.findAsking, g1, r1 hh], fun j hj => ?_⟩
        obtain ⟨q1, e2, q2, q4⟩ := r2 j hj
        refine ⟨by omega, e2, ?_, by simp [Instr.findAsking, g1, q4]⟩
        have : j - i = (j - (i + 1)) + 1 := by omega
        rw [this]; simpa using q2
    · cases h
theorem findE_now [Pins] {fs : Array Field} {c : Value} : ∀ {ds : List MapEntry} {i : Nat}, ds ≠ [] → Instr.findNow (.struct fs) c ds i = none
  | [], _, h => absurd rfl h
  | e :: ds, i, _ => by cases c <;> simp [Instr.findNow, Instr.sameNow]
theorem checkKey_now [Pins] {d : TypeDesc} {kt : TypeId} {k : V} {c : Value} (hu : P.underlying kt = some d) (hd : keyOk d k = true) (hk : VRel E k c) (b : Bool) : (Instr.checkKey b 10000 kt c).run P w = .ok () w := by
  unfold keyOk at hd
  unfold Instr.checkKey
  split at hd
  · simp only [VRel] at hk
    obtain ⟨rfl, _⟩ := hk
    simp [run_underlying hu]
  · simp only [VRel] at hk
    obtain ⟨rfl, _⟩ := hk
    simp [run_underlying hu]
  · simp only [VRel] at hk
    obtain ⟨s, rfl, _, _⟩ := hk
    simp [run_underlying hu]
  · simp only [VRel] at hk
    subst hk
    simp [run_underlying hu]
  · cases hd
theorem flatF_check [Pins] {vs : List V} {cs : Array Value} (hv : VsRel E vs cs.toList) (h1 : ∀ u ∈ cs.toList, u.oneCell' = true) (b : Bool) (n : Nat) : ∀ {fs : List Field}, flatF P vs fs = true → ∀ f ∈ fs, ∃ c, (part f.type cs f.offset).run P w = .ok c w ∧ (Instr.checkKey b (n + 1) f.type c).run P w = .ok () w
  | [], _, f, hf => by simp at hf
  | f0 :: fs, h, f, hf => by
    simp only [flatF, Bool.and_eq_true] at h
    rw [List.mem_cons] at hf
    rcases hf with rfl | hf
    · have h0 := h.1
      split at h0
      · rename_i kd kk nn hu hp
        obtain ⟨c, g1, g2⟩ := part_rel (w := w) hv h1 hp
        simp only [VRel] at g2
        obtain ⟨rfl, _⟩ := g2
        exact ⟨_, g1, by simp [Instr.checkKey, run_underlying hu]⟩
      · rename_i ss hu hp
        obtain ⟨c, g1, g2⟩ := part_rel (w := w) hv h1 hp
        simp only [VRel] at g2
        obtain ⟨s, rfl, _⟩ := g2
        exact ⟨_, g1, by simp [Instr.checkKey, run_underlying hu]⟩
      · rename_i bb hu hp
        obtain ⟨c, g1, g2⟩ := part_rel (w := w) hv h1 hp
        simp only [VRel] at g2
        subst g2
        exact ⟨_, g1, by simp [Instr.checkKey, run_underlying hu]⟩
      · cases h0
    · exact flatF_check hv h1 b n h.2 f hf
theorem forU_run [Pins] {α : Type} {g : α → PUnit → Sem (ForInStep PUnit)} : ∀ {l : List α}, (∀ x ∈ l, (g x PUnit.unit).run P w = .ok (.yield PUnit.unit) w) → (forIn l PUnit.unit g : Sem PUnit).run P w = .ok PUnit.unit w
  | [], _ => by simp
  | x :: l, h => by
    simp only [List.forIn_cons, Sem.run_bind, h x (by simp), Result.andThen_ok]
    exact forU_run fun y hy => h y (by simp [hy])
theorem sameBits_now [Pins] {d : TypeDesc} {k : V} {c : Value} (hd : keyOk d k = true) (hk : VRel E k c) : Instr.sameBits 10000 c c = true := by
  unfold keyOk at hd
  split at hd
  · simp only [VRel] at hk
    obtain ⟨rfl, _⟩ := hk
    simp [Instr.sameBits]
  · simp only [VRel] at hk
    obtain ⟨rfl, _⟩ := hk
    simp [Instr.sameBits]
  · simp only [VRel] at hk
    obtain ⟨s, rfl, _, _⟩ := hk
    simp [Instr.sameBits, bytes_beq]
  · simp only [VRel] at hk
    subst hk
    simp [Instr.sameBits]
  · cases hd
theorem plain_uniq [Pins] : ∀ {vs : List V} {cs cs' : List Value}, plainL vs = true → VsRel E vs cs → VsRel E vs cs' → cs = cs' ∧ ∀ u ∈ cs, ∀ n, Instr.sameBits n u u = true
  | [], cs, cs', _, h, h' => by simp only [VsRel] at h h'; subst h; subst h'; simp
  | v :: vs, cs, cs', hp, h, h' => by
    simp only [VsRel] at h h'
    obtain ⟨c, l, rfl, h1, h2⟩ := h
    obtain ⟨c', l', rfl, h1', h2'⟩ := h'
    have key : plainL vs = true ∧ c = c' ∧ ∀ n, Instr.sameBits n c c = true := by
      cases v <;> simp only [plainL] at hp <;> first | (cases hp; done) | skip
      · simp only [VRel] at h1 h1'; subst h1; subst h1'
        exact ⟨hp, rfl, fun n => by cases n <;> simp [Instr.sameBits]⟩
      · simp only [VRel] at h1 h1'
        obtain ⟨rfl, _⟩ := h1
        obtain ⟨rfl, _⟩ := h1'
        exact ⟨hp, rfl, fun n => by cases n <;> simp [Instr.sameBits]⟩
      · simp only [VRel] at h1 h1'
        obtain ⟨s, rfl, hs, _⟩ := h1
        obtain ⟨s', rfl, hs', _⟩ := h1'
        have : s' = s := bytes_eq (by rw [hs, hs']; simp)
        subst this
        exact ⟨hp, rfl, fun n => by cases n <;> simp [Instr.sameBits, bytes_beq]⟩
    obtain ⟨g1, rfl, g3⟩ := key
    obtain ⟨rfl, g4⟩ := plain_uniq g1 h2 h2'
    refine ⟨rfl, fun u hu => ?_⟩
    rw [List.mem_cons] at hu
    rcases hu with rfl | hu
    · exact g3
    · exact g4 u hu
theorem V.sameL_eq' [Pins] : ∀ {vs ws : List V}, plainL vs = true → V.sameL vs ws = true → vs = ws
  | [], [], _, _ => rfl
  | [], _ :: _, _, h => by simp [V.sameL] at h
  | _ :: _, [], _, h => by simp [V.sameL] at h
  | v :: vs, w :: ws, hp, h => by
    simp only [V.sameL, Bool.and_eq_true] at h
    have key : plainL vs = true ∧ v = w := by
      cases v <;> simp only [plainL] at hp <;> first | (cases hp; done) | skip
      · refine ⟨hp, ?_⟩
        have := h.1
        cases w <;> simp only [V.same] at this <;> first | (cases this; done) | skip
        simp at this; rw [this]
      · refine ⟨hp, ?_⟩
        have := h.1
        cases w <;> simp only [V.same] at this <;> first | (cases this; done) | skip
        split at this <;> simp_all
      · refine ⟨hp, ?_⟩
        have := h.1
        cases w <;> simp only [V.same] at this <;> first | (cases this; done) | skip
        simp at this; rw [this]
    rw [key.2, V.sameL_eq' key.1 h.2]
/-- A key, as the machine looks for it. -/
theorem keyP_run [Pins] {d : TypeDesc} {kt : TypeId} {k : V} {ck : Value} {es : List (V × V)} {ds : List MapEntry} {r : Option Nat} (hd : P.underlying kt = some d) (hko : keyOkP P d k = true) (hk : VRel E k ck) (hm : ERel2 E es ds) (hf : findP P kt k es = some r) :
    (∀ b, (Instr.checkKey b 10000 kt ck).run P w = .ok () w) ∧ (r = none → (Instr.findKey kt ck ds).run P w = .ok none w) ∧
    ∀ j, r = some j → ∃ e, ds[j]? = some e ∧ (Instr.findKey kt ck ds).run P w = .ok (some (j, e.val)) w ∧ (∀ p, es[j]? = some p → stayOk k p.1 = true → (Instr.keyThatStays e.key ck).run P w = .ok ck w) := by
  have hbasic : keyOk d k = true → findV k es 0 = some r → _ := fun hko hf => by
    obtain ⟨h1, h2⟩ := findV_now hko hk hm hf
    refine (show (∀ b, (Instr.checkKey b 10000 kt ck).run P w = .ok () w) ∧ (r = none → (Instr.findKey kt ck ds).run P w = .ok none w) ∧
      ∀ j, r = some j → ∃ e, ds[j]? = some e ∧ (Instr.findKey kt ck ds).run P w = .ok (some (j, e.val)) w ∧ (∀ p, es[j]? = some p → stayOk k p.1 = true → (Instr.keyThatStays e.key ck).run P w = .ok ck w) from
      ⟨fun b => checkKey_now hd hko hk b, fun hr => by simp [Instr.findKey, run_underlying hd, h1 hr], fun j hj => ?_⟩)
    obtain ⟨_, e, g1, g2, g3⟩ := h2 j hj
    simp only [Nat.sub_zero] at g1
    exact ⟨e, g1, by simp [Instr.findKey, run_underlying hd, g3], fun _ _ _ => by simp [Instr.keyThatStays, g2, sameBits_now hko hk]⟩
  cases k with
  | agg vs =>
    cases d with
    | struct fs =>
      simp only [keyOkP] at hko
      simp only [findP] at hf
      simp only [VRel] at hk
      obtain ⟨cs, rfl, hv, hone⟩ := hk
      have hchk : ∀ b, (Instr.checkKey b 10000 kt (.agg cs)).run P w = .ok () w := by
        intro b
        unfold Instr.checkKey
        simp only [Sem.run_bind, run_underlying hd, Result.andThen_ok]
        rw [← Array.forIn_toList]
        rw [forU_run fun f hfm => ?_]
        · rfl
        · obtain ⟨c, g1, g2⟩ := flatF_check (w := w) hv hone b 9998 hko f hfm
          by_cases hn : f.name = "_"
          · simp [hn]
          · simp [hn, g1, g2]
      have hvk : VRel E (.agg vs) (.agg cs) := by simp only [VRel]; exact ⟨cs, rfl, hv, hone⟩
      obtain ⟨h1, h2⟩ := findE_ask (P := P) (w := w) (E := E) (kt := kt) (c := .agg cs) (fun k' c' b hb hc' => eqT_rel (w := w) 12 9988 hb hvk hc') hm hf
      have hfind : ∀ x, (Instr.findAsking kt (.agg cs) ds 0).run P w = .ok x w → (Instr.findKey kt (.agg cs) ds).run P w = .ok x w := by
        intro x hx
        cases ds with
        | nil => simp [Instr.findAsking] at hx; subst hx; simp [Instr.findKey, run_underlying hd, Instr.findNow]
        | cons e ds => simp only [Instr.findKey, Sem.run_bind, run_underlying hd, Result.andThen_ok, findE_now (by simp : e :: ds ≠ [])]; exact hx
      refine ⟨hchk, fun hr => hfind _ (h1 hr), fun j hj => ?_⟩
      obtain ⟨_, e, g1, g2⟩ := h2 j hj
      simp only [Nat.sub_zero] at g1
      refine ⟨e, g1, hfind _ g2, fun p hp hst => ?_⟩
      simp only [stayOk] at hst
      split at hst
      · rename_i ws hws
        simp only [Bool.and_eq_true] at hst
        obtain ⟨e', q1, q2, _⟩ := hm.2 j p hp
        rw [g1] at q1
        obtain rfl := Option.some.inj q1
        rw [hws, ← V.sameL_eq' hst.1 hst.2] at q2
        simp only [VRel] at q2
        obtain ⟨cs', q3, q4, _⟩ := q2
        obtain ⟨q5, q6⟩ := plain_uniq hst.1 hv q4
        have : cs' = cs := by have := congrArg List.toArray q5; simpa using this.symm
        subst this
        rw [q3]
        have hb : Instr.sameBits 10000 (.agg cs') (.agg cs') = true := by
          unfold Instr.sameBits
          simp only [beq_self_eq_true, Bool.true_and, List.all_eq_true]
          rintro ⟨u, u'⟩ hu
          have : u = u' := by
            have := List.of_mem_zip hu
            obtain ⟨n, hn⟩ := List.mem_iff_getElem?.1 hu
            simp only [List.getElem?_zip_eq_some] at hn
            have := hn.1.symm.trans hn.2
            simpa using this
          subst this
          exact q6 u (List.of_mem_zip hu).1 _
        simp [Instr.keyThatStays, hb]
      · cases hst
    | _ => simp [keyOkP, keyOk] at hko
  | _ =>
    first
    | exact hbasic (by cases d <;> simpa [keyOkP] using hko) hf
theorem mapp_run [Pins] (hS : Sim E m w) {x : V} {cx : Value} (hx : VRel E x cx) {es : List (V × V)} (h : entriesV m x = some es) :
    (cx = .map none ∧ es = []) ∨ ∃ j e ds clock, x = .mapp j ∧ E j = some e ∧ cx = .map (some e.blk) ∧ e.cr ≠ 0 ∧ w.heap[e.blk]? = some (.map ds clock) ∧ MRel E es ds.toList ∧ clock = es.length := by
  unfold entriesV at h
  split at h
  · simp only [VRel] at hx
    cases h
    exact .inl ⟨hx, rfl⟩
  · rename_i j
    simp only [VRel] at hx
    obtain ⟨e, hj, rfl⟩ := hx
    obtain ⟨hmj, hb⟩ := getD_blk hS hj
    obtain ⟨hcr, ob, h1, h2⟩ := hb.mo _ (Blk.sp_mp h)
    cases ob <;> simp only [SpRel] at h2 <;> first | exact h2.elim | skip
    rename_i ds clock
    exact .inr ⟨j, e, ds, clock, rfl, hj, rfl, hcr, h1, h2.1, h2.2⟩
  · cases h
/-- A map that is told, in the machine. -/
theorem map_at [Pins] (hS : Sim E m w) {j : Nat} {e : BE} (hj : E j = some e) {es : List (V × V)} (h : (m.getD j default).mp = some es) :
    e.cr ≠ 0 ∧ ∃ ds clock, w.heap[e.blk]? = some (.map ds clock) ∧ MRel E es ds.toList ∧ clock = es.length := by
  obtain ⟨hmj, hb⟩ := getD_blk hS hj
  obtain ⟨hcr, ob, h1, h2⟩ := hb.mo _ (Blk.sp_mp h)
  cases ob <;> simp only [SpRel] at h2 <;> first | exact h2.elim | skip
  rename_i ds clock
  exact ⟨hcr, ds, clock, h1, h2.1, h2.2⟩
theorem of_rel' [Pins] (E : Wh) (c : Value) : VRel E (V.of c) c := of_rel E c
theorem run_getObj_at [Pins] {r : Nat} {es : Array MapEntry} {clock : Nat} (h : w.heap[r]? = some (.map es clock)) : (getObj r).run P w = .ok (.map es clock) w := by
  simp [getObj, Sem.run, h]
theorem run_setObj_at [Pins] {r : Nat} {es : Array MapEntry} {clock : Nat} (h : w.heap[r]? = some (.map es clock)) (ob : Obj) : (setObj r ob).run P w = .ok () { w with heap := w.heap.setIfInBounds r ob } := by
  simp [setObj, Sem.run, h]
theorem zeroM_rel [Pins] {et : TypeId} {z : V} (hz : zeroM P et = some z) : ∃ cz, (zeroValue et).run P w = .ok cz w ∧ VRel E z cz := by
  unfold zeroM at hz
  split at hz
  · rename_i i hi
    split at hz
    · rename_i cz hcz
      cases hz
      exact ⟨cz, by simp [zeroValue, typeInfo, hi, hcz], of_rel' E cz⟩
    · cases hz
  · cases hz
theorem lookupV_rel [Pins] (hS : Sim E m w) {t : TypeId} {ok : Bool} {x k v : V} {cx ck : Value} (hx : VRel E x cx) (hk : VRel E k ck) (h : lookupV P t ok m x k = some v) :
    ∃ cv, (Instr.lookup t cx ck ok).run P w = .ok cv w ∧ VRel E v cv := by
  unfold lookupV at h
  split at h
  · rename_i kt et hu
    split at h
    · rename_i d z es hd hz hes
      obtain ⟨cz, hz1, hz2⟩ := zeroM_rel (E := E) (w := w) hz
      have key : ∀ (es' : List MapEntry), ERel2 E es es' → ∃ fk, (Instr.findKey kt ck es').run P w = .ok fk w ∧ (∀ b, (Instr.checkKey b 10000 kt ck).run P w = .ok () w) ∧
          ((fk = none ∧ v = gotV ok z false) ∨ ∃ i u pv, fk = some (i, u) ∧ v = gotV ok pv true ∧ VRel E pv u) := by
        intro es' hm
        split at h
        · rename_i hko hf
          obtain ⟨h1, h2, _⟩ := keyP_run (w := w) hd hko hk hm hf
          exact ⟨none, h2 rfl, h1, .inl ⟨rfl, (Option.some.inj h).symm⟩⟩
        · rename_i i hko hf
          split at h
          · rename_i p hp
            obtain ⟨h1, _, h2⟩ := keyP_run (w := w) hd hko hk hm hf
            obtain ⟨e, g1, g2, _⟩ := h2 i rfl
            obtain ⟨e', q1, _, q3⟩ := hm.2 i p hp
            rw [g1] at q1
            obtain rfl := Option.some.inj q1
            exact ⟨some (i, e.val), g2, h1, .inr ⟨i, e.val, p.2, rfl, (Option.some.inj h).symm, q3⟩⟩
          · cases h
        · cases h
      have val : ∀ {u : Value} {pv : V} {b : Bool}, VRel E pv u → VRel E (gotV ok pv b) (if ok then Value.tuple #[u, .bool b] else u) := by
        intro u pv b hu'
        cases ok with
        | false => simpa [gotV] using hu'
        | true => simp only [gotV, if_true, VRel]; exact ⟨_, rfl, by simp [VsRel, VRel, hu']⟩
      rcases mapp_run hS hx hes with ⟨rfl, rfl⟩ | ⟨j, e, ds, clock, rfl, hj, rfl, hcr, hh1, hh2, _⟩
      · obtain ⟨fk, h1, h2, h3⟩ := key [] (by simp [ERel2])
        rcases h3 with ⟨rfl, rfl⟩ | ⟨i, u, pv, rfl, rfl, hu'⟩
        · exact ⟨_, by simp [Instr.lookup, run_underlying hu, h1, h2, hz1], val hz2⟩
        · exact ⟨_, by simp [Instr.lookup, run_underlying hu, h1, h2], val hu'⟩
      · obtain ⟨fk, h1, h2, h3⟩ := key ds.toList hh2.two
        rcases h3 with ⟨rfl, rfl⟩ | ⟨i, u, pv, rfl, rfl, hu'⟩
        · exact ⟨_, by simp [Instr.lookup, run_underlying hu, run_getObj_at hh1, h1, h2, hz1], val hz2⟩
        · exact ⟨_, by simp [Instr.lookup, run_underlying hu, run_getObj_at hh1, h1, h2], val hu'⟩
    · cases h
  · cases h
/-- A map or an iterator of our own becomes another. -/
theorem sp_step [Pins] (hS : Sim E m w) {j : Nat} {e : BE} (hj : E j = some e) {c c' : Col} (hro : (m.getD j default).ro = false) (hsp : (m.getD j default).sp = some c) (hp' : c'.plain = false) {ob' : Obj} (hcr : e.cr ≠ 0) (hrel : SpRel E c' ob') :
    Step E m w E (m.set j ⟨[c'], (m.getD j default).et, false, (m.getD j default).mv⟩) { w with heap := w.heap.setIfInBounds e.blk ob' } := by
  obtain ⟨hmj, hb⟩ := getD_blk hS hj
  obtain ⟨hc, hp⟩ := Blk.sp_some hsp
  have hlt := hb.lt hcr
  have hlen : ∀ c : Col, c.plain = false → c.len = 0 := fun c hc => by cases c <;> simp [Col.plain] at hc <;> rfl
  have hrows : e.rows = 0 := by rw [hb.rows, Blk.rows, hc]; exact hlen _ hp
  refine Step.set hS hj hmj hro hcr rfl rfl rfl (by simp) (fun i hi => by simp only [Array.getElem?_setIfInBounds]; rw [if_neg (by omega)]) ?_ rfl rfl
  refine ⟨by rw [hb.nc, hc]; rfl, by rw [hrows]; exact (hlen _ hp').symm, ?_, ?_, ?_, fun _ => by simpa using hlt, hb.room, hb.max, ?_⟩
  · intro c0 hc'
    simp only [List.mem_singleton] at hc'
    subst hc'; rw [hrows]; exact hlen _ hp'
  · intro row fld col v hcol hv
    cases fld with
    | zero =>
      simp at hcol; subst hcol
      have : c'.list = [] := List.eq_nil_of_length_eq_zero (by rw [Col.list_len]; exact hlen _ hp')
      rw [this] at hv; simp at hv
    | succ n => simp at hcol
  · intro _ _ hn; rw [Blk.sp_of rfl hp'] at hn; cases hn
  · intro c0 h0
    rw [Blk.sp_of rfl hp'] at h0
    obtain rfl := Option.some.inj h0
    exact ⟨hcr, ob', by simp [Array.getElem?_setIfInBounds, hlt], hrel⟩
theorem MRel.push [Pins] {es : List (V × V)} {ds : Array MapEntry} {clock : Nat} {k v : V} {ck cv : Value} (hm : MRel E es ds.toList) (hc : clock = es.length) (hk : VRel E k ck) (hv : VRel E v cv) :
    MRel E (es ++ [(k, v)]) (ds.push { key := ck, val := cv, born := clock }).toList := by
  refine ⟨by simp [hm.1], fun i p hp => ?_⟩
  by_cases hi : i < es.length
  · rw [List.getElem?_append_left hi] at hp
    obtain ⟨q, g1, g2⟩ := hm.2 i p hp
    refine ⟨q, ?_, g2⟩
    rw [Array.toList_push, List.getElem?_append_left (by rw [← hm.1]; exact hi)]; exact g1
  · rw [List.getElem?_append_right (by omega)] at hp
    have hi0 : i - es.length = 0 := by
      have := (List.getElem?_eq_some_iff.1 hp).1
      simp at this; omega
    rw [hi0] at hp
    simp at hp; subst hp
    have hie : i = es.length := by omega
    refine ⟨{ key := ck, val := cv, born := clock }, ?_, hk, hv, by rw [hc, hie]⟩
    have : i = ds.toList.length := by rw [← hm.1]; omega
    rw [Array.toList_push, this, List.getElem?_append_right (Nat.le_refl _)]; simp
theorem MRel.setAt [Pins] {es : List (V × V)} {ds : Array MapEntry} {i : Nat} {q : MapEntry} {k v : V} {f : MapEntry → MapEntry} (hm : MRel E es ds.toList) (hq : ds.toList[i]? = some q) (hb : (f q).born = q.born) (hk : VRel E k (f q).key) (hv : VRel E v (f q).val) :
    MRel E (es.set i (k, v)) (ds.modify i f).toList := by
  refine ⟨by simp [hm.1], fun n p hp => ?_⟩
  rw [List.getElem?_set] at hp
  rw [Array.toList_modify, List.getElem?_modify]
  by_cases hn : i = n
  · subst hn
    rw [if_pos rfl] at hp
    split at hp
    · rename_i hlt
      cases hp
      obtain ⟨q', g1, _, _, g4⟩ := hm.2 i es[i] (List.getElem?_eq_getElem hlt)
      rw [hq] at g1
      obtain rfl := Option.some.inj g1
      exact ⟨f q, by rw [hq]; simp, hk, hv, by rw [hb, g4]⟩
    · cases hp
  · rw [if_neg hn] at hp
    obtain ⟨q', g1, g2⟩ := hm.2 n p hp
    refine ⟨q', ?_, g2⟩
    rw [g1]; simp [hn]
theorem insV_rel [Pins] (hS : Sim E m w) {t : TypeId} {x k v : V} {cx ck cv : Value} (hx : VRel E x cx) (hk : VRel E k ck) (hv : VRel E v cv) {m' : Mem} (h : insV P t m x k v = some m') :
    ∃ w', (Instr.mapUpdate t cx ck cv).run P w = .ok () w' ∧ Step E m w E m' w' := by
  unfold insV at h
  split at h
  · rename_i kt et j hu
    split at h
    · rename_i d es hd hro hmp
      simp only [VRel] at hx
      obtain ⟨e, hj, rfl⟩ := hx
      obtain ⟨hcr, ds, clock, hh, hm, hcl⟩ := map_at hS hj hmp
      split at h
      · rename_i hko hf
        obtain ⟨h1, h2, _⟩ := keyP_run (w := w) hd hko hk hm.two hf
        cases h
        exact ⟨{ w with heap := w.heap.setIfInBounds e.blk (.map (ds.push { key := ck, val := cv, born := clock }) (clock + 1)) }, by simp [Instr.mapUpdate, run_underlying hu, run_getObj_at hh, h1, h2 rfl, run_setObj_at hh], sp_step hS hj hro (Blk.sp_mp hmp) rfl hcr (ob' := .map (ds.push { key := ck, val := cv, born := clock }) (clock + 1)) ⟨hm.push hcl hk hv, by simp [hcl]⟩⟩
      · rename_i i hko hf
        split at h
        · rename_i p hp
          split at h
          · rename_i hst
            obtain ⟨h1, _, h2⟩ := keyP_run (w := w) hd hko hk hm.two hf
            obtain ⟨q, g1, g2, g3⟩ := h2 i rfl
            have h5 : ds[i]? = some q := by simpa using g1
            have h6 : (Instr.keyThatStays ((((ds[i]?).map (·.key)).getD ck)) ck).run P w = .ok ck w := by
              rw [h5]; exact g3 p hp hst
            cases h
            exact ⟨{ w with heap := w.heap.setIfInBounds e.blk (.map (ds.modify i fun e => { e with key := ck, val := cv }) clock) }, by simp [Instr.mapUpdate, run_underlying hu, run_getObj_at hh, h1, g2, h6, run_setObj_at hh], sp_step hS hj hro (Blk.sp_mp hmp) rfl hcr (ob' := .map (ds.modify i fun e => { e with key := ck, val := cv }) clock) ⟨hm.setAt (f := fun e => { e with key := ck, val := cv }) g1 rfl hk hv, by simp [hcl]⟩⟩
          · cases h
        · cases h
      · cases h
    · cases h
  · cases h
theorem entV_rel [Pins] (hS : Sim E m w) {t : TypeId} {x k v : V} {cx ck : Value} (hx : VRel E x cx) (hk : VRel E k ck) {m' : Mem} (h : entV P t m x k = some (true, v, m')) :
    ∃ cv w', (Instr.mapEntry t cx ck).run P w = .ok cv w' ∧ Step E m w E m' w' ∧ VRel E v cv := by
  unfold entV at h
  split at h
  · rename_i kt et j hu
    split at h
    · rename_i d z es hd hz hro hmp
      simp only [VRel] at hx
      obtain ⟨e, hj, rfl⟩ := hx
      obtain ⟨hcr, ds, clock, hh, hm, hcl⟩ := map_at hS hj hmp
      obtain ⟨cz, hz1, hz2⟩ := zeroM_rel (E := E) (w := w) hz
      split at h
      · rename_i hko hf
        obtain ⟨h1, h2, _⟩ := keyP_run (w := w) hd hko hk hm.two hf
        simp only [Option.some.injEq, Prod.mk.injEq] at h
        obtain ⟨hle, rfl, rfl⟩ := h
        have hle' := Nat.le_of_ble_eq_true hle
        refine ⟨.tuple #[cz, goInt clock], { w with heap := w.heap.setIfInBounds e.blk (.map (ds.push { key := ck, val := cz, born := clock }) (clock + 1)) }, by simp [Instr.mapEntry, run_underlying hu, run_getObj_at hh, h1, h2 rfl, hz1, run_setObj_at hh], sp_step hS hj hro (Blk.sp_mp hmp) rfl hcr (ob' := .map (ds.push { key := ck, val := cz, born := clock }) (clock + 1)) ⟨hm.push hcl hk hz2, by simp [hcl]⟩, ?_⟩
        simp only [VRel]
        refine ⟨_, rfl, ?_⟩
        simp only [VsRel, VRel, goInt, hcl]
        exact ⟨_, _, rfl, hz2, _, _, rfl, ⟨rfl, by simp [inR, IntKind.min, IntKind.max, IntKind.signed, IntKind.bits]; omega⟩, rfl⟩
      · rename_i i hko hf
        split at h
        · rename_i p hp
          split at h
          · rename_i hst
            obtain ⟨h1, _, h2⟩ := keyP_run (w := w) hd hko hk hm.two hf
            obtain ⟨q, g1, g2, g3⟩ := h2 i rfl
            obtain ⟨q', f1, f2, f3, f4⟩ := hm.2 i p hp
            rw [g1] at f1
            obtain rfl := Option.some.inj f1
            have h5 : ds[i]? = some q := by simpa using g1
            have h6 : (Instr.keyThatStays ((((ds[i]?).map (·.key)).getD ck)) ck).run P w = .ok ck w := by
              rw [h5]; exact g3 p hp hst
            simp only [Option.some.injEq, Prod.mk.injEq] at h
            obtain ⟨hle, rfl, rfl⟩ := h
            have hle' := Nat.le_of_ble_eq_true hle
            refine ⟨.tuple #[q.val, goInt q.born], { w with heap := w.heap.setIfInBounds e.blk (.map (ds.modify i fun e => { e with key := ck }) clock) }, by simp [Instr.mapEntry, run_underlying hu, run_getObj_at hh, h1, g2, g3 p hp hst, run_setObj_at hh, h5], sp_step hS hj hro (Blk.sp_mp hmp) rfl hcr (ob' := .map (ds.modify i fun e => { e with key := ck }) clock) ⟨hm.setAt (f := fun e => { e with key := ck }) g1 rfl hk f3, by simp [hcl]⟩, ?_⟩
            simp only [VRel]
            refine ⟨_, rfl, ?_⟩
            simp only [VsRel, VRel, goInt, f4]
            exact ⟨_, _, rfl, f3, _, _, rfl, ⟨rfl, by simp [inR, IntKind.min, IntKind.max, IntKind.signed, IntKind.bits]; omega⟩, rfl⟩
          · cases h
        · cases h
      · cases h
    · cases h
  · cases h
theorem entS_rel [Pins] (hS : Sim E m w) {t : TypeId} {x s v : V} {cx cs cv : Value} (hx : VRel E x cx) (hs : VRel E s cs) (hv : VRel E v cv) {m' : Mem} (h : entS m x s v = some m') :
    ∃ w', (Instr.entryStore t cx cs cv).run P w = .ok () w' ∧ Step E m w E m' w' := by
  unfold entS at h
  split at h
  · rename_i j i
    split at h
    · rename_i es hro hmp
      split at h
      · rename_i p hp
        cases h
        simp only [VRel] at hx hs
        obtain ⟨e, hj, rfl⟩ := hx
        obtain ⟨rfl, _⟩ := hs
        obtain ⟨hcr, ds, clock, hh, hm, hcl⟩ := map_at hS hj hmp
        obtain ⟨q, f1, f2, f3, f4⟩ := hm.2 i p hp
        have hi : i < ds.size := by simpa using (List.getElem?_eq_some_iff.1 f1).1
        have hfind : ds.findIdx? (fun e => ((e.born : Nat) : Int) == Int.ofNat i) = some i := by
          rw [Array.findIdx?_eq_some_iff_getElem]
          refine ⟨hi, ?_, fun n hn => ?_⟩
          · have : ds[i] = q := by have := (List.getElem?_eq_some_iff.1 f1).2; simpa using this
            rw [this, f4]; simp
          · have hne : n < es.length := by rw [hm.1]; simp; omega
            obtain ⟨q', g1, _, _, g4⟩ := hm.2 n es[n] (List.getElem?_eq_getElem hne)
            have : ds[n] = q' := by have := (List.getElem?_eq_some_iff.1 g1).2; simpa using this
            rw [this, g4]
            simp; omega
        exact ⟨{ w with heap := w.heap.setIfInBounds e.blk (.map (ds.modify i fun e => { e with val := cv }) clock) }, by simp [Instr.entryStore, run_getObj_at hh, asInt, asIntOf, show ds.findIdx? (fun e => ((e.born : Nat) : Int) == (i : Int)) = some i from hfind, run_setObj_at hh], sp_step hS hj hro (Blk.sp_mp hmp) rfl hcr (ob' := .map (ds.modify i fun e => { e with val := cv }) clock) ⟨hm.setAt (f := fun e => { e with val := cv }) f1 rfl f2 hv, by simp [hcl]⟩⟩
      · cases h
    · cases h
  · cases h
/-- A new map, a new iterator. -/
theorem sp_new [Pins] (hS : Sim E m w) (c : Col) (hp : c.plain = false) (t : TypeId) {ob : Obj} (hrel : SpRel E c ob) : NewB E m w (w.alloc ob) ⟨[c], t, false, true⟩ ⟨w.heap.size, 0, 1, 1, 0⟩ := by
  have hlen : c.len = 0 := by cases c <;> simp [Col.plain] at hp <;> rfl
  refine ⟨rfl, rfl, rfl, by simp, fun j hj => heap_alloc_old w _ j hj, ?_, fun _ => Nat.le_refl _⟩
  refine ⟨rfl, hlen.symm, ?_, ?_, (by intro _ _ hn; rw [Blk.sp_of rfl hp] at hn; cases hn), by simp, by simp, by simp [maxLen], ?_⟩
  · intro c0 hc; simp at hc; subst hc; exact hlen
  · intro row fld col v hcol hv
    cases fld with
    | zero =>
      simp at hcol; subst hcol
      have : c.list = [] := List.eq_nil_of_length_eq_zero (by rw [Col.list_len]; exact hlen)
      rw [this] at hv; simp at hv
    | succ n => simp at hcol
  · intro c0 h0
    rw [Blk.sp_of rfl hp] at h0
    obtain rfl := Option.some.inj h0
    exact ⟨by simp, ob, heap_alloc_new w _, hrel.mono (upd_new hS _)⟩
theorem goes_makeMap [Pins] (hS : Sim E m w) {t : TypeId} (ho : o.op = .makeMap t none) : GoesN P o a E m w (.mapp m.length) ⟨[.map []], t, false, true⟩ := by
  refine ⟨⟨w.heap.size, 0, 1, 1, 0⟩, .map (some w.heap.size), w.alloc (.map #[] 0), by simp [execOp, ho, Instr.makeMap], sp_new hS (.map []) rfl t (ob := .map #[] 0) ⟨by simp [MRel], rfl⟩, ?_⟩
  simp only [VRel]
  exact ⟨_, upd_same _ _ _, rfl⟩
theorem goes_makeChanN [Pins] (hS : Sim E m w) (hρ : ERel E ρ a.tmps.toList) {t : TypeId} {x : Operand} (ho : o.op = .makeChan t x) {n : Int} (hx : opd ρ x = .I .i64 n) {v : V} {m' : Mem} (h : makeChV P t n m = some (true, v, m')) : ∃ b, m' = m ++ [b] ∧ GoesN P o a E m w v b := by
  have hxr := opd_rel (a := a) hρ x
  rw [hx] at hxr
  simp only [VRel] at hxr
  unfold makeChV at h
  split at h
  · rename_i d e hu
    split at h
    · rename_i i hi
      simp only [Option.some.injEq, Prod.mk.injEq, Bool.and_eq_true, decide_eq_true_eq] at h
      obtain ⟨⟨h0, h1, h2⟩, rfl, rfl⟩ := h
      have hn : ¬ (n < 0 ∨ n > IntKind.i64.max ∨ (i.bytes : Int) * n > 2 ^ 48 - 112) := by
        have hm : IntKind.i64.max = 9223372036854775807 := rfl
        rw [hm]; omega
      have hg : GoesN P o a E m w (.chp m.length) ⟨[.ch n.toNat []], t, false, true⟩ := by
        refine ⟨⟨w.heap.size, 0, 1, 1, 0⟩, .chan (some w.heap.size), w.alloc (.chan n.toNat #[] false 0 0 false), ?_, sp_new hS (.ch n.toNat []) rfl t (ob := .chan n.toNat #[] false 0 0 false) ⟨rfl, rfl, rfl, by simp [VsRel]⟩, ?_⟩
        · have hmk : (Instr.makeChan t (.int .i64 n)).run P w = .ok (.chan (some w.heap.size)) (w.alloc (.chan n.toNat #[] false 0 0 false)) := by
            unfold Instr.makeChan
            simp only [asInt, asIntOf, Sem.run_bind, Sem.run_pure, Result.andThen_ok, run_underlying hu, typeInfo, run_program, hi]
            rw [if_neg hn]
            rfl
          simp only [execOp, ho, hxr.1, Sem.run_bind, hmk, Result.andThen_ok, Sem.run_pure]
        · simp only [VRel]
          exact ⟨_, upd_same _ _ _, rfl⟩
      exact ⟨_, rfl, hg⟩
    · cases h
  · cases h
theorem goes_makeChan [Pins] (hS : Sim E m w) (hρ : ERel E ρ a.tmps.toList) {t : TypeId} {x : Operand} (ho : o.op = .makeChan t x) {n : Int} (hx : opd ρ x = .I .i64 n) {v : V} {m' : Mem} (h : makeChV P t n m = some (true, v, m')) : Goes P o a E m w v ρ m' := by
  obtain ⟨b, rfl, hg⟩ := goes_makeChanN hS hρ ho hx h
  exact hg.goes hS hρ
theorem run_getObj_any [Pins] {r : Nat} {ob : Obj} (h : w.heap[r]? = some ob) (hn : ∀ c t f, ob ≠ .cells c t f) : (getObj r).run P w = .ok ob w := by
  simp only [getObj, Sem.run, h]
theorem run_setObj_any [Pins] {r : Nat} {ob0 : Obj} (h : w.heap[r]? = some ob0) (hn : ∀ c t f, ob0 ≠ .cells c t f) (ob : Obj) : (setObj r ob).run P w = .ok () { w with heap := w.heap.setIfInBounds r ob } := by
  simp only [setObj, Sem.run, h]
/-- An iterator that is told, in the machine. -/
theorem sp_at [Pins] (hS : Sim E m w) {j : Nat} {e : BE} (hj : E j = some e) {c : Col} (h : (m.getD j default).sp = some c) : e.cr ≠ 0 ∧ ∃ ob, w.heap[e.blk]? = some ob ∧ SpRel E c ob := by
  obtain ⟨hmj, hb⟩ := getD_blk hS hj
  exact hb.mo _ h
theorem rangeV_rel [Pins] (hS : Sim E m w) {t : TypeId} {x v : V} {cx : Value} (hx : VRel E x cx) {m' : Mem} (h : rangeV P t m x = some (v, m')) :
    ∃ cv w' b e, (Instr.range t cx).run P w = .ok cv w' ∧ m' = m ++ [b] ∧ NewB E m w w' b e ∧ VRel (upd E m.length e) v cv := by
  unfold rangeV at h
  split at h
  · rename_i xs hu
    cases h
    simp only [VRel] at hx
    obtain ⟨s, rfl, hs, hl⟩ := hx
    refine ⟨.pointer (some ⟨w.heap.size, 0, none⟩), w.alloc (.stringIter s 0), _, _, by simp [Instr.range, run_underlying hu], rfl, sp_new hS (.st xs 0) rfl 0 (ob := .stringIter s 0) ⟨hs, hl, rfl⟩, ?_⟩
    simp only [VRel]
    exact ⟨_, upd_same _ _ _, rfl⟩
  · rename_i kt et j hu
    split at h
    · rename_i es hmp
      cases h
      simp only [VRel] at hx
      obtain ⟨e, hj, rfl⟩ := hx
      obtain ⟨hcr, ds, clock, hh, hm, hcl⟩ := map_at hS hj hmp
      refine ⟨.pointer (some ⟨w.heap.size, 0, none⟩), w.alloc (.mapIter (some e.blk) clock #[] clock), _, _, by simp [Instr.range, run_underlying hu, run_getObj_at hh], rfl, sp_new hS (.it j es.length [] es.length) rfl 0 (ob := .mapIter (some e.blk) clock #[] clock) ⟨⟨e, hj, rfl⟩, hcl, rfl, hcl⟩, ?_⟩
      simp only [VRel]
      exact ⟨_, upd_same _ _ _, rfl⟩
    · cases h
  · cases h
theorem entryV_rel [Pins] (hS : Sim E m w) {x v : V} {cx : Value} (hx : VRel E x cx) (h : entryV m x = some v) : ∃ cv, (Instr.entry cx).run P w = .ok cv w ∧ VRel E v cv := by
  unfold entryV at h
  split at h
  · rename_i r
    simp only [VRel] at hx
    obtain ⟨er, hr, rfl⟩ := hx
    split at h
    · rename_i j n seen last hsp
      obtain ⟨_, ob, hob, hrel⟩ := sp_at hS hr hsp
      cases ob <;> simp only [SpRel] at hrel <;> first | exact hrel.elim | skip
      rename_i mm since sn l
      obtain ⟨⟨e, hj, rfl⟩, rfl, hsn, rfl⟩ := hrel
      split at h
      · rename_i es i hmp hlast
        split at h
        · rename_i p hle hp
          cases h
          obtain ⟨hcr, ds, clock, hh, hm, hcl⟩ := map_at hS hj hmp
          obtain ⟨q, f1, f2, f3, f4⟩ := hm.2 i p hp
          have hback : sn.back? = some i := by rw [Array.back?_eq_getElem?, ← Array.getElem?_toList, ← Array.length_toList, hsn, ← List.getLast?_eq_getElem?]; exact hlast
          have hi : i < ds.size := by simpa using (List.getElem?_eq_some_iff.1 f1).1
          have hfind : ds.find? (fun e => e.born == i) = some q := by
            rw [Array.find?_eq_some_iff_getElem]
            refine ⟨by simp [f4], i, hi, by have := (List.getElem?_eq_some_iff.1 f1).2; simpa using this, fun n hn => ?_⟩
            have hne : n < es.length := by rw [hm.1]; simp; omega
            obtain ⟨q', g1, _, _, g4⟩ := hm.2 n es[n] (List.getElem?_eq_getElem hne)
            have : ds[n] = q' := by have := (List.getElem?_eq_some_iff.1 g1).2; simpa using this
            rw [this, g4]
            simp; omega
          have hll : clock = l := by rw [hcl]; exact Nat.eq_of_beq_eq_true hle
          refine ⟨.tuple #[q.key, q.val], by simp [Instr.entry, run_getObj_any hob (by simp), hback, run_getObj_at hh, hll, hfind], ?_⟩
          simp only [VRel]
          exact ⟨_, rfl, by simp only [VsRel]; exact ⟨_, _, rfl, f2, _, _, rfl, f3, rfl⟩⟩
        · cases h
      · cases h
    · cases h
  · cases h
theorem byte_at [Pins] {s : ByteArray} {xs : List Int} (hs : bytesI s = xs) {i : Nat} (hi : i < xs.length) : xs.getD i 0 = (((s.get! i).toNat : Nat) : Int) := by
  subst hs
  unfold bytesI at hi ⊢
  simp only [List.length_map, Array.length_toList] at hi
  rw [List.getD_eq_getElem?_getD, List.getElem?_map, List.getElem?_eq_getElem (by simpa using hi)]
  simp only [ByteArray.get!]
  rw [getElem!_pos s.data i hi]
  simp
theorem nextS_rel [Pins] (hS : Sim E m w) {t : TypeId} {x v : V} {cx : Value} (hx : VRel E x cx) {m' : Mem} (h : nextS m x = some (true, v, m')) :
    ∃ cv w', (Instr.next cx true t).run P w = .ok cv w' ∧ Step E m w E m' w' ∧ VRel E v cv := by
  unfold nextS at h
  split at h
  · rename_i r
    simp only [VRel] at hx
    obtain ⟨er, hr, rfl⟩ := hx
    split at h
    · rename_i xs pos hro hsp
      obtain ⟨hcr, ob, hob, hrel⟩ := sp_at hS hr hsp
      cases ob <;> simp only [SpRel] at hrel <;> first | exact hrel.elim | skip
      rename_i s p
      obtain ⟨hs, hl, rfl⟩ := hrel
      have hsz : xs.length = s.size := by rw [← hs, bytesI_len]
      split at h
      · rename_i hlt
        simp only [Option.some.injEq, Prod.mk.injEq, decide_eq_true_eq] at h
        obtain ⟨hc, rfl, rfl⟩ := h
        have hlt' : p < xs.length := by simpa using hlt
        have hb := byte_at hs hlt'
        have hdec : Utf8.decode s p = ((s.get! p).toNat, 1) := by
          unfold Utf8.decode
          have h128 : (s.get! p).toNat < 128 := by rw [hb] at hc; omega
          simp only [Nat.add_zero, h128, if_true]
        refine ⟨.tuple #[.bool true, goInt p, .int .i32 ((s.get! p).toNat : Nat)], { w with heap := w.heap.setIfInBounds er.blk (.stringIter s (p + 1)) }, ?_, sp_step hS hr hro hsp rfl hcr (ob' := .stringIter s (p + 1)) ⟨hs, hl, rfl⟩, ?_⟩
        · simp [Instr.next, run_getObj_any hob (by simp), show p < s.size by omega, hdec, run_setObj_any hob (by simp)]
        · simp only [VRel]
          refine ⟨_, rfl, ?_⟩
          simp only [VsRel, VRel]
          refine ⟨_, _, rfl, rfl, _, _, rfl, ⟨rfl, by simp [inR, IntKind.min, IntKind.max, IntKind.signed, IntKind.bits]; omega⟩, _, _, rfl, ⟨by rw [hb], ?_⟩, rfl⟩
          rw [hb] at hc ⊢
          simp [inR, IntKind.min, IntKind.max, IntKind.signed, IntKind.bits]; omega
      · rename_i hlt
        simp only [Option.some.injEq, Prod.mk.injEq, true_and] at h
        obtain ⟨rfl, rfl⟩ := h
        have hlt' : ¬ p < xs.length := fun hh => by rw [show Nat.blt p xs.length = true by simpa using hh] at hlt; cases hlt
        refine ⟨.tuple #[.bool false], w, by simp [Instr.next, run_getObj_any hob (by simp), show ¬ p < s.size by omega], Step.refl hS, ?_⟩
        simp only [VRel]
        exact ⟨_, rfl, by simp [VsRel, VRel]⟩
    · cases h
  · cases h
theorem assertV_rel [Pins] {t xt : TypeId} {ok : Bool} {x v : V} {cx : Value} (hx : VRel E x cx) (h : assertV P t ok x = some v) : ∃ cv, (Instr.typeAssert cx xt t ok).run P w = .ok cv w ∧ VRel E v cv := by
  unfold assertV at h
  split at h
  · cases h
  · rename_i dz z hni hu hz
    obtain ⟨cz, hz1, hz2⟩ := zeroM_rel (E := E) (w := w) hz
    have pair : ∀ {u : Value} {pv : V} {b : Bool}, VRel E pv u → VRel E (.tup [pv, .B b]) (.tuple #[u, .bool b]) := by
      intro u pv b hu'
      simp only [VRel]; exact ⟨_, rfl, by simp [VsRel, VRel, hu']⟩
    have hd : ∀ ms, dz ≠ .interface ms := fun ms hh => by subst hh; exact hni ms rfl
    split at h
    · rename_i u v'
      simp only [VRel] at hx
      obtain ⟨c', rfl, hv'⟩ := hx
      split at h
      · rename_i hut
        cases h
        subst hut
        cases ok with
        | true => exact ⟨.tuple #[c', .bool true], by cases dz <;> first | exact absurd rfl (hd _) | simp [Instr.typeAssert, run_underlying hu], pair hv'⟩
        | false => exact ⟨c', by cases dz <;> first | exact absurd rfl (hd _) | simp [Instr.typeAssert, run_underlying hu], hv'⟩
      · rename_i hut
        split at h
        · cases h
          exact ⟨.tuple #[cz, .bool false], by cases dz <;> first | exact absurd rfl (hd _) | simp [Instr.typeAssert, run_underlying hu, hut, hz1], pair hz2⟩
        · cases h
    · simp only [VRel] at hx
      subst hx
      split at h
      · cases h
        exact ⟨.tuple #[cz, .bool false], by cases dz <;> first | exact absurd rfl (hd _) | simp [Instr.typeAssert, run_underlying hu, hz1], pair hz2⟩
      · cases h
    · cases h
  · cases h
theorem xmap_sound [Pins] (hS : Sim E m w) (hρ : ERel E ρ a.tmps.toList) {v : V} {m' : Mem} (h : xmap P o.op (o.op.operands.toList.map (opd ρ)) m = some (true, v, m')) : Goes P o a E m w v ρ m' := by
  unfold xmap at h
  split at h
  · rename_i t x n ho hvs
    simp only [ho, Op.operands, List.map_cons, List.map_nil, List.cons.injEq, and_true] at hvs
    exact goes_makeChan hS hρ ho hvs h
  · rename_i t ho _
    simp only [Option.some.injEq, Prod.mk.injEq, true_and] at h
    obtain ⟨rfl, rfl⟩ := h
    exact (goes_makeMap hS ho).goes hS hρ
  · rename_i t x k ok vx vk ho hvs
    split at h
    · rename_i v' hv
      simp only [Option.some.injEq, Prod.mk.injEq, true_and] at h
      obtain ⟨rfl, rfl⟩ := h
      simp only [ho, Op.operands, List.map_cons, List.map_nil, List.cons.injEq, and_true] at hvs
      obtain ⟨rfl, rfl⟩ := hvs
      obtain ⟨cv, h1, h2⟩ := lookupV_rel hS (opd_rel (a := a) hρ x) (opd_rel (a := a) hρ k) hv
      exact goes_pure hS hρ (by simp only [execOp, ho, Sem.run_bind, h1, Result.andThen_ok, Sem.run_pure]) h2
    · cases h
  · rename_i t x k y vx vk vy ho hvs
    split at h
    · rename_i m1 hv
      simp only [Option.some.injEq, Prod.mk.injEq, true_and] at h
      obtain ⟨rfl, rfl⟩ := h
      simp only [ho, Op.operands, List.map_cons, List.map_nil, List.cons.injEq, and_true] at hvs
      obtain ⟨rfl, rfl, rfl⟩ := hvs
      obtain ⟨w', h1, h2⟩ := insV_rel hS (opd_rel (a := a) hρ x) (opd_rel (a := a) hρ k) (opd_rel (a := a) hρ y) hv
      exact ⟨E, undef, w', .inr ⟨by simp [execOp, ho, h1], rfl⟩, h2, by simp [VRel], hρ⟩
    · cases h
  · rename_i t x k y vx vk vy ho hvs
    split at h
    · rename_i m1 hv
      simp only [Option.some.injEq, Prod.mk.injEq, true_and] at h
      obtain ⟨rfl, rfl⟩ := h
      simp only [ho, Op.operands, List.map_cons, List.map_nil, List.cons.injEq, and_true] at hvs
      obtain ⟨rfl, rfl, rfl⟩ := hvs
      obtain ⟨w', h1, h2⟩ := insV_rel hS (opd_rel (a := a) hρ x) (opd_rel (a := a) hρ k) (opd_rel (a := a) hρ y) hv
      exact ⟨E, undef, w', .inr ⟨by simp [execOp, ho, h1], rfl⟩, h2, by simp [VRel], hρ⟩
    · cases h
  · rename_i t x k vx vk ho hvs
    simp only [ho, Op.operands, List.map_cons, List.map_nil, List.cons.injEq, and_true] at hvs
    obtain ⟨rfl, rfl⟩ := hvs
    obtain ⟨cv, w', h1, h2, h3⟩ := entV_rel hS (opd_rel (a := a) hρ x) (opd_rel (a := a) hρ k) h
    exact ⟨E, cv, w', .inl (by simp only [execOp, ho, Sem.run_bind, h1, Result.andThen_ok, Sem.run_pure]), h2, h3, hρ⟩
  · rename_i t x k y vx vk vy ho hvs
    split at h
    · rename_i m1 hv
      simp only [Option.some.injEq, Prod.mk.injEq, true_and] at h
      obtain ⟨rfl, rfl⟩ := h
      simp only [ho, Op.operands, List.map_cons, List.map_nil, List.cons.injEq, and_true] at hvs
      obtain ⟨rfl, rfl, rfl⟩ := hvs
      obtain ⟨w', h1, h2⟩ := entS_rel (P := P) (t := t) hS (opd_rel (a := a) hρ x) (opd_rel (a := a) hρ k) (opd_rel (a := a) hρ y) hv
      exact ⟨E, undef, w', .inr ⟨by simp [execOp, ho, h1], rfl⟩, h2, by simp [VRel], hρ⟩
    · cases h
  · rename_i t x vx ho hvs
    split at h
    · rename_i v' m1 hv
      simp only [Option.some.injEq, Prod.mk.injEq, true_and] at h
      obtain ⟨rfl, rfl⟩ := h
      simp only [ho, Op.operands, List.map_cons, List.map_nil, List.cons.injEq, and_true] at hvs
      subst hvs
      obtain ⟨cv, w', b, e, h1, rfl, h2, h3⟩ := rangeV_rel hS (opd_rel (a := a) hρ x) hv
      exact (show GoesN P o a E m w v' b from ⟨e, cv, w', by simp only [execOp, ho, Sem.run_bind, h1, Result.andThen_ok, Sem.run_pure], h2, h3⟩).goes hS hρ
    · cases h
  · rename_i x vx ho hvs
    split at h
    · rename_i v' hv
      simp only [Option.some.injEq, Prod.mk.injEq, true_and] at h
      obtain ⟨rfl, rfl⟩ := h
      simp only [ho, Op.operands, List.map_cons, List.map_nil, List.cons.injEq, and_true] at hvs
      subst hvs
      obtain ⟨cv, h1, h2⟩ := entryV_rel (P := P) hS (opd_rel (a := a) hρ x) hv
      exact goes_pure hS hρ (by simp only [execOp, ho, Sem.run_bind, h1, Result.andThen_ok, Sem.run_pure]) h2
    · cases h
  · rename_i x vx ho hvs
    simp only [ho, Op.operands, List.map_cons, List.map_nil, List.cons.injEq, and_true] at hvs
    subst hvs
    obtain ⟨cv, w', h1, h2, h3⟩ := nextS_rel (P := P) (t := o.type) hS (opd_rel (a := a) hρ x) h
    exact ⟨E, cv, w', .inl (by simp only [execOp, ho, Sem.run_bind, h1, Result.andThen_ok, Sem.run_pure]), h2, h3, hρ⟩
  · rename_i x xt t ok vx ho hvs
    split at h
    · rename_i v' hv
      simp only [Option.some.injEq, Prod.mk.injEq, true_and] at h
      obtain ⟨rfl, rfl⟩ := h
      simp only [ho, Op.operands, List.map_cons, List.map_nil, List.cons.injEq, and_true] at hvs
      subst hvs
      obtain ⟨cv, h1, h2⟩ := assertV_rel (P := P) (xt := xt) (w := w) (opd_rel (a := a) hρ x) hv
      exact goes_pure hS hρ (by simp only [execOp, ho, Sem.run_bind, h1, Result.andThen_ok, Sem.run_pure]) h2
    · cases h
  · cases h
end
end Go.Ab
