/- Regions whose order is open: the text of such a region, and what the evaluator keeps of it. -/
import Derived.Test.YtjciabbnncidjaaGreatAbExec
set_option linter.unusedSimpArgs false
set_option linter.unusedVariables false
namespace Go.Ab
open Go

mutual
theorem V.same_eq [Pins] : ∀ {x y : V}, V.same x y = true → x = y
  | x, y, h => by
    cases x <;> cases y <;> simp only [V.same] at h <;> first | (cases h; done) | rfl | skip
    case B.B x y => simp at h; rw [h]
    case mapp.mapp k k' => rw [Nat.eq_of_beq_eq_true h]
    case chp.chp k k' => rw [Nat.eq_of_beq_eq_true h]
    case itp.itp k k' => rw [Nat.eq_of_beq_eq_true h]
    case yv.yv k k' => rw [Nat.eq_of_beq_eq_true h]
    case L.L k i q b c d k' i' q' b' c' d' =>
      split at h
      · rename_i hk
        simp only [Bool.and_eq_true, beq_iff_eq] at h
        obtain ⟨⟨h1, h2, h3, h4⟩, h5⟩ := h
        rw [hk, Nat.eq_of_beq_eq_true h1, h2, h3, h4, h5]
      · cases h
    case I.I k n k' n' => split at h <;> simp_all
    case S.S x y => simp at h; rw [h]
    case ptr.ptr k r f k' r' f' => split at h <;> simp_all
    case sl.sl k r l c k' r' l' c' => split at h <;> simp_all
    case agg.agg vs ws => rw [V.sameL_eq h]
    case tup.tup vs ws => rw [V.sameL_eq h]
    case fn.fn f a d f' a' d' =>
      split at h
      · rename_i hf
        simp only [Bool.and_eq_true] at h
        rw [hf, V.sameL_eq h.1, V.sameL_eq h.2]
      · cases h
    case ifc.ifc t v t' v' =>
      split at h
      · rename_i hf
        rw [hf, V.same_eq h]
      · cases h
theorem V.sameL_eq [Pins] : ∀ {vs ws : List V}, V.sameL vs ws = true → vs = ws
  | [], [], _ => rfl
  | [], _ :: _, h => by simp [V.sameL] at h
  | _ :: _, [], h => by simp [V.sameL] at h
  | v :: vs, w :: ws, h => by
    simp only [V.sameL, Bool.and_eq_true] at h
    rw [V.same_eq h.1, V.sameL_eq h.2]
end

theorem Col.same_eq [Pins] {c d : Col} (h : Col.same c d = true) : c = d := by
  cases c <;> cases d <;> simp only [Col.same] at h <;> first | (cases h; done) | skip
  case ints.ints k xs k' ys =>
    split at h
    · rename_i hk; rw [hk, eq_of_beq h]
    · cases h
  case bools.bools xs ys => rw [eq_of_beq h]
  case strs.strs xs ys => rw [eq_of_beq h]
  case vals.vals xs ys => rw [V.sameL_eq h]
  case map.map es fs =>
    simp only [Bool.and_eq_true] at h
    have h1 := V.sameL_eq h.1
    have h2 := V.sameL_eq h.2
    congr 1
    apply List.ext_getElem?
    intro i
    have g1 := congrArg (·[i]?) h1
    have g2 := congrArg (·[i]?) h2
    simp only [List.getElem?_map] at g1 g2
    cases he : es[i]? <;> cases hf : fs[i]? <;> simp_all
    rename_i p q
    exact Prod.ext g1 g2
  case it.it k n s l k' n' s' l' =>
    simp only [Bool.and_eq_true] at h
    rw [Nat.eq_of_beq_eq_true h.1, Nat.eq_of_beq_eq_true h.2.1, eq_of_beq h.2.2.1, Nat.eq_of_beq_eq_true h.2.2.2]
  case st.st xs p xs' p' =>
    simp only [Bool.and_eq_true] at h
    rw [eq_of_beq h.1, Nat.eq_of_beq_eq_true h.2]
  case gone.gone => rfl
  case ch.ch c xs c' xs' =>
    simp only [Bool.and_eq_true] at h
    rw [Nat.eq_of_beq_eq_true h.1, V.sameL_eq h.2]
theorem sameCols_eq [Pins] : ∀ {cs ds : List Col}, sameCols cs ds = true → cs = ds
  | [], [], _ => rfl
  | [], _ :: _, h => by simp [sameCols] at h
  | _ :: _, [], h => by simp [sameCols] at h
  | c :: cs, d :: ds, h => by
    simp only [sameCols, Bool.and_eq_true] at h
    rw [Col.same_eq h.1, sameCols_eq h.2]
theorem Blk.same_eq [Pins] {b c : Blk} (h : Blk.same b c = true) : b = c := by
  obtain ⟨c1, c2, c3, c4⟩ := b
  obtain ⟨d1, d2, d3, d4⟩ := c
  simp only [Blk.same, Bool.and_eq_true] at h
  obtain ⟨h1, h2, h3, h4⟩ := h
  obtain rfl := Nat.eq_of_beq_eq_true h1
  obtain rfl := eq_of_beq h2
  obtain rfl := eq_of_beq h3
  obtain rfl := sameCols_eq h4
  rfl
section
variable {P : Program} {C : CC} {Y : YC} {KP : V → Env → Mem → Prop} {r : Option Nat} {E : Wh} {m : Mem} {w : World} {ρ ρr : Env} {a : Act} {all : List Oper} {o : Oper}
theorem opds_agree [Pins] (h : ∀ t ∈ looks all o, ρr.look t = ρ.look t) : ∀ x ∈ o.op.operands, opd ρ x = opd ρr x := by
  intro x hx
  cases x with
  | tmp t =>
    have : t ∈ looks all o := by
      unfold looks
      refine List.mem_append_right _ (List.mem_filterMap.2 ⟨.tmp t, by simpa using hx, rfl⟩)
    simp only [opd, Tr.get_look, h t this]
  | _ => rfl
theorem wantV_agree [Pins] (h : ∀ t ∈ looks all o, ρr.look t = ρ.look t) : wantV all o ρ = wantV all o ρr := by
  unfold wantV
  cases hg : o.guard with
  | none => rfl
  | some jw =>
    obtain ⟨j, want⟩ := jw
    simp only
    cases hs : slotOf all j with
    | none => rfl
    | some d =>
      have : d ∈ looks all o := by
        unfold looks
        exact List.mem_append_left _ (by rw [hg]; simp [hs])
      simp only [Tr.get_look, h d this]
theorem valV_agree [Pins] (h : ∀ t ∈ looks all o, ρr.look t = ρ.look t) : valV P o ρ m = valV P o ρr m := by
  have hx := opds_agree h
  have hx' : ∀ x ∈ o.op.operands, opd ρr x = opd ρ x := fun x hh => (hx x hh).symm
  have key : (match sop P o ρ m with | some (c, v, _, _) => some (c, v) | none => none) = (match sop P o ρr m with | some (c, v, _, _) => some (c, v) | none => (none : Option (Bool × V))) := by
    cases hs : sop P o ρ m with
    | none =>
      cases hs' : sop P o ρr m with
      | none => rfl
      | some r =>
        obtain ⟨c, v, ρ', m'⟩ := r
        obtain ⟨_, h1, _⟩ := sop_alike hx' hs'
        rw [hs] at h1
        cases h1
    | some r =>
      obtain ⟨c, v, ρ', m'⟩ := r
      obtain ⟨_, h1, _⟩ := sop_alike hx hs
      rw [h1]
  unfold valV
  split
  · rename_i c x y ho
    rw [hx c (by simp [ho, Op.operands]), hx x (by simp [ho, Op.operands]), hx y (by simp [ho, Op.operands])]
  · exact key
theorem again_agree [Pins] (h : ∀ t ∈ looks all o, ρr.look t = ρ.look t) : again P all o ρ m = again P all o ρr m := by
  unfold again
  rw [wantV_agree h, valV_agree h]
theorem cop_pure [Pins] (hp : pureOp o = true) {K : V → Env → Mem → Prop} (h : cop P C Y KP o ρ m K) : ∃ v, valV P o ρ m = some (true, v) ∧ K v ρ m := by
  have hsop : csop P o ρ m K → (∀ c x y, o.op ≠ .pick c x y) → ∃ v, valV P o ρ m = some (true, v) ∧ K v ρ m := by
    intro h' hne
    unfold csop at h'
    cases hs : sop P o ρ m with
    | none => rw [hs] at h'; cases h'
    | some r =>
      obtain ⟨c, v, ρ', m'⟩ := r
      rw [hs] at h'
      cases c with
      | false => cases h'
      | true =>
        obtain ⟨rfl, rfl⟩ := sop_pure hp hs
        refine ⟨v, ?_, h'⟩
        unfold valV
        split
        · rename_i c x y ho; exact absurd ho (hne c x y)
        · rw [hs]
  unfold cop at h
  split at h
  · rename_i t x ix ho
    exact hsop (cindex_csop ho h) (fun c x y hh => by rw [ho] at hh; cases hh)
  · rename_i t x ix ok ho
    split at h
    · exact hsop h (fun c x y hh => by rw [ho] at hh; cases hh)
    · rename_i hk0
      exact hsop (clook_csop ho (fun vs hh => hk0 vs hh) h) (fun c x y hh => by rw [ho] at hh; cases hh)
  · rename_i x ho
    unfold pureOp at hp
    simp [ho] at hp
  · rename_i x ho
    unfold pureOp at hp
    simp [ho] at hp
  · rename_i c x y ho
    split at h
    · rename_i t hc
      unfold valV
      rw [ho]
      cases t with
      | true => simp only [refine_same hc] at h; simp only [hc]; exact ⟨_, rfl, h⟩
      | false => simp only [refine_same hc] at h; simp only [hc]; exact ⟨_, rfl, h⟩
    · cases h
  · rename_i c ho
    split at h
    · rename_i f hf
      unfold pureOp at hp
      rw [ho] at hp
      simp only [hf] at hp
      cases hp
    · rename_i r nm hf
      unfold pureOp at hp
      rw [ho] at hp
      simp only [hf] at hp
      cases hp
    · exact hsop h (fun c x y hh => by rw [ho] at hh; cases hh)
  · rename_i h0 h1 h2 h3 h4
    exact hsop h (fun c x y hh => h3 c x y hh)
theorem cop_of_val [Pins] (hp : pureOp o = true) {v : V} (h : valV P o ρ m = some (true, v)) : cop P C Y KP o ρ m fun v' ρ' m' => v' = v ∧ ρ' = ρ ∧ m' = m := by
  unfold valV at h
  unfold cop
  split at h
  · rename_i c x y ho
    rw [ho]
    simp only
    split at h
    · rename_i hc
      rw [hc]
      simp only [refine_same hc]
      cases h
      simp
    · rename_i hc
      rw [hc]
      simp only [refine_same hc]
      cases h
      simp
    · cases h
  · rename_i hne
    split at h
    · rename_i c v' ρ' m' hs
      cases h
      obtain ⟨rfl, rfl⟩ := sop_pure hp hs
      have hc : csop P o ρ' m' fun v' ρ'' m'' => v' = v ∧ ρ'' = ρ' ∧ m'' = m' := by
        unfold csop; rw [hs]; exact ⟨rfl, rfl, rfl⟩
      split
      · rename_i t x ix ho
        exact csop_cindex ho hc
      · rename_i t x ix ok ho
        split
        · exact hc
        · rename_i hk0
          exact csop_clook ho (fun vs hh => hk0 vs hh) hc
      · rename_i x ho
        unfold pureOp at hp
        simp [ho] at hp
      · rename_i x ho
        unfold pureOp at hp
        simp [ho] at hp
      · rename_i c x y ho; exact absurd ho (hne c x y)
      · rename_i c ho
        split
        · rename_i f hf
          unfold pureOp at hp
          rw [ho] at hp
          simp only [hf] at hp
          cases hp
        · rename_i r nm hf
          unfold pureOp at hp
          rw [ho] at hp
          simp only [hf] at hp
          cases hp
        · exact hc
      · exact hc
    · cases h
theorem cstep_pure [Pins] (hp : pureOp o = true) {K : Env → Mem → Prop} (h : cstep P C Y KP all o ρ m K) : ∃ v, again P all o ρ m = some (true, v) ∧ K (put o.dst v ρ) m := by
  unfold cstep at h
  unfold again
  rcases cguard_cases h with ⟨hw, h⟩ | ⟨hw, h⟩
  · rw [hw]
    exact cop_pure hp h
  · rw [hw]
    exact ⟨_, rfl, h⟩
/-- An operation that changes nothing, in the machine. -/
theorem again_wpOp [Pins] (hN : Named P) (hC : CallsOk P C) (hS : Sim E m w) (hρ : ERel E ρr a.tmps.toList) {ops : Array Oper} {i : Nat} (ho : ops[i]? = some o) (hp : pureOp o = true) {v : V} (h : again P ops.toList o ρr m = some (true, v))
    {K : Act → World → Prop} {Q : Exit → Act → World → Prop} (hK : ∀ cv E' w', Step E m w E' m w' → VRel E' v cv → ERel E' ρr a.tmps.toList → K (a.put o.dst cv) w') : wpOpIn (FW r) 0 P ops Q i K a w := by
  unfold wpOpIn
  rw [ho]
  simp only
  unfold again at h
  split at h
  · rename_i hw
    rw [if_pos (wantV_rel hρ hw)]
    refine Oper.wpIn_mono (fun a' w' ha => ?_) (cop_sound (U := fun _ => False) hN hC noY_ok hS hρ (Agree.refl _ _) (fun _ _ => rfl) (cop_of_val (C := C) (Y := noY) (KP := noP) hp h) Q (PanQ.no _ _ _ _ _ _))
    obtain ⟨cv, v', ρ', ρr', m', E', rfl, ⟨rfl, rfl, rfl⟩, hst, hv, hρ', hag⟩ := ha
    obtain rfl := hag.eq
    exact hK cv E' w' hst hv hρ'
  · rename_i hw
    rw [if_neg (by rw [wantV_rel hρ hw]; simp)]
    cases h
    exact ⟨fun f _ => trivial, hK undef E w (Step.refl hS) (by simp [VRel, VsRel, undef]) hρ⟩
  · cases h
end

section
variable {P : Program} {C : CC} {Y : YC} {KP : V → Env → Mem → Prop} {r : Option Nat} {E : Wh} {m : Mem} {w : World} {ρ ρr : Env} {a : Act} {all : List Oper} {o : Oper}
theorem sop_agree [Pins] (h : ∀ t ∈ looks all o, ρr.look t = ρ.look t) : (match sop P o ρ m with | some (c, v, _, m') => some (c, v, m') | none => none) = (match sop P o ρr m with | some (c, v, _, m') => some (c, v, m') | none => (none : Option (Bool × V × Mem))) := by
  have hx := opds_agree h
  have hx' : ∀ x ∈ o.op.operands, opd ρr x = opd ρ x := fun x hh => (hx x hh).symm
  cases hs : sop P o ρ m with
  | none =>
    cases hs' : sop P o ρr m with
    | none => rfl
    | some r =>
      obtain ⟨c, v, ρ', m'⟩ := r
      obtain ⟨_, h1, _⟩ := sop_alike hx' hs'
      rw [hs] at h1
      cases h1
  | some r =>
    obtain ⟨c, v, ρ', m'⟩ := r
    obtain ⟨_, h1, _⟩ := sop_alike hx hs
    rw [h1]
/-- What 'sameNew' says. -/
theorem sameNew_spec [Pins] {news : List (Nat × Nat)} {i : Nat} (hf : freeOp o = true) (h : sameNew P all news i o ρ m = true) : ∃ d, o.dst = some d ∧
    ((wantV all o ρ = some false ∧ lookN i news = none ∧ ρ.get d = .tup []) ∨
     (wantV all o ρ = some true ∧ ∃ kb v b, lookN i news = some kb ∧ sop P o ρ m = some (true, v, ρ, m ++ [b]) ∧ ρ.get d = V.ren (mvN m.length kb) v ∧ kb < m.length ∧ m[kb]? = some (b.ren (mvN m.length kb)))) := by
  unfold sameNew at h
  split at h
  · rename_i hw
    split at h
    · rename_i d hl hd
      exact ⟨d, hd, .inl ⟨hw, hl, V.same_eq h⟩⟩
    · cases h
  · rename_i hw
    split at h
    · rename_i kb d c v ρ' m' hl hd hs
      split at h
      · rename_i b hb
        simp only [Bool.and_eq_true] at h
        obtain ⟨rfl, h2, h3, h4⟩ := h
        obtain ⟨rfl, b', rfl⟩ := free_shape hf hs
        simp at hb
        subst hb
        have hlt : kb < m.length := by simpa using h3
        refine ⟨d, hd, .inr ⟨hw, kb, v, b', hl, hs, V.same_eq h2, hlt, ?_⟩⟩
        rw [← Blk.same_eq h4, List.getD_eq_getElem?_getD, List.getElem?_eq_getElem hlt]
        rfl
      · cases h
    · cases h
  · cases h
theorem sameNew_of [Pins] {news : List (Nat × Nat)} {i : Nat} (h : ∀ t ∈ looks all o, ρr.look t = ρ.look t) (hd : ∀ d, o.dst = some d → ρr.get d = ρ.get d) : sameNew P all news i o ρ m = sameNew P all news i o ρr m := by
  unfold sameNew
  rw [wantV_agree h]
  cases hdst : o.dst with
  | none => cases wantV all o ρr with
    | none => rfl
    | some b => cases b <;> cases lookN i news <;> rfl
  | some d =>
    have hg := hd d hdst
    cases wantV all o ρr with
    | none => rfl
    | some b =>
      cases b with
      | false =>
        cases lookN i news with
        | none => show V.same (ρ.get d) _ = V.same (ρr.get d) _; rw [hg]
        | some kb => rfl
      | true =>
        cases lookN i news with
        | none => rfl
        | some kb =>
          have hs := sop_agree (P := P) (m := m) h
          cases h1 : sop P o ρ m with
          | none =>
            cases h2 : sop P o ρr m with
            | none => rfl
            | some r => rw [h1, h2] at hs; cases hs
          | some r =>
            cases h2 : sop P o ρr m with
            | none => rw [h1, h2] at hs; cases hs
            | some r' =>
              obtain ⟨c, v, ρ1, m1⟩ := r
              obtain ⟨c', v', ρ1', m1'⟩ := r'
              rw [h1, h2] at hs
              simp only [Option.some.injEq, Prod.mk.injEq] at hs
              obtain ⟨rfl, rfl, rfl⟩ := hs
              simp only [hg]
theorem cstep_free [Pins] (hf : freeOp o = true) {K : Env → Mem → Prop} (h : cstep P C Y KP all o ρ m K) :
    ∃ v m', ((m' = m) ∨ (∃ b, m' = m ++ [b])) ∧ K (put o.dst v ρ) m' := by
  unfold cstep at h
  rcases cguard_cases h with ⟨hw, h⟩ | ⟨hw, h⟩
  · have hc : csop P o ρ m fun v ρ m => K (put o.dst v ρ) m := by
      unfold freeOp at hf
      unfold cop at h
      cases ho : o.op <;> simp only [ho] at hf h <;> first | (cases hf; done) | exact h
    unfold csop at hc
    split at hc
    · rename_i c v ρ' m' hs
      split at hc
      · obtain ⟨rfl, b, rfl⟩ := free_shape hf hs
        exact ⟨v, _, .inr ⟨b, rfl⟩, hc⟩
      · cases hc
    · cases hc
  · exact ⟨.tup [], m, .inl rfl, h⟩
/-- One that lays a new block, in the machine. -/
theorem free_wpOp [Pins] (hS : Sim E m w) (hρ : ERel E ρr a.tmps.toList) {ops : Array Oper} {i : Nat} (ho : ops[i]? = some o) (hf : freeOp o = true) (hw : wantV ops.toList o ρr = some true) {v : V} {b : Blk} (hs : sop P o ρr m = some (true, v, ρr, m ++ [b]))
    {K : Act → World → Prop} {Q : Exit → Act → World → Prop} (hK : ∀ cv e w', NewB E m w w' b e → VRel (upd E m.length e) v cv → K (a.put o.dst cv) w') : wpOpIn (FW r) 0 P ops Q i K a w := by
  unfold wpOpIn
  rw [ho]
  simp only
  rw [if_pos (wantV_rel hρ hw)]
  obtain ⟨_, b', hb, e, cv, w', h1, h2, h3⟩ := free_sound hS hρ hf hs
  have hbb : b' = b := by simpa using hb.symm
  subst hbb
  refine wpIn_of_wp (by intro c hc; unfold freeOp at hf; rw [hc] at hf; cases hf) ?_
  unfold Oper.wp
  rw [h1, Oper.upon_value]
  exact hK cv e w' h2 h3
theorem unwanted_wpOp [Pins] (hρ : ERel E ρr a.tmps.toList) {ops : Array Oper} {i : Nat} (ho : ops[i]? = some o) (hw : wantV ops.toList o ρr = some false)
    {K : Act → World → Prop} {Q : Exit → Act → World → Prop} (hK : K (a.put o.dst undef) w) : wpOpIn (FW r) 0 P ops Q i K a w := by
  unfold wpOpIn
  rw [ho]
  simp only
  rw [if_neg (by rw [wantV_rel hρ hw]; simp)]
  exact ⟨fun f _ => trivial, hK⟩
end

/-! ## The text of a region -/
theorem bindsAny_eq [Pins] (e : Edge) : bindsAny e = Region.binds .any e := by
  unfold bindsAny Region.binds
  cases e.ground <;> rfl
theorem waitsFor_iff [Pins] {o : Oper} {i : Nat} : waitsFor o i = true ↔ ∃ e ∈ o.after, Region.binds .any e = true ∧ e.on = i := by
  unfold waitsFor
  rw [List.any_eq_true]
  constructor
  · rintro ⟨e, he, hb⟩
    simp only [Bool.and_eq_true] at hb
    exact ⟨e, Array.mem_toList_iff.1 he, by rw [← bindsAny_eq]; exact hb.1, Nat.eq_of_beq_eq_true hb.2⟩
  · rintro ⟨e, he, hb, rfl⟩
    exact ⟨e, Array.mem_toList_iff.2 he, by rw [bindsAny_eq, hb]; simp⟩
theorem waitsOne_iff [Pins] {o : Oper} {l : List Nat} : waitsOne o l = true ↔ ∃ k, waitsFor o k = true ∧ k ∈ l := by
  unfold waitsOne
  rw [List.any_eq_true]
  constructor
  · rintro ⟨e, he, hb⟩
    simp only [Bool.and_eq_true] at hb
    exact ⟨e.on, waitsFor_iff.2 ⟨e, Array.mem_toList_iff.1 he, by rw [← bindsAny_eq]; exact hb.1, rfl⟩, mem?_iff.1 hb.2⟩
  · rintro ⟨k, hk, hm⟩
    obtain ⟨e, he, hb, rfl⟩ := waitsFor_iff.1 hk
    exact ⟨e, Array.mem_toList_iff.2 he, by rw [bindsAny_eq, hb, mem?_iff.2 hm]; rfl⟩
/-- An operation waits for another, itself or through those that it waits for. -/
inductive WaitsT (L : List Oper) : Oper → Nat → Prop where
  | one {o : Oper} {l : Nat} : waitsFor o l = true → WaitsT L o l
  | more {o p : Oper} {j l : Nat} : waitsFor o j = true → L[j]? = some p → WaitsT L p l → WaitsT L o l
theorem waitsT_spec [Pins] {L : List Oper} : ∀ {n : Nat} {o : Oper} {l : Nat}, waitsT L n o l = true → WaitsT L o l
  | 0, o, l, h => .one h
  | n + 1, o, l, h => by
    simp only [waitsT, Bool.or_eq_true, List.any_eq_true, Bool.and_eq_true] at h
    rcases h with h | ⟨e, he, hb, _, h⟩
    · exact .one h
    · split at h
      · rename_i p hp
        exact .more (waitsFor_iff.2 ⟨e, Array.mem_toList_iff.1 he, by rw [← bindsAny_eq]; exact hb, rfl⟩) hp (waitsT_spec h)
      · cases h
structure Text (L : List Oper) : Prop where
  fwd : ∀ (r : Nat) (o : Oper) (i : Nat), L[r]? = some o → waitsFor o i = true → i < r
  pd : ∀ (i : Nat) (p : Oper), L[i]? = some p → earlyOp p = true → ∃ d, p.dst = some d
  rd : ∀ (r : Nat) (o : Oper) (i : Nat) (p : Oper) (d : Tmp), L[r]? = some o → L[i]? = some p → earlyOp p = true → p.dst = some d → d ∈ looks L o → waitsFor o i = true
  wr : ∀ (r : Nat) (o : Oper) (i : Nat) (p : Oper) (d : Tmp), L[r]? = some o → L[i]? = some p → earlyOp p = true → p.dst = some d → i ≠ r → o.dst ≠ some d
  chain : ∀ (i : Nat) (o : Oper) (j : Nat) (p : Oper), L[i]? = some o → earlyOp o = false → L[j]? = some p → earlyOp p = false → j < i → ∃ l q, j ≤ l ∧ l < i ∧ L[l]? = some q ∧ earlyOp q = false ∧ WaitsT L o l
theorem fits_spec [Pins] {all : List Oper} {o : Oper} {r : Nat} : ∀ {ps : List Oper} {i : Nat}, fits all o r i ps = true → ∀ (j : Nat) (p : Oper), ps[j]? = some p → earlyOp p = true →
    ∃ d, p.dst = some d ∧ (d ∈ looks all o → waitsFor o (i + j) = true) ∧ (i + j ≠ r → o.dst ≠ some d)
  | [], i, h, j, p, hj, hp => by simp at hj
  | p0 :: ps, i, h, j, p, hj, hp => by
    simp only [fits, Bool.and_eq_true] at h
    obtain ⟨h1, h2⟩ := h
    cases j with
    | succ j =>
      have := fits_spec h2 j p (by simpa using hj) hp
      rw [show i + 1 + j = i + (j + 1) by omega] at this
      exact this
    | zero =>
      simp at hj
      subst hj
      rw [hp] at h1
      cases hd : p0.dst with
      | none => rw [hd] at h1; cases h1
      | some d =>
        rw [hd] at h1
        simp only [Bool.and_eq_true, Bool.or_eq_true, Bool.not_eq_true'] at h1
        obtain ⟨h1, h3⟩ := h1
        refine ⟨d, rfl, ?_, ?_⟩
        · intro hm
          rcases h1 with h1 | h1
          · exact absurd hm (mem?_false h1)
          · exact h1
        · intro hne hod
          rw [hod] at h3
          rcases h3 with h3 | h3
          · exact hne (Nat.eq_of_beq_eq_true h3)
          · simp at h3
theorem eachFits_spec [Pins] {all : List Oper} : ∀ {os : List Oper} {r : Nat}, eachFits all r os = true → ∀ (j : Nat) (o : Oper), os[j]? = some o → forward o (r + j) = true ∧ fits all o (r + j) 0 all = true
  | [], r, h, j, o, hj => by simp at hj
  | o0 :: os, r, h, j, o, hj => by
    simp only [eachFits, Bool.and_eq_true] at h
    cases j with
    | zero => simp at hj; subst hj; exact ⟨h.1, h.2.1⟩
    | succ j =>
      have := eachFits_spec h.2.2 j o (by simpa using hj)
      rw [show r + 1 + j = r + (j + 1) by omega] at this
      exact this
theorem chained_spec [Pins] {all : List Oper} : ∀ {os : List Oper} {last : Option Nat} {i : Nat}, chained all last i os = true → ∀ (n : Nat) (o : Oper), os[n]? = some o → earlyOp o = false →
    (∀ (j : Nat) (p : Oper), j < n → os[j]? = some p → earlyOp p = false → ∃ l q, j ≤ l ∧ l < n ∧ os[l]? = some q ∧ earlyOp q = false ∧ WaitsT all o (i + l)) ∧
    (∀ l0, last = some l0 → WaitsT all o l0 ∨ ∃ l q, l < n ∧ os[l]? = some q ∧ earlyOp q = false)
  | [], last, i, h, n, o, hn, hp => by simp at hn
  | o0 :: os, last, i, h, n, o, hn, hp => by
    simp only [chained] at h
    cases n with
    | zero =>
      simp at hn
      subst hn
      rw [hp] at h
      simp only [Bool.and_eq_true] at h
      refine ⟨fun j p hj => by omega, fun l0 hl => ?_⟩
      rw [hl] at h
      exact .inl (waitsT_spec h.1)
    | succ n =>
      cases h0 : earlyOp o0 with
      | true =>
        rw [h0] at h
        obtain ⟨h1, h2⟩ := chained_spec h n o (by simpa using hn) hp
        refine ⟨fun j p hj hjp hpp => ?_, fun l0 hl => ?_⟩
        · cases j with
          | zero => simp at hjp; subst hjp; rw [h0] at hpp; cases hpp
          | succ j =>
            obtain ⟨l, q, g1, g2, g3, g4, g5⟩ := h1 j p (by omega) (by simpa using hjp) hpp
            exact ⟨l + 1, q, by omega, by omega, by simpa using g3, g4, by rw [show i + (l + 1) = i + 1 + l by omega]; exact g5⟩
        · rcases h2 l0 hl with h2 | ⟨l, q, g1, g2, g3⟩
          · exact .inl h2
          · exact .inr ⟨l + 1, q, by omega, by simpa using g2, g3⟩
      | false =>
        rw [h0] at h
        simp only [Bool.and_eq_true] at h
        obtain ⟨h1, h2⟩ := chained_spec h.2 n o (by simpa using hn) hp
        have up : ∀ j p, j < n → os[j]? = some p → earlyOp p = false → ∀ j0, j0 ≤ j + 1 → ∃ l q, j0 ≤ l ∧ l < n + 1 ∧ (o0 :: os)[l]? = some q ∧ earlyOp q = false ∧ WaitsT all o (i + l) := by
          intro j p hj hjp hpp j0 hj0
          obtain ⟨l, q, g1, g2, g3, g4, g5⟩ := h1 j p hj hjp hpp
          exact ⟨l + 1, q, by omega, by omega, by simpa using g3, g4, by rw [show i + (l + 1) = i + 1 + l by omega]; exact g5⟩
        refine ⟨fun j p hj hjp hpp => ?_, fun l0 hl => .inr ⟨0, o0, by omega, rfl, h0⟩⟩
        cases j with
        | zero =>
          rcases h2 i rfl with h2 | ⟨l, q, g1, g2, g3⟩
          · exact ⟨0, o0, by omega, by omega, rfl, h0, by simpa using h2⟩
          · exact up l q g1 g2 g3 0 (by omega)
        | succ j => exact up j p (by omega) (by simpa using hjp) hpp (j + 1) (by omega)
theorem drawOk_spec [Pins] {P : Program} {L : List Oper} (h : drawOk P L = true) : P.follows .mixedOrders = true ∧ Text L := by
  simp only [drawOk, Bool.and_eq_true] at h
  obtain ⟨h1, h2, h3⟩ := h
  have hf : ∀ (r : Nat) (o : Oper), L[r]? = some o → forward o r = true ∧ fits L o r 0 L = true := fun r o hr => by
    have := eachFits_spec h3 r o hr
    simpa using this
  refine ⟨h1, ?_, ?_, ?_, ?_, ?_⟩
  · intro r o i hr hw
    obtain ⟨e, he, hb, rfl⟩ := waitsFor_iff.1 hw
    have := (hf r o hr).1
    unfold forward at this
    rw [List.all_eq_true] at this
    have := this e (Array.mem_toList_iff.2 he)
    rw [bindsAny_eq, hb] at this
    simpa using this
  · intro i p hi hp
    obtain ⟨d, hd, _⟩ := fits_spec (hf i p hi).2 i p hi hp
    exact ⟨d, hd⟩
  · intro r o i p d hr hi hp hd hl
    obtain ⟨d', hd', h1, _⟩ := fits_spec (hf r o hr).2 i p hi hp
    rw [hd] at hd'
    obtain rfl := Option.some.inj hd'
    simpa using h1 hl
  · intro r o i p d hr hi hp hd hne
    obtain ⟨d', hd', _, h2⟩ := fits_spec (hf r o hr).2 i p hi hp
    rw [hd] at hd'
    obtain rfl := Option.some.inj hd'
    exact h2 (by simpa using hne)
  · intro i o j p hi ho hj hp hlt
    obtain ⟨h1, _⟩ := chained_spec h2 i o hi ho
    obtain ⟨l, q, g1, g2, g3, g4, g5⟩ := h1 j p hlt hj hp
    exact ⟨l, q, g1, g2, g3, g4, by simpa using g5⟩
end Go.Ab
