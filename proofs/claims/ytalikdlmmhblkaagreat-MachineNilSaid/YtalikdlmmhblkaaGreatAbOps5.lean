/- Operations, part 5: equality, unary, conversions, fields, indexes. -/
import Derived.Test.YtalikdlmmhblkaaGreatAbOps4
import Derived.ChangeKeysEq
set_option linter.unusedSimpArgs false
set_option linter.unusedVariables false
namespace Go.Ab
open Go
section
variable {P : Program} {o : Oper} {a : Act} {E : Wh} {m : Mem} {w : World} {ρ : Env}

theorem part_rel [Pins] {t : TypeId} {vs : List V} {cs : Array Value} {n : Nat} {v : V} (hv : VsRel E vs cs.toList) (h1 : ∀ u ∈ cs.toList, u.oneCell' = true) (h : partV P t vs n = some v) : ∃ cv, (part t cs n).run P w = .ok cv w ∧ VRel E v cv := by
  unfold partV at h
  split at h
  · rename_i ha
    split at h
    · rename_i sz hs
      cases h
      refine ⟨.agg (cs.extract n (n + sz)), by simp [part, run_isAgg' ha, run_sizeOf' hs], ?_⟩
      simp only [VRel]
      refine ⟨_, rfl, ?_, ?_⟩
      · rw [Array.toList_extract, List.extract_eq_take_drop, show n + sz - n = sz by omega]
        exact (hv.drop n).take sz
      · intro u hu
        rw [Array.toList_extract, List.extract_eq_take_drop] at hu
        exact h1 u (List.mem_of_mem_drop (List.mem_of_mem_take hu))
    · cases h
  · rename_i ha
    obtain ⟨c, hc, hr⟩ := hv.look n v h
    have hc' : cs[n]? = some c := by simpa using hc
    exact ⟨c, by simp [part, run_isAgg' ha, hc'], hr⟩
  · cases h
theorem fieldsOf_eq [Pins] {t : TypeId} {fs : Array Field} (h : P.underlying t = some (.struct fs)) : P.fieldsOf t = fs := by simp [Program.fieldsOf, h]
theorem eqF_rel [Pins] {d : Nat} {eq : TypeId → V → V → Option Bool} (heq : ∀ (t : TypeId) (x y : V) (r : Bool) (cx cy : Value), eq t x y = some r → VRel E x cx → VRel E y cy → (Op.equalIn d t cx cy).run P w = .ok r w)
    {xs ys : List V} {cx cy : Array Value} (hx : VsRel E xs cx.toList) (hy : VsRel E ys cy.toList) (hx1 : ∀ u ∈ cx.toList, u.oneCell' = true) (hy1 : ∀ u ∈ cy.toList, u.oneCell' = true) :
    ∀ {fs : List Field} {r : Bool}, eqF P eq xs ys fs = some r → (Op.eqFields d cx cy fs).run P w = .ok r w
  | [], r, h => by simp [eqF] at h; subst h; simp [Op.eqFields]
  | f :: fs, r, h => by
    simp only [eqF] at h
    split at h
    · rename_i hf
      split at h
      · rename_i x y hpx hpy
        split at h
        · rename_i r1 s1 hr1 hs1
          cases h
          obtain ⟨c1, g1, g2⟩ := part_rel (w := w) hx hx1 hpx
          obtain ⟨c2, g3, g4⟩ := part_rel (w := w) hy hy1 hpy
          have g5 := heq _ _ _ _ _ _ hr1 g2 g4
          have ih := eqF_rel heq hx hy hx1 hy1 hs1
          simp only [Op.eqFields, hf, ne_eq, not_false_eq_true, if_true, Sem.run_bind, g1, g3, g5, Result.andThen_ok, Sem.run_ite]
          cases r1 <;> simp [ih]
        · cases h
      · cases h
    · rename_i hf
      simp only [Op.eqFields, hf, if_false]
      exact eqF_rel heq hx hy hx1 hy1 h
theorem eqA_rel [Pins] {d : Nat} {eq : V → V → Option Bool} {e : TypeId} {q : Nat} (heq : ∀ (x y : V) (r : Bool) (cx cy : Value), eq x y = some r → VRel E x cx → VRel E y cy → (Op.equalIn d e cx cy).run P w = .ok r w)
    {xs ys : List V} {cx cy : Array Value} (hx : VsRel E xs cx.toList) (hy : VsRel E ys cy.toList) (hx1 : ∀ u ∈ cx.toList, u.oneCell' = true) (hy1 : ∀ u ∈ cy.toList, u.oneCell' = true) :
    ∀ {is : List Nat} {r : Bool}, eqA P eq e q xs ys is = some r → (Op.eqItems d e q cx cy is).run P w = .ok r w
  | [], r, h => by simp [eqA] at h; subst h; simp [Op.eqItems]
  | i :: is, r, h => by
    simp only [eqA] at h
    split at h
    · rename_i x y hpx hpy
      split at h
      · rename_i r1 s1 hr1 hs1
        cases h
        obtain ⟨c1, g1, g2⟩ := part_rel (w := w) hx hx1 hpx
        obtain ⟨c2, g3, g4⟩ := part_rel (w := w) hy hy1 hpy
        have g5 := heq _ _ _ _ _ hr1 g2 g4
        have ih := eqA_rel heq hx hy hx1 hy1 hs1
        simp only [Op.eqItems, Sem.run_bind, g1, g3, g5, Result.andThen_ok, Sem.run_ite]
        cases r1 <;> simp [ih]
      · cases h
    · cases h
theorem eqT_rel [Pins] : ∀ (d q : Nat) {t : TypeId} {x y : V} {r : Bool} {cx cy : Value}, eqT P d t x y = some r → VRel E x cx → VRel E y cy → (Op.equalIn (d + q) t cx cy).run P w = .ok r w
  | 0, q, t, x, y, r, cx, cy, h, hx, hy => by simp [eqT] at h
  | d + 1, q, t, x, y, r, cx, cy, h, hx, hy => by
    unfold eqT at h
    rw [show d + 1 + q = (d + q) + 1 by omega]
    split at h
    · rename_i a b hu
      cases h
      simp only [VRel] at hx hy
      subst hx; subst hy
      exact run_equalIn_bool' w _ t a b hu
    · rename_i k0 k a k' b hu
      split at h
      · cases h
        rename_i hk
        simp only [VRel] at hx hy
        obtain ⟨rfl, _⟩ := hx
        obtain ⟨rfl, _⟩ := hy
        subst hk
        exact run_equalIn_int w _ t k _ a b hu
      · cases h
    · rename_i a b hu
      cases h
      simp only [VRel] at hx hy
      obtain ⟨s, rfl, rfl, _⟩ := hx
      obtain ⟨s', rfl, rfl, _⟩ := hy
      rw [bytesI_beq]
      exact run_equalIn_string w _ t s s' hu
    · rename_i fs xs ys hu
      split at h
      · cases h
      · rename_i hp
        simp only [VRel] at hx hy
        obtain ⟨cs, rfl, hx1, hx2⟩ := hx
        obtain ⟨cs', rfl, hy1, hy2⟩ := hy
        rw [run_equalIn_struct w (d + q) t cs cs' (by rw [fieldsOf_eq hu]; exact hu) (by simpa using hp), fieldsOf_eq hu]
        exact eqF_rel (fun t x y r cx cy h hx hy => eqT_rel d q h hx hy) hx1 hy1 hx2 hy2 h
    · rename_i n e xs ys hu
      split at h
      · rename_i sz hsz
        simp only [VRel] at hx hy
        obtain ⟨cs, rfl, hx1, hx2⟩ := hx
        obtain ⟨cs', rfl, hy1, hy2⟩ := hy
        obtain ⟨i, hi, rfl⟩ := sizeT_some hsz
        rw [run_equalIn_array w (d + q) cs cs' hu hi]
        have hc : P.cellsOf e = i.size := by simp [Program.cellsOf, hi]
        rw [hc]
        exact eqA_rel (fun x y r cx cy h hx hy => eqT_rel d q h hx hy) hx1 hy1 hx2 hy2 h
      · cases h
    · cases h
theorem nilop_some [Pins] {op : BinOp} {z c : Bool} {v : V} (h : nilop op z = some (c, v)) : c = true ∧ ((op = .eql ∧ v = .B z) ∨ (op = .neq ∧ v = .B (!z))) := by
  cases op <;> simp [nilop] at h
  · obtain ⟨rfl, rfl⟩ := h; simp
  · obtain ⟨rfl, rfl⟩ := h; simp
theorem pointee_eq [Pins] {t e : TypeId} (h : P.underlying t = some (.pointer e)) : P.pointee t = e := by simp [Program.pointee, h]
theorem eqGuard_one [Pins] {op : BinOp} {t : TypeId} {x y : Operand} {c d : Value} (h : (∀ z, c ≠ .agg z) ∧ c ≠ .nilIface) : eqGuard op t x y c d = pure () := by
  cases c <;> first | exact absurd rfl (h.1 _) | exact absurd rfl h.2 | (cases op <;> rfl)
theorem equalIn_nils [Pins] (d : Nat) {t e : TypeId} (h : P.underlying t = some (.slice e)) : (Op.equalIn (d + 1) t (.slice none 0 0) (.slice none 0 0)).run P w = .ok true w := by
  simp [Op.equalIn, run_underlying h]
theorem equalIn_ifc [Pins] (d : Nat) {t u : TypeId} {ms : Array (String × TypeId)} {c : Value} (h : P.underlying t = some (.interface ms)) : (Op.equalIn (d + 1) t (.iface u c) .nilIface).run P w = .ok false w := by
  simp [Op.equalIn, run_underlying h]
theorem bop_rel [Pins] {op : BinOp} {t : TypeId} {x y v : V} {cx cy : Value} {ox oy : Operand} (hx : VRel E x cx) (hy : VRel E y cy) (h : bop P op t x y = some (true, v)) :
    ∃ cv, (do eqGuard op t ox oy cx cy; binOp op t cx cy : Sem Value).run P w = .ok cv w ∧ VRel E v cv := by
  unfold bop at h
  split at h
  · rename_i k a k' b
    simp only [VRel] at hx hy
    obtain ⟨rfl, hx⟩ := hx
    obtain ⟨rfl, hy⟩ := hy
    rw [eqGuard_one ⟨fun z => by simp, by simp⟩]
    simp only [Sem.run_bind, Sem.run_pure, Result.andThen_ok]
    split at h
    · exact shop_rel hx h
    · exact shop_rel hx h
    · rename_i h1 h2
      split at h
      · rename_i hk
        subst hk
        exact iop_rel hx h h1 h2
      · cases h
  · simp only [VRel] at hx hy
    obtain ⟨s, rfl, rfl, _⟩ := hx
    obtain ⟨s', rfl, rfl, _⟩ := hy
    rw [eqGuard_one ⟨fun z => by simp, by simp⟩]
    simp only [Sem.run_bind, Sem.run_pure, Result.andThen_ok]
    exact strop_rel h
  · simp only [VRel] at hx hy
    subst hx; subst hy
    rw [eqGuard_one ⟨fun z => by simp, by simp⟩]
    simp only [Sem.run_bind, Sem.run_pure, Result.andThen_ok]
    split at h
    · rename_i hu
      cases h
      exact ⟨_, run_eql_bool w t _ _ hu, by simp [VRel]⟩
    · rename_i hu
      cases h
      exact ⟨_, run_neq_bool w t _ _ hu, by simp [VRel]⟩
    · cases h
  · rename_i xs ys
    split at h
    · cases h
    · rename_i hg
      obtain ⟨cs, hcs, _⟩ := (by simpa only [VRel] using hx : ∃ cs : Array Value, cx = .agg cs ∧ VsRel E xs cs.toList ∧ ∀ u ∈ cs.toList, u.oneCell' = true)
      obtain ⟨cs', hcs', _⟩ := (by simpa only [VRel] using hy : ∃ cs : Array Value, cy = .agg cs ∧ VsRel E ys cs.toList ∧ ∀ u ∈ cs.toList, u.oneCell' = true)
      split at h
      · rename_i r hr
        cases h
        have := eqT_rel (w := w) 12 9988 hr hx hy
        subst hcs; subst hcs'
        refine ⟨.bool r, ?_, by simp [VRel]⟩
        simp only [Sem.run_bind, run_eqGuard_agg w .eql t ox oy cs cs' (by simpa using hg), Result.andThen_ok, run_eql_struct]
        rw [this]; rfl
      · rename_i r hr
        cases h
        have := eqT_rel (w := w) 12 9988 hr hx hy
        subst hcs; subst hcs'
        refine ⟨.bool (!r), ?_, by simp [VRel]⟩
        simp only [Sem.run_bind, run_eqGuard_agg w .neq t ox oy cs cs' (by simpa using hg), Result.andThen_ok, run_neq_struct]
        rw [this]; rfl
      · cases h
  · simp only [VRel] at hx hy
    subst hx; subst hy
    rw [eqGuard_one ⟨fun z => by simp, by simp⟩]
    simp only [Sem.run_bind, Sem.run_pure, Result.andThen_ok]
    split at h
    · rename_i e hu
      have hu' : P.underlying t = some (.pointer (P.pointee t)) := by rw [pointee_eq hu]; exact hu
      obtain ⟨_, ⟨rfl, rfl⟩ | ⟨rfl, rfl⟩⟩ := nilop_some h
      · exact ⟨_, run_eql_pointer_nil w t none hu', by simp [VRel]⟩
      · exact ⟨_, run_neq_pointer_nil w t none hu', by simp [VRel]⟩
    · cases h
  · simp only [VRel] at hx hy
    obtain ⟨e0, _, _, rfl⟩ := hx
    subst hy
    rw [eqGuard_one ⟨fun z => by simp, by simp⟩]
    simp only [Sem.run_bind, Sem.run_pure, Result.andThen_ok]
    split at h
    · rename_i e hu
      have hu' : P.underlying t = some (.pointer (P.pointee t)) := by rw [pointee_eq hu]; exact hu
      obtain ⟨_, ⟨rfl, rfl⟩ | ⟨rfl, rfl⟩⟩ := nilop_some h
      · exact ⟨_, run_eql_pointer_nil w t (some _) hu', by simp [VRel]⟩
      · exact ⟨_, run_neq_pointer_nil w t (some _) hu', by simp [VRel]⟩
    · cases h
  · simp only [VRel] at hx hy
    subst hx; subst hy
    rw [eqGuard_one ⟨fun z => by simp, by simp⟩]
    simp only [Sem.run_bind, Sem.run_pure, Result.andThen_ok]
    split at h
    · rename_i e hu
      obtain ⟨_, ⟨rfl, rfl⟩ | ⟨rfl, rfl⟩⟩ := nilop_some h
      · refine ⟨.bool true, ?_, by simp [VRel]⟩
        simp only [binOp]
        simp [Op.equal, Op.maxDepth, equalIn_nils 9999 hu]
      · refine ⟨.bool false, ?_, by simp [VRel]⟩
        simp only [binOp]
        simp [Op.equal, Op.maxDepth, equalIn_nils 9999 hu]
    · cases h
  · simp only [VRel] at hx hy
    obtain ⟨c', rfl, _⟩ := hx
    subst hy
    rw [eqGuard_one ⟨fun z => by simp, by simp⟩]
    simp only [Sem.run_bind, Sem.run_pure, Result.andThen_ok]
    split at h
    · rename_i e hu
      obtain ⟨_, ⟨rfl, rfl⟩ | ⟨rfl, rfl⟩⟩ := nilop_some h
      · refine ⟨.bool false, ?_, by simp [VRel]⟩
        simp only [binOp]
        simp [Op.equal, Op.maxDepth, equalIn_ifc 9999 hu]
      · refine ⟨.bool true, ?_, by simp [VRel]⟩
        simp only [binOp]
        simp [Op.equal, Op.maxDepth, equalIn_ifc 9999 hu]
    · cases h
  · cases h
theorem goes_binOp [Pins] (hS : Sim E m w) (hρ : ERel E ρ a.tmps.toList) {op : BinOp} {t u : TypeId} {x y : Operand} (ho : o.op = .binOp op t x y u) {v : V} (h : bop P op t (opd ρ x) (opd ρ y) = some (true, v)) : Goes P o a E m w v ρ m := by
  obtain ⟨cv, h1, h2⟩ := bop_rel (w := w) (ox := x) (oy := y) (opd_rel (a := a) hρ x) (opd_rel (a := a) hρ y) h
  refine goes_pure hS hρ ?_ h2
  simp only [Sem.run_bind] at h1
  simp only [execOp, ho, Sem.run_bind, h1, Result.andThen_ok, Sem.run_pure]
theorem goes_unOp [Pins] (hS : Sim E m w) (hρ : ERel E ρ a.tmps.toList) {op : UnOp} {t : TypeId} {x : Operand} (ho : o.op = .unOp op t x) {v : V} (h : uop op (opd ρ x) = some v) : Goes P o a E m w v ρ m := by
  have hx := opd_rel (a := a) hρ x
  generalize hq : opd ρ x = q at h hx
  unfold uop at h
  split at h
  · rename_i k n
    cases h
    simp only [VRel] at hx
    exact goes_pure hS hρ (cv := .int k (k.wrap (0 - n))) (by simp [execOp, ho, hx.1, Op.unary, Op.intArith]) (by simp [VRel, inR_wrap])
  · rename_i k n
    cases h
    simp only [VRel] at hx
    exact goes_pure hS hρ (cv := .int k (ibits .xor k (if k.signed then -1 else k.max) n)) (by simp [execOp, ho, hx.1, Op.unary, Op.intBits, ibits]) (by simp [VRel, ibits, inR_wrap])
  · rename_i b
    cases h
    simp only [VRel] at hx
    exact goes_pure hS hρ (cv := .bool (!b)) (by simp [execOp, ho, hx, Op.unary]) (by simp [VRel])
  · cases h

/-! ### Fields, tuples, functions, interfaces -/
theorem goes_extract [Pins] (hS : Sim E m w) (hρ : ERel E ρ a.tmps.toList) {x : Operand} {ix : Nat} (ho : o.op = .extract x ix) {vs : List V} {v : V} (hx : opd ρ x = .tup vs) (h : vs[ix]? = some v) : Goes P o a E m w v ρ m := by
  have hr := opd_rel (a := a) hρ x
  rw [hx] at hr
  simp only [VRel] at hr
  obtain ⟨cs, hc, hv⟩ := hr
  obtain ⟨c, h1, h2⟩ := hv.look ix v h
  have h1' : cs[ix]? = some c := by simpa using h1
  exact goes_pure hS hρ (by simp [execOp, ho, hc, Instr.extract, h1']) h2
theorem goes_makeFunc [Pins] (hS : Sim E m w) (hρ : ERel E ρ a.tmps.toList) {f : Fn} {x y : Array Operand} (ho : o.op = .makeFunc f x y) : Goes P o a E m w (.fn f (x.toList.map (opd ρ)) (y.toList.map (opd ρ))) ρ m := by
  refine goes_pure hS hρ (cv := .func f (x.map a.eval) (y.map a.eval)) (by simp [execOp, ho, Instr.makeFunc]) ?_
  simp only [VRel]
  exact ⟨_, _, rfl, opds_rel hρ x, opds_rel hρ y⟩
theorem goes_makeInterface [Pins] (hS : Sim E m w) (hρ : ERel E ρ a.tmps.toList) {t : TypeId} {x : Operand} (ho : o.op = .makeInterface t x) {d : TypeDesc} (hd : P.underlying t = some d) (hn : ∀ ms, d ≠ .interface ms) : Goes P o a E m w (.ifc t (opd ρ x)) ρ m := by
  refine goes_pure hS hρ (cv := .iface t (a.eval x)) ?_ ?_
  · simp only [execOp, ho, Instr.makeInterface, Sem.run_bind, run_underlying hd, Result.andThen_ok]
    cases d <;> first | rfl | exact absurd rfl (hn _)
  · simp only [VRel]; exact ⟨_, rfl, opd_rel hρ x⟩
theorem fieldT_some [Pins] {t : TypeId} {f n : Nat} {ft : TypeId} (h : fieldT P t f = some (n, ft)) : ∃ fs x, P.underlying t = some (.struct fs) ∧ fs[f]? = some x ∧ x.offset = n ∧ x.type = ft := by
  unfold fieldT at h
  split at h
  · rename_i fs hu
    split at h
    · rename_i x hx
      cases h
      exact ⟨fs, x, hu, by simpa using hx, rfl, rfl⟩
    · cases h
  · cases h
theorem goes_field [Pins] (hS : Sim E m w) (hρ : ERel E ρ a.tmps.toList) {t : TypeId} {x : Operand} {f n : Nat} {ft : TypeId} (ho : o.op = .field t x f) {vs : List V} {v : V} (hf : fieldT P t f = some (n, ft)) (hx : opd ρ x = .agg vs) (h : partV P ft vs n = some v) : Goes P o a E m w v ρ m := by
  have hr := opd_rel (a := a) hρ x
  rw [hx] at hr
  simp only [VRel] at hr
  obtain ⟨cs, hc, hv, h1⟩ := hr
  obtain ⟨fs, fx, g1, g2, rfl, rfl⟩ := fieldT_some hf
  obtain ⟨cv, q1, q2⟩ := part_rel (w := w) hv h1 h
  exact goes_pure hS hρ (by simp [execOp, ho, hc, Instr.field, run_underlying g1, g2, asAgg, q1]) q2
theorem goes_fieldAddr [Pins] (hS : Sim E m w) (hρ : ERel E ρ a.tmps.toList) {t : TypeId} {x : Operand} {f n : Nat} {ft : TypeId} (ho : o.op = .fieldAddr t x f) {k row fld sz : Nat} (hf : fieldT P t f = some (n, ft)) (hsz : sizeT P ft = some sz) (h0 : sz ≠ 0)
    (hx : opd ρ x = .ptr k row fld) : Goes P o a E m w (.ptr k row (fld + n)) ρ m := by
  have hr := opd_rel (a := a) hρ x
  rw [hx] at hr
  simp only [VRel] at hr
  obtain ⟨e, h1, h2, h3⟩ := hr
  obtain ⟨fs, fx, g1, g2, rfl, rfl⟩ := fieldT_some hf
  refine goes_pure hS hρ (cv := .pointer (some ⟨e.blk, e.off + (row * e.nc + (fld + fx.offset)), none⟩)) ?_ (by simp only [VRel]; exact ⟨e, h1, h2, rfl⟩)
  simp [execOp, ho, h3, Instr.fieldAt, run_underlying g1, g2, Instr.sureAddr, fieldPlace, run_sizeOf' hsz, h0, Addr.add_none, Nat.add_assoc]
end
end Go.Ab
