/- What an operation leaves depends on what it looks at alone. -/
import Derived.Test.YtjciabbnncidjaaGreatAbDef
set_option linter.unusedSimpArgs false
set_option linter.unusedVariables false
namespace Go.Ab
open Go

/-- Two frames change alike. -/
def Alike (ρ ρ' ρr ρr' : Env) : Prop := (ρ' = ρ ∧ ρr' = ρr) ∨ ∃ k, ρ' = ρ.map (V.kill k) ∧ ρr' = ρr.map (V.kill k)
section
variable {P : Program} {ρ ρr : Env} {m : Mem} {c : Bool} {v : V} {ρ' : Env} {m' : Mem}
theorem okV_alike {x : V} (h : okV x ρ m = some (c, v, ρ', m')) : ∃ ρr', okV x ρr m = some (c, v, ρr', m') ∧ Alike ρ ρ' ρr ρr' := by
  simp only [okV, Option.some.injEq, Prod.mk.injEq] at h
  obtain ⟨rfl, rfl, rfl, rfl⟩ := h
  exact ⟨ρr, rfl, .inl ⟨rfl, rfl⟩⟩
theorem okO_alike {x : Option V} (h : okO x ρ m = some (c, v, ρ', m')) : ∃ ρr', okO x ρr m = some (c, v, ρr', m') ∧ Alike ρ ρ' ρr ρr' := by
  cases x with
  | none => cases h
  | some x =>
    simp only [okO, Option.some.injEq, Prod.mk.injEq] at h
    obtain ⟨rfl, rfl, rfl, rfl⟩ := h
    exact ⟨ρr, rfl, .inl ⟨rfl, rfl⟩⟩
theorem okC_alike {x : Option (Bool × V)} (h : okC x ρ m = some (c, v, ρ', m')) : ∃ ρr', okC x ρr m = some (c, v, ρr', m') ∧ Alike ρ ρ' ρr ρr' := by
  cases x with
  | none => cases h
  | some x =>
    obtain ⟨x1, x2⟩ := x
    simp only [okC, Option.some.injEq, Prod.mk.injEq] at h
    obtain ⟨rfl, rfl, rfl, rfl⟩ := h
    exact ⟨ρr, rfl, .inl ⟨rfl, rfl⟩⟩
theorem newB_alike {x : Option Blk} (h : newB x ρ m = some (c, v, ρ', m')) : ∃ ρr', newB x ρr m = some (c, v, ρr', m') ∧ Alike ρ ρ' ρr ρr' := by
  cases x with
  | none => cases h
  | some x =>
    simp only [newB, Option.some.injEq, Prod.mk.injEq] at h
    obtain ⟨rfl, rfl, rfl, rfl⟩ := h
    exact ⟨ρr, rfl, .inl ⟨rfl, rfl⟩⟩
theorem some_alike {c0 : Bool} {v0 : V} {m0 : Mem} (h : some (c0, v0, ρ, m0) = some (c, v, ρ', m')) : ∃ ρr', some (c0, v0, ρr, m0) = some (c, v, ρr', m') ∧ Alike ρ ρ' ρr ρr' := by
  simp only [Option.some.injEq, Prod.mk.injEq] at h
  obtain ⟨rfl, rfl, rfl, rfl⟩ := h
  exact ⟨ρr, rfl, .inl ⟨rfl, rfl⟩⟩
theorem appendC_alike {e : TypeId} {z : List Value} {s : V} {xs : List Col} {n2 : Nat} (h : appendC P e z ρ m s xs n2 = some (c, v, ρ', m')) : ∃ ρr', appendC P e z ρr m s xs n2 = some (c, v, ρr', m') ∧ Alike ρ ρ' ρr ρr' := by
  unfold appendC at h ⊢
  by_cases hlen : (decide (z.length = xs.length) && (decide (0 < z.length) && xs.all Col.plain)) = true
  · simp only [hlen, if_true] at h ⊢
    cases s with
    | nils => exact some_alike h
    | sl k row len cap =>
      cases cap with
      | some cp =>
        simp only at h ⊢
        cases ho : srcCols m (.sl k row len none) with
        | none => rw [ho] at h; cases h
        | some olds =>
          rw [ho] at h
          simp only at h ⊢
          cases hzp : zipApp olds xs with
          | none => rw [hzp] at h; cases h
          | some cs => rw [hzp] at h; exact some_alike h
      | none =>
        cases row with
        | succ r => cases h
        | zero =>
          simp only at h ⊢
          generalize (if (m.getD k default).et = e then (match len with | none => zipApp (m.getD k default).cols xs | some n => zipOver n (m.getD k default).cols xs) else none) = Z at h ⊢
          cases hro : (m.getD k default).ro with
          | true => rw [hro] at h; cases h
          | false =>
            rw [hro] at h
            cases Z with
            | none => cases h
            | some cs =>
              simp only [Option.some.injEq, Prod.mk.injEq] at h ⊢
              obtain ⟨rfl, rfl, rfl, rfl⟩ := h
              exact ⟨_, ⟨rfl, rfl, rfl, rfl⟩, .inr ⟨k, rfl, rfl⟩⟩
    | _ => cases h
  · simp only [hlen] at h; cases h
theorem appendV_alike {st : TypeId} {s x : V} (h : appendV P st ρ m s x = some (c, v, ρ', m')) : ∃ ρr', appendV P st ρr m s x = some (c, v, ρr', m') ∧ Alike ρ ρ' ρr ρr' := by
  unfold appendV at h ⊢
  cases he : elemT P st with
  | none => rw [he] at h; cases h
  | some e =>
    rw [he] at h
    simp only at h ⊢
    cases x with
    | nils =>
      simp only at h ⊢
      cases s <;> cases hz : sizeT P e <;> simp only [hz] at h ⊢ <;> first | exact okV_alike h | cases h
    | sl k2 row2 len2 cap2 =>
      simp only at h ⊢
      cases hx : srcCols m (.sl k2 row2 len2 cap2) with
      | none => rw [hx] at h; cases h
      | some xs =>
        cases hz : zeroCells P e with
        | none => rw [hx, hz] at h; cases h
        | some z =>
          rw [hx, hz] at h
          exact appendC_alike h
    | _ => cases h
theorem appendN_alike {st xt : TypeId} {s x : V} (h : appendN P st xt ρ m s x = some (c, v, ρ', m')) : ∃ ρr', appendN P st xt ρr m s x = some (c, v, ρr', m') ∧ Alike ρ ρ' ρr ρr' := by
  unfold appendN at h ⊢
  split at h
  · cases h
  · split at h
    · split at h
      · rename_i hok
        split at h
        · rename_i c0 r hc
          obtain ⟨v0, ρ0, m0⟩ := r
          obtain ⟨ρr', g1, g2⟩ := appendC_alike (ρr := ρr) hc
          simp only [Option.some.injEq, Prod.mk.injEq] at h
          obtain ⟨rfl, rfl, rfl, rfl⟩ := h
          refine ⟨ρr', ?_, g2⟩
          simp only [hok, if_true, g1]
        · cases h
      · cases h
    · exact appendC_alike h
    · cases h
theorem copyV_alike {d x : V} (h : copyV ρ m d x = some (c, v, ρ', m')) : ∃ ρr', copyV ρr m d x = some (c, v, ρr', m') ∧ Alike ρ ρ' ρr ρr' := by
  unfold copyV at h ⊢
  split at h
  · split at h
    · exact some_alike h
    · cases h
  · cases h
theorem makeSl_alike {t : TypeId} {l q : V} (h : makeSl P t ρ m l q = some (c, v, ρ', m')) : ∃ ρr', makeSl P t ρr m l q = some (c, v, ρr', m') ∧ Alike ρ ρ' ρr ρr' := by
  unfold makeSl at h ⊢
  split at h
  · rename_i e n cp he
    cases hz : zeroCells P e with
    | none => rw [hz] at h; cases h
    | some z =>
      rw [hz] at h
      simp only at h ⊢
      split at h
      · cases h
      · rename_i h1
        rw [if_neg h1]
        split at h
        · rename_i h2; rw [if_pos h2]; exact some_alike h
        · cases h
  · cases h
theorem biop_alike {b : Builtin} {ts : List TypeId} {args : List V} (h : biop P b ts ρ m args = some (c, v, ρ', m')) : ∃ ρr', biop P b ts ρr m args = some (c, v, ρr', m') ∧ Alike ρ ρ' ρr ρr' := by
  unfold biop at h ⊢
  split at h
  · split at h
    · exact okV_alike h
    · split at h
      · rename_i h1; rw [if_pos h1]; exact okV_alike h
      · cases h
    · exact okV_alike h
    · exact okV_alike h
    · cases h
  · split at h
    · rename_i h1; rw [if_pos h1]; exact appendV_alike h
    · rename_i h1; rw [if_neg h1]; exact appendN_alike h
  · split at h
    · split at h
      · exact copyV_alike h
      · cases h
    · cases h
  · split at h
    · rename_i h1; rw [if_pos h1]; exact okV_alike h
    · cases h
  · split at h
    · rename_i h1; rw [if_pos h1]; exact okV_alike h
    · cases h
  · cases h
theorem parts_eq {parts : Array (Nat × Operand)} (h : ∀ x ∈ (parts.toList.map (·.2)).toArray, opd ρ x = opd ρr x) : (parts.toList.map fun p => (p.1, opd ρ p.2)) = parts.toList.map fun p => (p.1, opd ρr p.2) :=
  List.map_congr_left fun p hp => by rw [h p.2 (by simp; exact ⟨p.1, by simpa using hp⟩)]
theorem optI_eq {x : Option Operand} (h : ∀ y ∈ x, opd ρ y = opd ρr y) : optI ρ x = optI ρr x := by
  cases x with
  | none => rfl
  | some y => simp only [optI, h y rfl]
theorem sop0_alike {o : Oper} (hx : ∀ x ∈ o.op.operands, opd ρ x = opd ρr x) (h : sop0 P o ρ m = some (c, v, ρ', m')) : ∃ ρr', sop0 P o ρr m = some (c, v, ρr', m') ∧ Alike ρ ρ' ρr ρr' := by
  unfold sop0 at h ⊢
  cases ho : o.op with
  | move x => simp only [ho] at h ⊢; rw [← hx x (by simp [ho, Op.operands])]; exact okV_alike h
  | assign x => simp only [ho] at h ⊢; rw [← hx x (by simp [ho, Op.operands])]; exact okV_alike h
  | alloc t =>
    simp only [ho] at h ⊢
    split at h
    · exact newB_alike h
    · cases h
  | box t x =>
    simp only [ho] at h ⊢
    rw [← hx x (by simp [ho, Op.operands])]
    split at h
    · split at h
      · rename_i h1; rw [if_pos h1]; exact newB_alike h
      · cases h
    · cases h
  | build t parts =>
    simp only [ho] at h ⊢
    rw [← parts_eq (by simpa [ho, Op.operands] using hx)]
    exact okO_alike h
  | buildSlice t n parts =>
    simp only [ho] at h ⊢
    rw [← parts_eq (by simpa [ho, Op.operands] using hx)]
    split at h
    · split at h
      · split at h
        · rename_i h1
          rw [if_pos h1]
          split at h
          · exact some_alike h
          · cases h
        · cases h
      · cases h
    · cases h
  | load t x => simp only [ho] at h ⊢; rw [← hx x (by simp [ho, Op.operands])]; exact okO_alike h
  | store t x y =>
    simp only [ho] at h ⊢
    rw [← hx x (by simp [ho, Op.operands]), ← hx y (by simp [ho, Op.operands])]
    split at h
    · exact some_alike h
    · cases h
  | nilCheck x =>
    simp only [ho] at h ⊢
    rw [← hx x (by simp [ho, Op.operands])]
    split at h
    · exact okV_alike h
    · exact okV_alike h
    · cases h
  | binOp op t x y u =>
    simp only [ho] at h ⊢
    rw [← hx x (by simp [ho, Op.operands]), ← hx y (by simp [ho, Op.operands])]
    exact okC_alike h
  | unOp op t x => simp only [ho] at h ⊢; rw [← hx x (by simp [ho, Op.operands])]; exact okO_alike h
  | convert s d x => simp only [ho] at h ⊢; rw [← hx x (by simp [ho, Op.operands])]; exact okO_alike h
  | makeInterface t x =>
    simp only [ho] at h ⊢
    rw [← hx x (by simp [ho, Op.operands])]
    split at h
    · cases h
    · exact okV_alike h
    · cases h
  | makeFunc f x y =>
    simp only [ho] at h ⊢
    rw [← List.map_congr_left (f := opd ρ) (g := opd ρr) (l := x.toList) fun z hz => hx z (by simp [ho, Op.operands, Array.mem_toList_iff.1 hz]),
      ← List.map_congr_left (f := opd ρ) (g := opd ρr) (l := y.toList) fun z hz => hx z (by simp [ho, Op.operands, Array.mem_toList_iff.1 hz])]
    exact okV_alike h
  | makeSlice t x y =>
    simp only [ho] at h ⊢
    rw [← hx x (by simp [ho, Op.operands]), ← hx y (by simp [ho, Op.operands])]
    exact makeSl_alike h
  | slice t x lo hi mx =>
    simp only [ho] at h ⊢
    rw [← hx x (by simp [ho, Op.operands]), ← optI_eq (x := lo) (fun y hy => hx y (by have hy' : lo = some y := hy; simp [ho, Op.operands, hy'])), ← optI_eq (x := hi) (fun y hy => hx y (by have hy' : hi = some y := hy; simp [ho, Op.operands, hy'])),
      ← optI_eq (x := mx) (fun y hy => hx y (by have hy' : mx = some y := hy; simp [ho, Op.operands, hy']))]
    split at h
    · split at h
      · split at h
        · split at h
          · rename_i h1; rw [if_pos h1]; exact some_alike h
          · cases h
        · cases h
      · split at h
        · exact some_alike h
        · cases h
      · split at h
        · exact some_alike h
        · cases h
      · split at h
        · split at h
          · rename_i h1; rw [if_pos h1]; exact some_alike h
          · cases h
        · cases h
      · cases h
    · cases h
  | fieldAddr t x f =>
    simp only [ho] at h ⊢
    rw [← hx x (by simp [ho, Op.operands])]
    split at h
    · split at h
      · exact okV_alike h
      · cases h
    · cases h
  | field t x f =>
    simp only [ho] at h ⊢
    rw [← hx x (by simp [ho, Op.operands])]
    split at h
    · exact okO_alike h
    · cases h
  | indexAddr t x y =>
    simp only [ho] at h ⊢
    rw [← hx x (by simp [ho, Op.operands]), ← hx y (by simp [ho, Op.operands])]
    split at h
    · exact okC_alike h
    · cases h
  | index t x y =>
    simp only [ho] at h ⊢
    rw [← hx x (by simp [ho, Op.operands]), ← hx y (by simp [ho, Op.operands])]
    split at h
    · exact okC_alike h
    · cases h
  | extract x i =>
    simp only [ho] at h ⊢
    rw [← hx x (by simp [ho, Op.operands])]
    split at h
    · exact okO_alike h
    · cases h
  | call cc =>
    simp only [ho] at h ⊢
    rw [← List.map_congr_left (f := opd ρ) (g := opd ρr) (l := cc.args.toList) fun z hz => hx z (by simp [ho, Op.operands, Call.operands, Array.mem_toList_iff.1 hz])]
    split at h
    · exact biop_alike h
    · cases h
  | _ => simp only [ho] at h; cases h
theorem sop_alike {o : Oper} (hx : ∀ x ∈ o.op.operands, opd ρ x = opd ρr x) (h : sop P o ρ m = some (c, v, ρ', m')) : ∃ ρr', sop P o ρr m = some (c, v, ρr', m') ∧ Alike ρ ρ' ρr ρr' := by
  have hl : o.op.operands.toList.map (opd ρ) = o.op.operands.toList.map (opd ρr) := List.map_congr_left fun x hm => hx x (by simpa using hm)
  unfold sop at h ⊢
  cases hs : sop0 P o ρ m with
  | some r =>
    rw [hs] at h
    obtain rfl := Option.some.inj h
    obtain ⟨ρr', g1, g2⟩ := sop0_alike hx hs
    exact ⟨ρr', by rw [g1], g2⟩
  | none =>
    rw [hs] at h
    cases hr : sop0 P o ρr m with
    | some r =>
      obtain ⟨c1, v1, ρ1, m1⟩ := r
      obtain ⟨ρ2, g1, _⟩ := sop0_alike (ρr := ρ) (fun x hm => (hx x hm).symm) hr
      rw [hs] at g1; cases g1
    | none =>
      simp only [hl] at h ⊢
      split at h
      · exact some_alike h
      · cases h
theorem xop_pure {o : Oper} (hp : pureOp o = true) {vs : List V} (h : xop P o vs m = some (c, v, m')) : m' = m := by
  unfold xop at h
  unfold pureOp at hp
  split at h
  · split at h
    · rename_i c0 ho _ b hb
      simp only [ho, hb] at hp
      have hb' : b = .len ∨ b = .min ∨ b = .max ∨ b = .cap ∨ b = .unsafeSliceData := by cases b <;> simp at hp ⊢
      rcases hb' with rfl | rfl | rfl | rfl | rfl
      all_goals
        simp only [xbi, xlen] at h
        (repeat' split at h) <;> first | (simp only [Option.some.injEq, Prod.mk.injEq] at h; exact h.2.2.symm) | contradiction | cases h
    · cases h
  · (repeat' split at h) <;> first | (simp only [Option.some.injEq, Prod.mk.injEq] at h; exact h.2.2.symm) | cases h
  · (repeat' split at h) <;> first | (simp only [Option.some.injEq, Prod.mk.injEq] at h; exact h.2.2.symm) | cases h
  · unfold xmap at h
    split at h
    all_goals first
      | (cases h; done)
      | (rename_i ho; simp [ho] at hp; done)
      | (split at h
         · simp only [Option.some.injEq, Prod.mk.injEq] at h; exact h.2.2.symm
         · cases h)
/-- An operation that changes nothing. -/
theorem sop0_pure {o : Oper} (hp : pureOp o = true) (h : sop0 P o ρ m = some (c, v, ρ', m')) : ρ' = ρ ∧ m' = m := by
  have hV : ∀ {x : V}, okV x ρ m = some (c, v, ρ', m') → ρ' = ρ ∧ m' = m := fun h => by
    simp only [okV, Option.some.injEq, Prod.mk.injEq] at h; exact ⟨h.2.2.1.symm, h.2.2.2.symm⟩
  have hO : ∀ {x : Option V}, okO x ρ m = some (c, v, ρ', m') → ρ' = ρ ∧ m' = m := fun {x} h => by
    cases x with
    | none => cases h
    | some x => simp only [okO, Option.some.injEq, Prod.mk.injEq] at h; exact ⟨h.2.2.1.symm, h.2.2.2.symm⟩
  have hC : ∀ {x : Option (Bool × V)}, okC x ρ m = some (c, v, ρ', m') → ρ' = ρ ∧ m' = m := fun {x} h => by
    cases x with
    | none => cases h
    | some x => simp only [okC, Option.some.injEq, Prod.mk.injEq] at h; exact ⟨h.2.2.1.symm, h.2.2.2.symm⟩
  have hS : ∀ {c0 : Bool} {v0 : V}, some (c0, v0, ρ, m) = some (c, v, ρ', m') → ρ' = ρ ∧ m' = m := fun h => by
    simp only [Option.some.injEq, Prod.mk.injEq] at h; exact ⟨h.2.2.1.symm, h.2.2.2.symm⟩
  unfold sop0 at h
  unfold pureOp at hp
  cases ho : o.op with
  | call cc =>
    simp only [ho] at h hp
    split at h
    · rename_i b hb
      rw [hb] at hp
      have hb' : b = .len ∨ b = .min ∨ b = .max ∨ b = .cap ∨ b = .unsafeSliceData := by cases b <;> simp at hp ⊢
      rcases hb' with rfl | rfl | rfl | rfl | rfl
      · simp only [biop] at h
        (repeat' split at h) <;> first | exact hV h | contradiction | cases h
      · simp only [biop] at h
        (repeat' split at h) <;> first | exact hV h | contradiction | cases h
      · simp only [biop] at h
        (repeat' split at h) <;> first | exact hV h | contradiction | cases h
      · simp [biop] at h
      · simp [biop] at h
    · cases h
  | _ =>
    simp only [ho] at h hp
    first
    | (cases hp; done)
    | exact hV h
    | exact hO h
    | exact hC h
    | ((repeat' split at h) <;> first | exact hV h | exact hO h | exact hC h | exact hS h | cases h)
theorem sop_pure {o : Oper} (hp : pureOp o = true) (h : sop P o ρ m = some (c, v, ρ', m')) : ρ' = ρ ∧ m' = m := by
  unfold sop at h
  split at h
  · rename_i r hr
    obtain rfl := Option.some.inj h
    exact sop0_pure hp hr
  · split at h
    · rename_i hx
      simp only [Option.some.injEq, Prod.mk.injEq] at h
      obtain ⟨rfl, rfl, rfl, rfl⟩ := h
      exact ⟨rfl, xop_pure hp hx⟩
    · cases h
/-- One that lays a new block: what it leaves. -/
theorem free_shape {o : Oper} (hf : freeOp o = true) (h : sop P o ρ m = some (c, v, ρ', m')) : ρ' = ρ ∧ ∃ b, m' = m ++ [b] := by
  have hN : ∀ {b : Option Blk}, newB b ρ m = some (c, v, ρ', m') → ρ' = ρ ∧ ∃ b, m' = m ++ [b] := fun {b} h => by
    cases b with
    | none => cases h
    | some b => simp only [newB, Option.some.injEq, Prod.mk.injEq] at h; exact ⟨h.2.2.1.symm, b, h.2.2.2.symm⟩
  have hS : ∀ {c0 : Bool} {v0 : V} {b : Blk}, some (c0, v0, ρ, m ++ [b]) = some (c, v, ρ', m') → ρ' = ρ ∧ ∃ b, m' = m ++ [b] := fun {c0 v0 b} h => by
    simp only [Option.some.injEq, Prod.mk.injEq] at h; exact ⟨h.2.2.1.symm, b, h.2.2.2.symm⟩
  unfold sop at h
  split at h
  · rename_i r hr
    obtain rfl := Option.some.inj h
    unfold sop0 at hr
    unfold freeOp at hf
    cases ho : o.op <;> simp only [ho] at hr hf <;> first
    | (cases hf; done)
    | skip
    · split at hr
      · exact hN hr
      · cases hr
    · (repeat' split at hr) <;> first | exact hN hr | cases hr
    · (repeat' split at hr) <;> first | exact hS hr | cases hr
    · cases hr
    · cases hr
    · unfold makeSl at hr
      (repeat' split at hr) <;> first | exact hS hr | cases hr
  · split at h
    · rename_i c0 v0 m0 hx
      simp only [Option.some.injEq, Prod.mk.injEq] at h
      obtain ⟨rfl, rfl, rfl, rfl⟩ := h
      unfold xop at hx
      unfold freeOp at hf
      cases ho : o.op <;> simp only [ho] at hx hf <;> first | (cases hf; done) | skip
      all_goals
        unfold xmap at hx
        (repeat' split at hx) <;> first | (simp only [Option.some.injEq, Prod.mk.injEq] at hx; exact ⟨rfl, _, hx.2.2.symm⟩) | (cases hx; done) | (unfold makeChV at hx; (repeat' split at hx) <;> first | (simp only [Option.some.injEq, Prod.mk.injEq] at hx; exact ⟨rfl, _, hx.2.2.symm⟩) | (cases hx; done)) | skip
      all_goals (simp_all; done)
    · cases h
end
end Go.Ab
