import Derived.Test.YtaajhdkngiemlaaDoorFrm1
import Derived.Test.YtaajhdkngiemlaaDoorFrmV
import Derived.Test.YtaajhdkngiemlaaDoorFrmU
import Derived.Test.YtaajhdkngiemlaaDoorFrmNa
import Derived.Test.YtaajhdkngiemlaaDoorFrmNc
set_option linter.unusedVariables false
set_option linter.unusedSimpArgs false
set_option maxHeartbeats 4000000
set_option maxRecDepth 100000
namespace Go.Proofs.YtaajhdkngiemlaaDoor.frm
open Go Go.Ab
theorem knows_run (K : V → Mem → Prop) : cbody Tryd.prog C0 (fun _ => none) 1000 (fnOf Tryd.prog 11) [] [] K = K (.B true) [] := by kernel_rfl
theorem at11 : Tryd.prog.funcs[11]? = some (fnOf Tryd.prog 11) := by kernel_rfl
def P11 : Prim := fun args m K => seeNil args False (seeNil m False (K (.B true) []))
theorem P11_ok : PrimOk Tryd.prog 11 P11 := by
  intro args m K E w cargs hS ha h
  unfold P11 at h
  replace h := seeNil_use h
  rcases h with h | ⟨rfl, h⟩
  · exact h.elim
  replace h := seeNil_use h
  rcases h with h | ⟨rfl, h⟩
  · exact h.elim
  exact cbody_use named C0_ok at11 (l := 0) rfl (LoopsOk.none _ _) (knows_run K) hS ha h
def primsb : Prims := fun f =>
  match Nat.beq f 14 with
  | true => some P14
  | false =>   match Nat.beq f 16 with
  | true => some P16
  | false =>   match Nat.beq f 18 with
  | true => some P18
  | false =>   match Nat.beq f 20 with
  | true => some P20
  | false =>   match Nat.beq f 11 with
  | true => some P11
  | false => prims0 f
theorem primsb_ok : PrimsOk Tryd.prog primsb := by
  intro f g hg
  unfold primsb at hg
  split at hg
  · rename_i hf
    obtain rfl := Nat.eq_of_beq_eq_true hf
    cases hg
    exact P14_ok
  · skip
    split at hg
    · rename_i hf
      obtain rfl := Nat.eq_of_beq_eq_true hf
      cases hg
      exact P16_ok
    · skip
      split at hg
      · rename_i hf
        obtain rfl := Nat.eq_of_beq_eq_true hf
        cases hg
        exact P18_ok
      · skip
        split at hg
        · rename_i hf
          obtain rfl := Nat.eq_of_beq_eq_true hf
          cases hg
          exact P20_ok
        · skip
          split at hg
          · rename_i hf
            obtain rfl := Nat.eq_of_beq_eq_true hf
            cases hg
            exact P11_ok
          · skip
            exact prims0_ok f g hg
def Cb : CC := call Tryd.prog primsb 1000
theorem Cb_ok : CallsOk Tryd.prog Cb := call_sound named primsb_ok 1000
theorem at6 : Tryd.prog.funcs[6]? = some (fnOf Tryd.prog 6) := by kernel_rfl
def F6 (op sz cd r : Int) (k1 : Prop) (k2 : Prop) : Prop :=
  (bif (!((nameI op sz cd) == ([] : List Int))) then (bif (!(getT tab (nameI op sz cd)).2.2.2) then (k1) else (bif ((getT tab (nameI op sz cd)).1 != op) then (k1) else (bif ((getT tab (nameI op sz cd)).2.1 != sz) then (k1) else (bif ((getT tab (nameI op sz cd)).2.2.1 != cd) then (k1) else (bif ((regI r sz) == ([] : List Int)) then (k2) else (bif (getN regT (regI r sz)).2.2 then (bif ((getN regT (regI r sz)).1 == r) then (bif ((getN regT (regI r sz)).2.1 == sz) then (k2) else (k1)) else (k1)) else (k1))))))) else (bif ((regI r sz) == ([] : List Int)) then (k2) else (bif (getN regT (regI r sz)).2.2 then (bif ((getN regT (regI r sz)).1 == r) then (bif ((getN regT (regI r sz)).2.1 == sz) then (k2) else (k1)) else (k1)) else (k1))))
theorem F6_ok (op sz cd r : Int) (K : V → Mem → Prop) : cbody Tryd.prog Cb (fun _ => none) 1000 (fnOf Tryd.prog 6) [.I .i64 op, .I .i64 sz, .I .i64 cd, .I .i64 r] [] K = F6 op sz cd r (K (.B false) []) (K (.B true) []) := by kernel_rfl
theorem nmO_back : (List.range 36).all (fun i => (nmO.getD i []).all (fun e => getT tab e.1 == ((i : Int), e.2.1, e.2.2, true))) = true := by kernel_rfl
theorem nmR_mem {s c : Int} : ∀ {es : List (List Int × Int × Int)}, nmR es s c = [] ∨ ∃ e ∈ es, nmR es s c = e.1 ∧ e.2.1 = s ∧ e.2.2 = c
  | [] => .inl rfl
  | e :: es => by
    unfold nmR
    cases hb : (s == e.2.1 && c == e.2.2) with
    | true =>
      simp only [Bool.and_eq_true, beq_iff_eq] at hb
      exact .inr ⟨e, by simp, rfl, hb.1.symm, hb.2.symm⟩
    | false =>
      rcases nmR_mem (es := es) with h | ⟨e', h1, h2⟩
      · exact .inl h
      · exact .inr ⟨e', by simp [h1], h2⟩
theorem name_back (op sz cd : Int) : nameI op sz cd = [] ∨ getT tab (nameI op sz cd) = (op, sz, cd, true) := by
  by_cases hx : op < 1 ∨ op > 35 ∨ cd < 0 ∨ cd > 15
  · exact .inl (nameI_out hx)
  · rcases nmR_mem (s := sz) (c := cd) (es := nmO.getD op.toNat []) with h | ⟨e, h1, h2, h3, h4⟩
    · exact .inl h
    · right
      have hn : nameI op sz cd = e.1 := h2
      have := List.all_eq_true.1 nmO_back op.toNat (by rw [List.mem_range]; omega)
      have := List.all_eq_true.1 this e h1
      rw [beq_iff_eq] at this
      rw [hn, this, h3, h4]
      congr 1
      omega
theorem rgO_back : (List.range 17).all (fun i => (rgO.getD i []).all (fun e => getN regT e.1 == ((i : Int) - 1, e.2, true))) = true := by kernel_rfl
theorem rgR_mem {s : Int} : ∀ {es : List (List Int × Int)}, rgR es s = [] ∨ ∃ e ∈ es, rgR es s = e.1 ∧ e.2 = s
  | [] => .inl rfl
  | e :: es => by
    unfold rgR
    cases hb : (s == e.2) with
    | true =>
      rw [beq_iff_eq] at hb
      exact .inr ⟨e, by simp, rfl, hb.symm⟩
    | false =>
      rcases rgR_mem (es := es) with h | ⟨e', h1, h2⟩
      · exact .inl h
      · exact .inr ⟨e', by simp [h1], h2⟩
theorem reg_back (r sz : Int) : regI r sz = [] ∨ getN regT (regI r sz) = (r, sz, true) := by
  by_cases hx : r < 0 ∨ r > 15
  · exact .inl (regI_out hx)
  · rcases rgR_mem (s := sz) (es := rgO.getD (r + 1).toNat []) with h | ⟨e, h1, h2, h3⟩
    · exact .inl h
    · right
      have hn : regI r sz = e.1 := h2
      have := List.all_eq_true.1 rgO_back (r + 1).toNat (by rw [List.mem_range]; omega)
      have := List.all_eq_true.1 this e h1
      rw [beq_iff_eq] at this
      rw [hn, this, h3]
      congr 1
      omega
theorem h6 (op sz cd r : Int) (K : V → Mem → Prop) (h : K (.B true) []) : F6 op sz cd r (K (.B false) []) (K (.B true) []) := by
  unfold F6
  rcases name_back op sz cd with hn | hn <;> rcases reg_back r sz with hr | hr <;> simp [hn, hr, h, bne]
end Go.Proofs.YtaajhdkngiemlaaDoor.frm
