/-
  'gangwaylaw20.RelocValues' returns true for every input, and leaves what it was handed as it was. No condition.
-/
import Derived.Test.YtnndiicpiolddaaVal2
import Derived.Test.YtnndiicpiolddaaRows
import Derived.WalkKit
import Derived.ProofKit
import Derived.OpenShut
import Derived.ChangeMaps5
import Derived.JoinedCond
import Derived.Test.YtnndiicpiolddaaAbLaw
namespace Go.Proofs.Ytnndiicpiolddaa.relocValues
open Go.ChangeMaps Go.ChangeShapes Go.WideShapes Go.ChangeAt Go.RowKit Go.Ab
set_option linter.unusedVariables false
theorem own : ownKnob Try.prog.godebug = none := by kernel_rfl
theorem kids : Kids Try.prog (· < Try.prog.types.size) := kids_rows (by kernel_rfl) (by kernel_rfl)
theorem full : ∀ t e, t < Try.prog.types.size → Try.prog.underlying t = some (.slice e) → 0 < Try.prog.cellsOf e := slices_full_of _ (by kernel_rfl)
theorem walk (w : World) (a0 : Int) (w0 : (Lit.int .i64 a0).wf = true) (z1_0 z1_1 z1_2 z1_3 z1_4 : Int) (w1 : ∀ n ∈ [z1_0, z1_1, z1_2, z1_3, z1_4], inR .i64 n = true) (a2 : Int) (w2 : (Lit.int .i64 a2).wf = true) :
    Calls Try.prog 9 #[.int .i64 a0, .agg #[.int .i64 z1_0, .int .i64 z1_1, .int .i64 z1_2, .int .i64 z1_3, .int .i64 z1_4], .int .i64 a2] w (Held w) := by
  have hn : val.T9 val.G9 val.C0 9 [.I .i64 a0, .agg [.I .i64 z1_0, .I .i64 z1_1, .I .i64 z1_2, .I .i64 z1_3, .I .i64 z1_4], .I .i64 a2] [] (fun v _ => v = .B true) := by
    have e : ∀ K : V → Mem → Prop, val.T9 val.G9 val.C0 9 [.I .i64 a0, .agg [.I .i64 z1_0, .I .i64 z1_1, .I .i64 z1_2, .I .i64 z1_3, .I .i64 z1_4], .I .i64 a2] [] K = val.G9 a0 z1_0 z1_1 z1_2 z1_3 z1_4 a2 (K (.B true) []) (K (.B false) []) := fun K => by kernel_rfl
    rw [e]
    exact val.g9 rfl
  refine (val.T9_ok val.C0_ok 9 _ _ _ (fun k => ([] : List BE)[k]?) w _ (sim_ro _ ?_) ?_ hn).2.mono fun e w' h => h.held (by simp)
  · intro k e he
    simp at he
  · simp only [VsRel, VRel]
    refine ⟨_, _, rfl, ⟨rfl, by simpa [inR, Lit.wf] using w0⟩, _, _, rfl, ⟨_, rfl, ⟨_, _, rfl, ⟨rfl, w1 _ (by simp)⟩, _, _, rfl, ⟨rfl, w1 _ (by simp)⟩, _, _, rfl, ⟨rfl, w1 _ (by simp)⟩, _, _, rfl, ⟨rfl, w1 _ (by simp)⟩, _, _, rfl, ⟨rfl, w1 _ (by simp)⟩, rfl⟩, by simp [Value.oneCell']⟩, _, _, rfl, ⟨rfl, by simpa [inR, Lit.wf] using w2⟩, rfl⟩
set_option maxRecDepth 100000 in
theorem contract (H : Type) (enc : TypeId × Value → H) (W : World) (base : Nat) (args : Array Value) (ds gs : List (DataW H)) (before : List MemPlace)
    (hval0 : ∀ (j : Nat) t v, Try.f9.params[j]? = some t → args[j]? = some v → Value.okWide Try.prog W .any base t v)
    (hW : DataW.Whole enc Try.prog Try.f9.params.toList Rows.relocValuesSpec.vars false W args.toList ds gs before) :
    Calls Try.prog 9 args W fun e W' => ∃ v, e = .returned v ∧ Rows.relocValuesSpec.post enc Try.prog Try.f9 false true false false W args v W' := by
  have hval : ∀ (j : Nat) t v, Try.f9.params[j]? = some t → args[j]? = some v → Value.okWide Try.prog W .any base t v := hval0
  have hW' := hW
  obtain ⟨p, q, hA0, hV, rfl, hfz, hnd⟩ := hW
  have hA : DataW.TrodAll enc Try.prog W 0 (fun _ => true) true Try.f9.params.toList args.toList ds p := hA0
  have hlt : ∀ x ∈ p, x.block < W.heap.size := hA0.lt
  rw [Try.params9] at hA hval
  obtain ⟨v0, vs0, d0, ds0, p0, q0, hargs, rfl, rfl, h0, r0⟩ := trodAll_cons hA
  obtain ⟨v1, vs1, d1, ds1, p1, q1, rfl, rfl, rfl, h1, r1⟩ := trodAll_cons r0
  obtain ⟨v2, vs2, d2, ds2, p2, q2, rfl, rfl, rfl, h2, r2⟩ := trodAll_cons r1
  obtain ⟨rfl, rfl, rfl⟩ := trodAll_nil r2
  obtain rfl : args = #[v0, v1, v2] := by cases args; simp_all
  obtain ⟨rfl, rfl⟩ := trodVars_none hV
  obtain ⟨a0, rfl, rfl, rfl, w0⟩ := open_int Try.underlying3 (hval 0 3 v0 rfl rfl) h0
  obtain ⟨ns1, rfl, hl1, w1⟩ := open_numstruct Try.underlying55 (ts := [3, 3, 3, 3, 3]) (by kernel_rfl) (by kernel_rfl) (by intro u hu; simp at hu; subst hu; exact Try.underlying3) (hval 1 55 v1 rfl rfl)
  obtain ⟨z1_0, z1_1, z1_2, z1_3, z1_4, rfl⟩ : ∃ z1_0 z1_1 z1_2 z1_3 z1_4, ns1 = [z1_0, z1_1, z1_2, z1_3, z1_4] := by
    match ns1, hl1 with
    | [z1_0, z1_1, z1_2, z1_3, z1_4], _ => exact ⟨z1_0, z1_1, z1_2, z1_3, z1_4, rfl⟩
  obtain ⟨a2, rfl, rfl, rfl, w2⟩ := open_int Try.underlying3 (hval 2 3 v2 rfl rfl) h2
  clear hval0
  refine (walk W a0 w0 z1_0 z1_1 z1_2 z1_3 z1_4 w1 a2 w2).mono fun e W' ⟨he, hg, hold⟩ => ?_
  subst he
  exact ⟨_, rfl, post_of_same (pv := []) hW' (fun _ _ _ => (trodAll_cons_mk (shut_bool Try.underlying4 _) trodAll_mk0)) (fun sp hsp => DataW.TrodAll.respare kids full (by rw [Try.params9]; decide) (trodAll_grown hold hA0 hlt) (fun x hx => hsp x (by simpa using hx))) (fun _ _ => rfl) (by simp)
    (hg.frame _) hg.2.1 (ok_one (by kernel_rfl) rfl (okWide_bool_mk Try.underlying4 _))⟩
set_option maxRecDepth 100000 in
theorem lifted (os : Os) (started : os.Started) (H : Type) (enc : TypeId × Value → H) :
    ReturnsInHanded {} Try.checked os 9 .any (Rows.relocValuesSpec.pre6 enc Try.prog Try.f9 Rows.relocValuesRow.domain false) (Rows.relocValuesSpec.post enc Try.prog Try.f9 false true false false) := by
  refine returnsInHanded_of_change (C := Try.checked) own started (by kernel_rfl) Try.func9
    (ChangeSpec.witness6 (enc := enc) (C := Try.checked) false ⟨#[], #[.int .i64 0, .agg #[.int .i64 0, .int .i64 0, .int .i64 0, .int .i64 0, .int .i64 0], .int .i64 0], []⟩ 8 (by kernel_rfl) (by kernel_rfl) (by kernel_rfl) (by kernel_rfl)) ?_
  intro W base args ds gs before hval hW hcnd _
  exact contract H enc W base args ds gs before hval hW
theorem over : Rows.relocValuesRow.holds Try.pinned (OpenSpec.ofChange Rows.relocValuesSpec) :=
  OpenClaim.holds_of_wide 9 Try.f9 rfl rfl rfl rfl rfl rfl rfl ⟨rfl, rfl, rfl, rfl, rfl⟩ rfl rfl rfl rfl rfl (by kernel_rfl) Try.func9 (by kernel_rfl)
    (of_decide_eq_true (by kernel_rfl)) (by unfold Func.isWrapper; first | (rw [if_pos (by decide +kernel)]; kernel_rfl) | (rw [if_neg (by decide +kernel)]; exact ⟨rfl, rfl⟩))
    (fun os started H enc _ => lifted os started H enc)
theorem proved : Rows.RelocValuesSaid := over
#print axioms proved
end Go.Proofs.Ytnndiicpiolddaa.relocValues
namespace Go.Proofs.Ytnndiicpiolddaa
theorem relocValues_holds : Rows.RelocValuesSaid := relocValues.proved
end Go.Proofs.Ytnndiicpiolddaa
