/-
  'gangwaylaw21.TlsCodes' returns true for every input, and leaves what it was handed as it was. No condition.
-/
import Derived.Test.YtnndiicpiolddaaRows
import Derived.WalkKit
import Derived.ProofKit
import Derived.OpenShut
import Derived.ChangeMaps5
import Derived.Test.YtnndiicpiolddaaAbLaw
import Derived.Test.YtnndiicpiolddaaCodes2
namespace Go.Proofs.Ytnndiicpiolddaa.tlsCodes
open Go.ChangeMaps Go.ChangeShapes Go.WideShapes Go.ChangeAt Go.RowKit Go.Ab
set_option linter.unusedVariables false
theorem own : ownKnob Try.prog.godebug = none := by kernel_rfl
theorem kids : Kids Try.prog (· < Try.prog.types.size) := kids_rows (by kernel_rfl) (by kernel_rfl)
theorem full : ∀ t e, t < Try.prog.types.size → Try.prog.underlying t = some (.slice e) → 0 < Try.prog.cellsOf e := slices_full_of _ (by kernel_rfl)
theorem walk (a0 a1 : Int) (s : ByteArray) (w0 : (Lit.int .i64 a0).wf = true) (w1 : (Lit.int .i64 a1).wf = true) (w2 : s.size ≤ maxLen) (w : World) :
    Calls Try.prog 3 #[.int .i64 a0, .int .i64 a1, .string s] w (Held w) := by
  have hn : codes.T3 codes.G3 codes.C0 3 [.I .i64 a0, .I .i64 a1, .S (bytesI s)] [] (fun v _ => v = .B true) := by
    have h := codes.G3_true a0 a1 (bytesI s)
    have hf : (fun b : Bool => b = true) = fun u0 : Bool => V.B u0 = .B true := funext fun b => propext ⟨fun h => by rw [h], fun h => by injection h⟩
    rw [hf] at h
    exact h
  refine (codes.T3_ok codes.C0_ok 3 _ [] _ (fun _ => none) w _ ⟨by simp, by simp⟩ ?_ hn).2.mono fun e w' h => h.held (by simp)
  simp only [VsRel, VRel]
  refine ⟨_, _, rfl, ⟨rfl, by simpa [inR, Lit.wf] using w0⟩, _, _, rfl, ⟨rfl, by simpa [inR, Lit.wf] using w1⟩, _, _, rfl, ⟨s, rfl, rfl, by simpa [maxLen] using w2⟩, rfl⟩
set_option maxRecDepth 100000 in
theorem lifted (os : Os) (started : os.Started) (H : Type) (enc : TypeId × Value → H) :
    ReturnsInHanded {} Try.checked os 3 .any (Rows.tlsCodesSpec.pre6 enc Try.prog Try.f3 Rows.tlsCodesRow.domain false) (Rows.tlsCodesSpec.post enc Try.prog Try.f3 false true false false) := by
  refine returnsInHanded_of_change (C := Try.checked) own started (by kernel_rfl) Try.func3
    (ChangeSpec.witness6 (enc := enc) (C := Try.checked) false ⟨#[], #[.int .i64 0, .int .i64 0, .string .empty], []⟩ 8 (by kernel_rfl) (by kernel_rfl) (by kernel_rfl) (by kernel_rfl)) ?_
  intro W base args ds gs before hval0 hW hcnd _
  have hval : ∀ (j : Nat) t v, Try.f3.params[j]? = some t → args[j]? = some v → Value.okWide Try.prog W .any base t v := hval0
  have hW' := hW
  obtain ⟨p, q, hA0, hV, rfl, hfz, hnd⟩ := hW
  have hA : DataW.TrodAll enc Try.prog W 0 (fun _ => true) true Try.f3.params.toList args.toList ds p := hA0
  have hlt : ∀ x ∈ p, x.block < W.heap.size := hA0.lt
  rw [Try.params3] at hA hval
  obtain ⟨v0, vs0, d0, ds0, p0, q0, hargs, rfl, rfl, h0, r0⟩ := trodAll_cons hA
  obtain ⟨v1, vs1, d1, ds1, p1, q1, rfl, rfl, rfl, h1, r1⟩ := trodAll_cons r0
  obtain ⟨v2, vs2, d2, ds2, p2, q2, rfl, rfl, rfl, h2, r2⟩ := trodAll_cons r1
  obtain ⟨rfl, rfl, rfl⟩ := trodAll_nil r2
  obtain rfl : args = #[v0, v1, v2] := by cases args; simp_all
  obtain ⟨rfl, rfl⟩ := trodVars_none hV
  obtain ⟨a0, rfl, rfl, rfl, w0⟩ := open_int Try.underlying3 (hval 0 3 v0 rfl rfl) h0
  obtain ⟨a1, rfl, rfl, rfl, w1⟩ := open_int Try.underlying3 (hval 1 3 v1 rfl rfl) h1
  obtain ⟨s2, rfl, rfl, rfl, w2⟩ := open_string Try.underlying9 (hval 2 9 v2 rfl rfl) h2
  clear hval0
  refine (walk a0 a1 s2 w0 w1 w2 W).mono fun e W' ⟨he, hg, hold⟩ => ?_
  subst he
  exact ⟨_, rfl, post_of_same (pv := []) hW' (fun _ _ _ => (trodAll_cons_mk (shut_bool Try.underlying4 _) trodAll_mk0)) (fun sp hsp => DataW.TrodAll.respare kids full (by rw [Try.params3]; decide) (trodAll_grown hold hA0 hlt) (fun x hx => hsp x (by simp at hx))) (fun _ _ => rfl) rfl
    (hg.frame _) hg.2.1 (ok_one (by kernel_rfl) rfl (okWide_bool_mk Try.underlying4 _))⟩
theorem over : Rows.tlsCodesRow.holds Try.pinned (OpenSpec.ofChange Rows.tlsCodesSpec) :=
  OpenClaim.holds_of_wide 3 Try.f3 rfl rfl rfl rfl rfl rfl rfl ⟨rfl, rfl, rfl, rfl, rfl⟩ rfl rfl rfl rfl rfl (by kernel_rfl) Try.func3 (by kernel_rfl)
    (of_decide_eq_true (by kernel_rfl)) (by unfold Func.isWrapper; first | (rw [if_pos (by decide +kernel)]; kernel_rfl) | (rw [if_neg (by decide +kernel)]; exact ⟨rfl, rfl⟩))
    (fun os started H enc _ => lifted os started H enc)
theorem proved : Rows.TlsCodesSaid := over
#print axioms proved
end Go.Proofs.Ytnndiicpiolddaa.tlsCodes
namespace Go.Proofs.Ytnndiicpiolddaa
theorem tlsCodes_holds : Rows.TlsCodesSaid := tlsCodes.proved
end Go.Proofs.Ytnndiicpiolddaa
