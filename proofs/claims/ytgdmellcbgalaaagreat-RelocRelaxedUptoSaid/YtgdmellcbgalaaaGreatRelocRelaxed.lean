/-
  'gangwaylaw20.RelocRelaxed' returns true for every input of bulk at most 1048576, and leaves what it was handed as it was.
-/
import Derived.Test.YtgdmellcbgalaaaGreatRrQ
import Derived.Test.YtgdmellcbgalaaaGreatRows
import Derived.WalkKit
import Derived.ProofKit
import Derived.OpenShut
import Derived.ChangeMaps5
import Derived.JoinedCond
import Derived.Test.YtgdmellcbgalaaaGreatAbLaw
namespace Go.Proofs.YtgdmellcbgalaaaGreat.relocRelaxed
open Go.ChangeMaps Go.ChangeShapes Go.WideShapes Go.ChangeAt Go.RowKit Go.Ab
set_option linter.unusedVariables false
theorem own : ownKnob Tryz.prog.godebug = none := by kernel_rfl
theorem kids : Kids Tryz.prog (· < Tryz.prog.types.size) := kids_rows (by kernel_rfl) (by kernel_rfl)
theorem full : ∀ t e, t < Tryz.prog.types.size → Tryz.prog.underlying t = some (.slice e) → 0 < Tryz.prog.cellsOf e := slices_full_of _ (by kernel_rfl)
theorem walk (w : World) (v0 : Value) (xs0 : List Int) (be0 : BE) (hv0 : ∀ E j, E j = some be0 → VRel E (.sl j 0 none none) v0) (hr0 : ∀ E et, BlkRel E w ⟨[.ints .u8 xs0], et, true, false⟩ be0) (hx0 : ∀ n ∈ xs0, inR .u8 n = true) (a1 : Int) (w1 : (Lit.int .i64 a1).wf = true) (hb : xs0.length ≤ 1048576) :
    Calls Tryz.prog 3 #[v0, .int .i64 a1] w (Held w) := by
  have hb8 : ∀ x ∈ xs0, 0 ≤ x ∧ x ≤ 255 := by
    intro x hx
    have h := hx0 x hx
    simp [inR, IntKind.min, IntKind.max, IntKind.signed, IntKind.bits] at h
    omega
  have r1 : -9223372036854775808 ≤ a1 ∧ a1 ≤ 9223372036854775807 := by simpa [Lit.wf, IntKind.min, IntKind.max, IntKind.signed, IntKind.bits] using w1
  refine (calls_of rrx.named (by kernel_rfl) (cbody_use rrx.named rrx.C3_ok rrx.at3 (l := 1) rfl (LoopsOk.none _ _) (rrx.law_run xs0 a1 (fun v _ => v = .B true)) (E := fun k => ([be0] : List BE)[k]?) (w := w) (sim_ro _ ?_) ?_ (rrx.plain hb8 (by omega) r1 rfl))).mono fun e w' h => h.held (by simp)
  · intro k e he
    match k, he with
    | 0, he => cases he; exact ⟨_, rfl, rfl, fun E => hr0 E 5⟩
    | k + 1, he => simp at he
  · simp only [VsRel, VRel]
    refine ⟨_, _, rfl, by simpa only [VRel] using hv0 (fun k => [be0][k]?) 0 rfl, _, _, rfl, ⟨rfl, by simpa [inR, Lit.wf] using w1⟩, rfl⟩
theorem one_le {H : Type} (d : DataW H) : 1 ≤ Rows.uptoBulk d := by
  cases d with
  | lit l => cases l <;> simp [Rows.uptoBulk]
  | nil => simp [Rows.uptoBulk]
  | ptr d => simp [Rows.uptoBulk]
  | slice elems spare => simp [Rows.uptoBulk]
  | agg parts => simp [Rows.uptoBulk]
  | iface t d => simp [Rows.uptoBulk]
  | map entries => simp [Rows.uptoBulk]
  | held h => simp [Rows.uptoBulk]
theorem length_le {H : Type} (l : List (DataW H)) : l.length ≤ Rows.uptoBulkAll l := by
  induction l with
  | nil => simp [Rows.uptoBulkAll]
  | cons x r ih => have := one_le x; simp only [Rows.uptoBulkAll, List.length_cons]; omega
theorem slice_le {H : Type} (elems spare : List (DataW H)) : elems.length + spare.length + 1 ≤ Rows.uptoBulk (.slice elems spare) := by
  have h1 := length_le elems
  have h2 := length_le spare
  simp only [Rows.uptoBulk]
  omega
theorem bound {H : Type} {l : List (DataW H)} (hk : Rows.uptoSmall H l = true) : Rows.uptoBulkAll l ≤ 1048576 := of_decide_eq_true hk
set_option maxRecDepth 100000 in
theorem contract (H : Type) (enc : TypeId × Value → H) (W : World) (base : Nat) (args : Array Value) (ds gs : List (DataW H)) (before : List MemPlace)
    (hval0 : ∀ (j : Nat) t v, Tryz.f3.params[j]? = some t → args[j]? = some v → Value.okWide Tryz.prog W .any base t v)
    (hW : DataW.Whole enc Tryz.prog Tryz.f3.params.toList Rows.relocRelaxedSpec.vars false W args.toList ds gs before) (hk : Rows.uptoSmall H (ds ++ gs) = true) :
    Calls Tryz.prog 3 args W fun e W' => ∃ v, e = .returned v ∧ Rows.relocRelaxedSpec.post enc Tryz.prog Tryz.f3 false true false false W args v W' := by
  have hval : ∀ (j : Nat) t v, Tryz.f3.params[j]? = some t → args[j]? = some v → Value.okWide Tryz.prog W .any base t v := hval0
  have hW' := hW
  obtain ⟨p, q, hA0, hV, rfl, hfz, hnd⟩ := hW
  have hA : DataW.TrodAll enc Tryz.prog W 0 (fun _ => true) true Tryz.f3.params.toList args.toList ds p := hA0
  have hlt : ∀ x ∈ p, x.block < W.heap.size := hA0.lt
  rw [Tryz.params3] at hA hval
  obtain ⟨v0, vs0, d0, ds0, p0, q0, hargs, rfl, rfl, h0, r0⟩ := trodAll_cons hA
  obtain ⟨v1, vs1, d1, ds1, p1, q1, rfl, rfl, rfl, h1, r1⟩ := trodAll_cons r0
  obtain ⟨rfl, rfl, rfl⟩ := trodAll_nil r1
  obtain rfl : args = #[v0, v1] := by cases args; simp_all
  obtain ⟨rfl, rfl⟩ := trodVars_none hV
  obtain ⟨n0, hn0⟩ := h0
  obtain ⟨xs0, be0, hv0, hr0, hd0, hx0⟩ := open_nums Tryz.underlying22 Tryz.underlying5 (by kernel_rfl) (hval 0 22 v0 rfl rfl) hn0
  obtain ⟨a1, rfl, rfl, rfl, w1⟩ := open_int Tryz.underlying3 (hval 1 3 v1 rfl rfl) h1
  clear hval0
  simp only [List.append_nil] at hW' hk
  have hb : xs0.length ≤ 1048576 := by
    have hbk := bound hk
    simp only [Rows.uptoBulkAll] at hbk
    have q0 : xs0.length ≤ Rows.uptoBulk d0 := by
      rcases hd0 with ⟨e1, e2⟩ | ⟨e1, e2, e3, e4⟩
      · rw [e2]; exact Nat.zero_le _
      · have e3 : d0 = _ := e3
        rw [e3, ← e4]; have := slice_le e1 e2; omega
    omega
  refine (walk W v0 xs0 be0 hv0 hr0 hx0 a1 w1 hb).mono fun e W' ⟨he, hg, hold⟩ => ?_
  subst he
  exact ⟨_, rfl, post_of_held (pv := []) hW' (fun _ _ _ => (trodAll_cons_mk (shut_bool Tryz.underlying4 _) trodAll_mk0)) (fun sp hsp => DataW.TrodAll.respare kids full (by rw [Tryz.params3]; decide) (trodAll_grown hold hA0 hlt) (fun x hx => hsp x (by simpa using hx))) (fun _ _ => rfl) (by simp)
    (World.keptBut_mono (fun _ f => f.elim) hg.1) hold (ok_one (by kernel_rfl) rfl (okWide_bool_mk Tryz.underlying4 _))⟩
set_option maxRecDepth 100000 in
theorem lifted (os : Os) (started : os.Started) (H : Type) (enc : TypeId × Value → H) (F : Stop.Interp) :
    ReturnsInHanded {} Tryz.checked os 3 .any ((Rows.OpenSpec.upto Rows.relocRelaxedSpec).pre6 enc Tryz.prog Tryz.f3 Rows.relocRelaxedUptoRow.domain false) (((Rows.OpenSpec.upto Rows.relocRelaxedSpec).at F).post enc Tryz.prog Tryz.f3 false true false false) := by
  refine returnsInHanded_of_cond (C := Tryz.checked) (s := Rows.OpenSpec.upto Rows.relocRelaxedSpec) (k := Rows.uptoSmall) rfl own started (by kernel_rfl) Tryz.func3
    (OpenSpec.witness (enc := enc) (C := Tryz.checked) (s := Rows.OpenSpec.upto Rows.relocRelaxedSpec) (k := Rows.uptoSmall) rfl false ⟨#[], #[.slice none 0 0, .int .i64 0], []⟩ 8 (by kernel_rfl) (by kernel_rfl) (by kernel_rfl)
      (x := ([.nil, .lit (.int .i64 0)], [], [])) (by kernel_rfl) rfl (by kernel_rfl)) ?_
  intro W base args ds gs before hval hW _ hk _
  exact contract H enc W base args ds gs before hval hW hk
theorem over : Rows.relocRelaxedUptoRow.holds Tryz.pinned (Rows.OpenSpec.upto Rows.relocRelaxedSpec) :=
  OpenClaim.holds_of_cond 3 Tryz.f3 rfl rfl rfl rfl rfl rfl rfl ⟨rfl, rfl, rfl, rfl, rfl⟩ rfl rfl rfl rfl rfl (by kernel_rfl) Tryz.func3 (by kernel_rfl)
    (of_decide_eq_true (by kernel_rfl)) (by unfold Func.isWrapper; first | (rw [if_pos (by decide +kernel)]; kernel_rfl) | (rw [if_neg (by decide +kernel)]; exact ⟨rfl, rfl⟩))
    (fun os started H enc _ F => lifted os started H enc F)
theorem proved : Rows.RelocRelaxedUptoSaid := over
#print axioms proved
end Go.Proofs.YtgdmellcbgalaaaGreat.relocRelaxed
namespace Go.Proofs.YtgdmellcbgalaaaGreat
theorem relocRelaxed_holds : Rows.RelocRelaxedUptoSaid := relocRelaxed.proved
end Go.Proofs.YtgdmellcbgalaaaGreat
