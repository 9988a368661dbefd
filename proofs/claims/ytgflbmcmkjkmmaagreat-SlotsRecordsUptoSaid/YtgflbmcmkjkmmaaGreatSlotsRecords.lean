/-
  'gangwaylaw22.SlotsRecords' returns true for every input of bulk at most 1048576, and leaves what it was handed as it was.
-/
import Derived.Test.YtgflbmcmkjkmmaaGreatSrF
import Derived.Test.YtgflbmcmkjkmmaaGreatSrG
import Derived.Test.YtgflbmcmkjkmmaaGreatRows
import Derived.WalkKit
import Derived.ProofKit
import Derived.OpenShut
import Derived.ChangeMaps5
import Derived.JoinedCond
import Derived.Test.YtgflbmcmkjkmmaaGreatAbRows
namespace Go.Proofs.YtgflbmcmkjkmmaaGreat.slotsRecords
open Go.ChangeMaps Go.ChangeShapes Go.WideShapes Go.ChangeAt Go.RowKit Go.Ab
set_option linter.unusedVariables false
set_option maxRecDepth 100000
set_option maxHeartbeats 40000000
theorem own : ownKnob Tryz.prog.godebug = none := by kernel_rfl
theorem kids : Kids Tryz.prog (· < Tryz.prog.types.size) := kids_rows (by kernel_rfl) (by kernel_rfl)
theorem full : ∀ t e, t < Tryz.prog.types.size → Tryz.prog.underlying t = some (.slice e) → 0 < Tryz.prog.cellsOf e := slices_full_of _ (by kernel_rfl)
theorem walk (w : World) (v0 : Value) (xs0_0 : List Int) (xs0_1 : List Int) (xs0_2 : List Int) (be0 : BE) (hv0 : ∀ E j, E j = some be0 → VRel E (.sl j 0 none none) v0) (hr0 : ∀ E et, BlkRel E w ⟨[.ints .i64 xs0_0, .ints .i64 xs0_1, .ints .i64 xs0_2], et, true, false⟩ be0) (hl0_1 : xs0_1.length = xs0_0.length) (hl0_2 : xs0_2.length = xs0_0.length) (v1 : Value) (xs1 : List Int) (be1 : BE) (hv1 : ∀ E j, E j = some be1 → VRel E (.sl j 0 none none) v1) (hr1 : ∀ E et, BlkRel E w ⟨[.ints .u8 xs1], et, true, false⟩ be1) (hx1 : ∀ n ∈ xs1, inR .u8 n = true) (a2 : Int) (w2 : inR .i64 a2 = true) (a3 : Int) (w3 : inR .i64 a3 = true) (hb : xs0_0.length + xs1.length ≤ 1048576) :
    Calls Tryz.prog 3 #[v0, v1, .int .i64 a2, .int .i64 a3] w (Held w) := by
  have hS : Sim (fun k => ([be0, be1] : List BE)[k]?) [⟨[.ints .i64 xs0_0, .ints .i64 xs0_1, .ints .i64 xs0_2], 53, true, false⟩, ⟨[.ints .u8 xs1], 5, true, false⟩] w := sim_ro _ (by
    intro k e he
    match k, he with
    | 0, he => cases he; exact ⟨_, rfl, rfl, fun E => hr0 E 53⟩
    | 1, he => cases he; exact ⟨_, rfl, rfl, fun E => hr1 E 5⟩
    | k + 2, he => simp at he)
  have ha : VsRel (fun k => ([be0, be1] : List BE)[k]?) [.sl 0 0 none none, .sl 1 0 none none, .I .i64 a2, .I .i64 a3] (#[v0, v1, .int .i64 a2, .int .i64 a3] : Array Value).toList := by
    simp only [VsRel, VRel]
    exact ⟨_, _, rfl, by simpa only [VRel] using hv0 (fun k => [be0, be1][k]?) 0 rfl, _, _, rfl, by simpa only [VRel] using hv1 (fun k => [be0, be1][k]?) 1 rfl, _, _, rfl, ⟨rfl, w2⟩, _, _, rfl, ⟨rfl, w3⟩, rfl⟩
  obtain ⟨rs, hrl, e1, e2, e3⟩ := so.cols_of2 xs0_0 xs0_1 xs0_2 hl0_1 hl0_2
  rw [e1, e2, e3] at hS
  have hsm : so.sm rs.length := by unfold so.sm; omega
  have hbm : so.sm xs1.length := by unfold so.sm; omega
  have hby : so.byteL xs1 := fun n hn => by
    have := hx1 n hn
    have m1 : IntKind.u8.min = 0 := by decide
    have m2 : IntKind.u8.max = 255 := by decide
    simp [inR, m1, m2] at this
    exact this
  by_cases hne : rs = []
  · subst hne
    exact (calls_of so.named (by kernel_rfl) (cbody_use so.named so.CF_ok so.at3 (l := 2) rfl (so.WL3_18b_ok (so.WL3_23b_ok (LoopsOk.none _ _))) (so.F3e_ok so.GL3_18b so.GL3_23b _ _ _ (fun v _ => v = .B true)) hS ha (so.law3e hby hbm rfl))).mono fun e w' h => h.held (by simp)
  · exact (calls_of so.named (by kernel_rfl) (cbody_use so.named so.CE_ok so.at3 (l := 2) rfl (so.WL3_18_ok (so.WL3_23_ok (LoopsOk.none _ _))) (so.F3_ok so.GL3_18 so.GL3_23 _ _ _ _ _ _ (fun v _ => v = .B true)) hS ha (so.law3 hne hsm hby hbm rfl))).mono fun e w' h => h.held (by simp)
theorem one_le {H : Type} (d : DataW H) : 1 ≤ Rows.uptoBulk d := by
  cases d with
  | lit l => cases l <;> simp [Rows.uptoBulk]
  | nil => simp [Rows.uptoBulk]
  | ptr d => simp [Rows.uptoBulk]
  | slice elems spare => simp [Rows.uptoBulk]
  | agg parts => simp [Rows.uptoBulk]
  | iface t d => simp [Rows.uptoBulk]
  | map entries => simp [Rows.uptoBulk]
  | held h => simp [Rows.uptoBulk]
theorem length_le {H : Type} (l : List (DataW H)) : l.length ≤ Rows.uptoBulkAll l := by
  induction l with
  | nil => simp [Rows.uptoBulkAll]
  | cons x r ih => have := one_le x; simp only [Rows.uptoBulkAll, List.length_cons]; omega
theorem slice_le {H : Type} (elems spare : List (DataW H)) : elems.length + spare.length + 1 ≤ Rows.uptoBulk (.slice elems spare) := by
  have h1 := length_le elems
  have h2 := length_le spare
  simp only [Rows.uptoBulk]
  omega
theorem bound {H : Type} {l : List (DataW H)} (hk : Rows.uptoSmall H l = true) : Rows.uptoBulkAll l ≤ 1048576 := of_decide_eq_true hk
theorem contract (H : Type) (enc : TypeId × Value → H) (W : World) (base : Nat) (args : Array Value) (ds gs : List (DataW H)) (before : List MemPlace)
    (hval0 : ∀ (j : Nat) t v, Tryz.f3.params[j]? = some t → args[j]? = some v → Value.okWide Tryz.prog W .any base t v)
    (hW : DataW.Whole enc Tryz.prog Tryz.f3.params.toList Rows.slotsRecordsSpec.vars false W args.toList ds gs before) (hk : Rows.uptoSmall H (ds ++ gs) = true) :
    Calls Tryz.prog 3 args W fun e W' => ∃ v, e = .returned v ∧ Rows.slotsRecordsSpec.post enc Tryz.prog Tryz.f3 false true false false W args v W' := by
  have hval : ∀ (j : Nat) t v, Tryz.f3.params[j]? = some t → args[j]? = some v → Value.okWide Tryz.prog W .any base t v := hval0
  have hW' := hW
  obtain ⟨p, q, hA0, hV, rfl, hfz, hnd⟩ := hW
  have hA : DataW.TrodAll enc Tryz.prog W 0 (fun _ => true) true Tryz.f3.params.toList args.toList ds p := hA0
  have hlt : ∀ x ∈ p, x.block < W.heap.size := hA0.lt
  rw [Tryz.params3] at hA hval
  obtain ⟨v0, vs0, d0, ds0, p0, q0, hargs, rfl, rfl, h0, r0⟩ := trodAll_cons hA
  obtain ⟨v1, vs1, d1, ds1, p1, q1, rfl, rfl, rfl, h1, r1⟩ := trodAll_cons r0
  obtain ⟨v2, vs2, d2, ds2, p2, q2, rfl, rfl, rfl, h2, r2⟩ := trodAll_cons r1
  obtain ⟨v3, vs3, d3, ds3, p3, q3, rfl, rfl, rfl, h3, r3⟩ := trodAll_cons r2
  obtain ⟨rfl, rfl, rfl⟩ := trodAll_nil r3
  obtain rfl : args = #[v0, v1, v2, v3] := by cases args; simp_all
  obtain ⟨rfl, rfl⟩ := trodVars_none hV
  obtain ⟨n0, hn0⟩ := h0
  obtain ⟨cs0, be0, hcl0, hf0, hv0, hr0, hd0⟩ := open_rows (cks := [.int .i64, .int .i64, .int .i64]) Tryz.underlying22 Tryz.underlying53 (by kernel_rfl) (by decide) (by kernel_rfl) (hval 0 22 v0 rfl rfl) hn0
  obtain ⟨c0_0, c0_1, c0_2, rfl⟩ : ∃ c0_0 c0_1 c0_2, cs0 = [c0_0, c0_1, c0_2] := by
    match cs0, hcl0 with
    | [c0_0, c0_1, c0_2], _ => exact ⟨c0_0, c0_1, c0_2, rfl⟩
  obtain ⟨⟨xs0_0, rfl, hx0_0⟩, hq0_0⟩ := hf0 0 (.int .i64) _ rfl rfl
  simp only [Col.len] at hq0_0
  obtain ⟨⟨xs0_1, rfl, hx0_1⟩, hq0_1⟩ := hf0 1 (.int .i64) _ rfl rfl
  simp only [Col.len] at hq0_1
  have hl0_1 : xs0_1.length = xs0_0.length := by omega
  obtain ⟨⟨xs0_2, rfl, hx0_2⟩, hq0_2⟩ := hf0 2 (.int .i64) _ rfl rfl
  simp only [Col.len] at hq0_2
  have hl0_2 : xs0_2.length = xs0_0.length := by omega
  obtain ⟨n1, hn1⟩ := h1
  obtain ⟨xs1, be1, hv1, hr1, hd1, hx1⟩ := open_nums Tryz.underlying23 Tryz.underlying5 (by kernel_rfl) (hval 1 23 v1 rfl rfl) hn1
  obtain ⟨a2, rfl, rfl, rfl, w2⟩ := open_int Tryz.underlying3 (hval 2 3 v2 rfl rfl) h2
  obtain ⟨a3, rfl, rfl, rfl, w3⟩ := open_int Tryz.underlying3 (hval 3 3 v3 rfl rfl) h3
  clear hval0
  simp only [List.append_nil] at hW' hk
  have hb : xs0_0.length + xs1.length ≤ 1048576 := by
    have hbk := bound hk
    simp only [Rows.uptoBulkAll] at hbk
    have q0 : xs0_0.length ≤ Rows.uptoBulk d0 := by
      rcases hd0 with ⟨e1, e2⟩ | ⟨e1, e2, e3, e4⟩
      · rw [hq0_0, e2]; exact Nat.zero_le _
      · have e3 : d0 = _ := e3
        rw [e3, hq0_0, ← e4]; have := slice_le e1 e2; omega
    have q1 : xs1.length ≤ Rows.uptoBulk d1 := by
      rcases hd1 with ⟨e1, e2⟩ | ⟨e1, e2, e3, e4⟩
      · rw [e2]; exact Nat.zero_le _
      · have e3 : d1 = _ := e3
        rw [e3, ← e4]; have := slice_le e1 e2; omega
    omega
  refine (walk W v0 xs0_0 xs0_1 xs0_2 be0 hv0 hr0 hl0_1 hl0_2 v1 xs1 be1 hv1 hr1 hx1 a2 (by simpa [inR, Lit.wf] using w2) a3 (by simpa [inR, Lit.wf] using w3) hb).mono fun e W' ⟨he, hg, hold⟩ => ?_
  subst he
  exact ⟨_, rfl, post_of_held (pv := []) hW' (fun _ _ _ => (trodAll_cons_mk (shut_bool Tryz.underlying4 _) trodAll_mk0)) (fun sp hsp => DataW.TrodAll.respare kids full (by rw [Tryz.params3]; decide) (trodAll_grown hold hA0 hlt) (fun x hx => hsp x (by simpa using hx))) (fun _ _ => rfl) (by simp)
    (World.keptBut_mono (fun _ f => f.elim) hg.1) hold (ok_one (by kernel_rfl) rfl (okWide_bool_mk Tryz.underlying4 _))⟩
theorem lifted (os : Os) (started : os.Started) (H : Type) (enc : TypeId × Value → H) (F : Stop.Interp) :
    ReturnsInHanded {} Tryz.checked os 3 .any ((Rows.OpenSpec.upto Rows.slotsRecordsSpec).pre6 enc Tryz.prog Tryz.f3 Rows.slotsRecordsUptoRow.domain false) (((Rows.OpenSpec.upto Rows.slotsRecordsSpec).at F).post enc Tryz.prog Tryz.f3 false true false false) := by
  refine returnsInHanded_of_cond (C := Tryz.checked) (s := Rows.OpenSpec.upto Rows.slotsRecordsSpec) (k := Rows.uptoSmall) rfl own started (by kernel_rfl) Tryz.func3
    (OpenSpec.witness (enc := enc) (C := Tryz.checked) (s := Rows.OpenSpec.upto Rows.slotsRecordsSpec) (k := Rows.uptoSmall) rfl false ⟨#[], #[.slice none 0 0, .slice none 0 0, .int .i64 0, .int .i64 0], []⟩ 8 (by kernel_rfl) (by kernel_rfl) (by kernel_rfl)
      (x := ([.nil, .nil, .lit (.int .i64 0), .lit (.int .i64 0)], [], [])) (by kernel_rfl) rfl (by kernel_rfl)) ?_
  intro W base args ds gs before hval hW _ hk _
  exact contract H enc W base args ds gs before hval hW hk
theorem over : Rows.slotsRecordsUptoRow.holds Tryz.pinned (Rows.OpenSpec.upto Rows.slotsRecordsSpec) :=
  OpenClaim.holds_of_cond 3 Tryz.f3 rfl rfl rfl rfl rfl rfl rfl ⟨rfl, rfl, rfl, rfl, rfl⟩ rfl rfl rfl rfl rfl (by as_aux_lemma => kernel_rfl) Tryz.func3 facts
    (of_decide_eq_true (by kernel_rfl)) (by unfold Func.isWrapper; first | (rw [if_pos (by decide +kernel)]; kernel_rfl) | (rw [if_neg (by decide +kernel)]; exact ⟨rfl, rfl⟩))
    (fun os started H enc _ F => lifted os started H enc F)
theorem proved : Rows.SlotsRecordsUptoSaid := over
#print axioms proved
end Go.Proofs.YtgflbmcmkjkmmaaGreat.slotsRecords
namespace Go.Proofs.YtgflbmcmkjkmmaaGreat
theorem slotsRecords_holds : Rows.SlotsRecordsUptoSaid := slotsRecords.proved
end Go.Proofs.YtgflbmcmkjkmmaaGreat
