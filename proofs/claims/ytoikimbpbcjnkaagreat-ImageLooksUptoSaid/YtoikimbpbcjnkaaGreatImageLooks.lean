/-
  'gangwaylaw24.ImageLooks' returns true for every input of bulk at most 1048576, and leaves what it was handed as it was.
-/
import Derived.Test.YtoikimbpbcjnkaaGreatIm5
import Derived.Test.YtoikimbpbcjnkaaGreatIm6
import Derived.Test.YtoikimbpbcjnkaaGreatRows
import Derived.WalkKit
import Derived.ProofKit
import Derived.OpenShut
import Derived.ChangeMaps5
import Derived.JoinedCond
import Derived.Test.YtoikimbpbcjnkaaGreatAbRows
namespace Go.Proofs.YtoikimbpbcjnkaaGreat.imageLooks
open Go.ChangeMaps Go.ChangeShapes Go.WideShapes Go.ChangeAt Go.RowKit Go.Ab
set_option linter.unusedVariables false
set_option maxRecDepth 100000
set_option maxHeartbeats 40000000
theorem own : ownKnob Tryz.prog.godebug = none := by kernel_rfl
theorem kids : Kids Tryz.prog (· < Tryz.prog.types.size) := kids_rows (by kernel_rfl) (by kernel_rfl)
theorem full : ∀ t e, t < Tryz.prog.types.size → Tryz.prog.underlying t = some (.slice e) → 0 < Tryz.prog.cellsOf e := slices_full_of _ (by kernel_rfl)
theorem walk (w : World) (v0 : Value) (ns0_0 : List (List Int)) (xs0_1 : List Int) (xs0_2 : List Int) (xs0_3 : List Int) (xs0_4 : List Int) (be0 : BE) (hv0 : ∀ E j, E j = some be0 → VRel E (.sl j 0 none none) v0) (hr0 : ∀ E et, BlkRel E w ⟨[.strs ns0_0, .ints .i64 xs0_1, .ints .i64 xs0_2, .ints .i64 xs0_3, .ints .i64 xs0_4], et, true, false⟩ be0) (hl0_1 : xs0_1.length = ns0_0.length) (hl0_2 : xs0_2.length = ns0_0.length) (hl0_3 : xs0_3.length = ns0_0.length) (hl0_4 : xs0_4.length = ns0_0.length) (a1 : Int) (w1 : inR .i64 a1 = true) (a2 : ByteArray) (w2 : a2.size ≤ 9223372036854775807) (hb : ns0_0.length ≤ 1048576) :
    Calls Tryz.prog 3 #[v0, .int .i64 a1, .string a2] w (Held w) := by
  have hn : (img.T3 img.G3 img.C3) 3 [.sl 0 0 none none, .I .i64 a1, .S (bytesI a2)] [⟨[.strs ns0_0, .ints .i64 xs0_1, .ints .i64 xs0_2, .ints .i64 xs0_3, .ints .i64 xs0_4], 29, true, false⟩] (fun v _ => v = .B true) := by
    have e : ∀ K : V → Mem → Prop, (img.T3 img.G3 img.C3) 3 [.sl 0 0 none none, .I .i64 a1, .S (bytesI a2)] [⟨[.strs ns0_0, .ints .i64 xs0_1, .ints .i64 xs0_2, .ints .i64 xs0_3, .ints .i64 xs0_4], 29, true, false⟩] K = img.G3 a1 (bytesI a2) ns0_0 xs0_1 xs0_2 xs0_3 xs0_4 (K (.B true) [⟨[.strs ns0_0, .ints .i64 xs0_1, .ints .i64 xs0_2, .ints .i64 xs0_3, .ints .i64 xs0_4], 29, true, false⟩]) (K (.B false) [⟨[.strs ns0_0, .ints .i64 xs0_1, .ints .i64 xs0_2, .ints .i64 xs0_3, .ints .i64 xs0_4], 29, true, false⟩]) := fun K => by kernel_rfl
    rw [e]
    exact img.g3 hb hl0_1 hl0_2 hl0_3 hl0_4 rfl
  refine (calls_of img.named (by kernel_rfl) ((img.T3_ok img.C3_ok) 3 _ _ _ (fun k => ([be0] : List BE)[k]?) w _ (sim_ro _ ?_) ?_ hn)).mono fun e w' h => h.held (by simp)
  · intro k e he
    match k, he with
    | 0, he => cases he; exact ⟨_, rfl, rfl, fun E => hr0 E 29⟩
    | k + 1, he => simp at he
  · simp only [VsRel, VRel]
    exact ⟨_, _, rfl, by simpa only [VRel] using hv0 (fun k => [be0][k]?) 0 rfl, _, _, rfl, ⟨rfl, w1⟩, _, _, rfl, ⟨a2, rfl, rfl, w2⟩, rfl⟩
theorem one_le {H : Type} (d : DataW H) : 1 ≤ Rows.uptoBulk d := by
  cases d with
  | lit l => cases l <;> simp [Rows.uptoBulk]
  | nil => simp [Rows.uptoBulk]
  | ptr d => simp [Rows.uptoBulk]
  | slice elems spare => simp [Rows.uptoBulk]
  | agg parts => simp [Rows.uptoBulk]
  | iface t d => simp [Rows.uptoBulk]
  | map entries => simp [Rows.uptoBulk]
  | held h => simp [Rows.uptoBulk]
theorem length_le {H : Type} (l : List (DataW H)) : l.length ≤ Rows.uptoBulkAll l := by
  induction l with
  | nil => simp [Rows.uptoBulkAll]
  | cons x r ih => have := one_le x; simp only [Rows.uptoBulkAll, List.length_cons]; omega
theorem slice_le {H : Type} (elems spare : List (DataW H)) : elems.length + spare.length + 1 ≤ Rows.uptoBulk (.slice elems spare) := by
  have h1 := length_le elems
  have h2 := length_le spare
  simp only [Rows.uptoBulk]
  omega
theorem bound {H : Type} {l : List (DataW H)} (hk : Rows.uptoSmall H l = true) : Rows.uptoBulkAll l ≤ 1048576 := of_decide_eq_true hk
theorem contract (H : Type) (enc : TypeId × Value → H) (W : World) (base : Nat) (args : Array Value) (ds gs : List (DataW H)) (before : List MemPlace)
    (hval0 : ∀ (j : Nat) t v, Tryz.f3.params[j]? = some t → args[j]? = some v → Value.okWide Tryz.prog W .any base t v)
    (hW : DataW.Whole enc Tryz.prog Tryz.f3.params.toList Rows.imageLooksSpec.vars false W args.toList ds gs before) (hk : Rows.uptoSmall H (ds ++ gs) = true) :
    Calls Tryz.prog 3 args W fun e W' => ∃ v, e = .returned v ∧ Rows.imageLooksSpec.post enc Tryz.prog Tryz.f3 false true false false W args v W' := by
  have hval : ∀ (j : Nat) t v, Tryz.f3.params[j]? = some t → args[j]? = some v → Value.okWide Tryz.prog W .any base t v := hval0
  have hW' := hW
  obtain ⟨p, q, hA0, hV, rfl, hfz, hnd⟩ := hW
  have hA : DataW.TrodAll enc Tryz.prog W 0 (fun _ => true) true Tryz.f3.params.toList args.toList ds p := hA0
  have hlt : ∀ x ∈ p, x.block < W.heap.size := hA0.lt
  rw [Tryz.params3] at hA hval
  obtain ⟨v0, vs0, d0, ds0, p0, q0, hargs, rfl, rfl, h0, r0⟩ := trodAll_cons hA
  obtain ⟨v1, vs1, d1, ds1, p1, q1, rfl, rfl, rfl, h1, r1⟩ := trodAll_cons r0
  obtain ⟨v2, vs2, d2, ds2, p2, q2, rfl, rfl, rfl, h2, r2⟩ := trodAll_cons r1
  obtain ⟨rfl, rfl, rfl⟩ := trodAll_nil r2
  obtain rfl : args = #[v0, v1, v2] := by cases args; simp_all
  obtain ⟨rfl, rfl⟩ := trodVars_none hV
  obtain ⟨n0, hn0⟩ := h0
  obtain ⟨cs0, be0, hcl0, hf0, hv0, hr0, hd0⟩ := open_rows (cks := [.str, .int .i64, .int .i64, .int .i64, .int .i64]) Tryz.underlying22 Tryz.underlying29 (by kernel_rfl) (by decide) (by kernel_rfl) (hval 0 22 v0 rfl rfl) hn0
  obtain ⟨c0_0, c0_1, c0_2, c0_3, c0_4, rfl⟩ : ∃ c0_0 c0_1 c0_2 c0_3 c0_4, cs0 = [c0_0, c0_1, c0_2, c0_3, c0_4] := by
    match cs0, hcl0 with
    | [c0_0, c0_1, c0_2, c0_3, c0_4], _ => exact ⟨c0_0, c0_1, c0_2, c0_3, c0_4, rfl⟩
  obtain ⟨⟨ns0_0, rfl⟩, hq0_0⟩ := hf0 0 (.str) _ rfl rfl
  simp only [Col.len] at hq0_0
  obtain ⟨⟨xs0_1, rfl, hx0_1⟩, hq0_1⟩ := hf0 1 (.int .i64) _ rfl rfl
  simp only [Col.len] at hq0_1
  have hl0_1 : xs0_1.length = ns0_0.length := by omega
  obtain ⟨⟨xs0_2, rfl, hx0_2⟩, hq0_2⟩ := hf0 2 (.int .i64) _ rfl rfl
  simp only [Col.len] at hq0_2
  have hl0_2 : xs0_2.length = ns0_0.length := by omega
  obtain ⟨⟨xs0_3, rfl, hx0_3⟩, hq0_3⟩ := hf0 3 (.int .i64) _ rfl rfl
  simp only [Col.len] at hq0_3
  have hl0_3 : xs0_3.length = ns0_0.length := by omega
  obtain ⟨⟨xs0_4, rfl, hx0_4⟩, hq0_4⟩ := hf0 4 (.int .i64) _ rfl rfl
  simp only [Col.len] at hq0_4
  have hl0_4 : xs0_4.length = ns0_0.length := by omega
  obtain ⟨a1, rfl, rfl, rfl, w1⟩ := open_int Tryz.underlying3 (hval 1 3 v1 rfl rfl) h1
  obtain ⟨a2, rfl, w2⟩ := cell_str Tryz.underlying9 (hval 2 9 v2 rfl rfl)
  clear hval0
  simp only [List.append_nil] at hW' hk
  have hb : ns0_0.length ≤ 1048576 := by
    have hbk := bound hk
    simp only [Rows.uptoBulkAll] at hbk
    have q0 : ns0_0.length ≤ Rows.uptoBulk d0 := by
      rcases hd0 with ⟨e1, e2⟩ | ⟨e1, e2, e3, e4⟩
      · rw [hq0_0, e2]; exact Nat.zero_le _
      · have e3 : d0 = _ := e3
        rw [e3, hq0_0, ← e4]; have := slice_le e1 e2; omega
    omega
  refine (walk W v0 ns0_0 xs0_1 xs0_2 xs0_3 xs0_4 be0 hv0 hr0 hl0_1 hl0_2 hl0_3 hl0_4 a1 (by simpa [inR, Lit.wf] using w1) a2 w2 hb).mono fun e W' ⟨he, hg, hold⟩ => ?_
  subst he
  exact ⟨_, rfl, post_of_held (pv := []) hW' (fun _ _ _ => (trodAll_cons_mk (shut_bool Tryz.underlying4 _) trodAll_mk0)) (fun sp hsp => DataW.TrodAll.respare kids full (by rw [Tryz.params3]; decide) (trodAll_grown hold hA0 hlt) (fun x hx => hsp x (by simpa using hx))) (fun _ _ => rfl) (by simp)
    (World.keptBut_mono (fun _ f => f.elim) hg.1) hold (ok_one (by kernel_rfl) rfl (okWide_bool_mk Tryz.underlying4 _))⟩
theorem lifted (os : Os) (started : os.Started) (H : Type) (enc : TypeId × Value → H) (F : Stop.Interp) :
    ReturnsInHanded {} Tryz.checked os 3 .any ((Rows.OpenSpec.upto Rows.imageLooksSpec).pre6 enc Tryz.prog Tryz.f3 Rows.imageLooksUptoRow.domain false) (((Rows.OpenSpec.upto Rows.imageLooksSpec).at F).post enc Tryz.prog Tryz.f3 false true false false) := by
  refine returnsInHanded_of_cond (C := Tryz.checked) (s := Rows.OpenSpec.upto Rows.imageLooksSpec) (k := Rows.uptoSmall) rfl own started (by kernel_rfl) Tryz.func3
    (OpenSpec.witness (enc := enc) (C := Tryz.checked) (s := Rows.OpenSpec.upto Rows.imageLooksSpec) (k := Rows.uptoSmall) rfl false ⟨#[], #[.slice none 0 0, .int .i64 0, .string .empty], []⟩ 8 (by kernel_rfl) (by kernel_rfl) (by kernel_rfl)
      (x := ([.nil, .lit (.int .i64 0), .lit (.string [])], [], [])) (by kernel_rfl) rfl (by kernel_rfl)) ?_
  intro W base args ds gs before hval hW _ hk _
  exact contract H enc W base args ds gs before hval hW hk
theorem over : Rows.imageLooksUptoRow.holds Tryz.pinned (Rows.OpenSpec.upto Rows.imageLooksSpec) :=
  OpenClaim.holds_of_cond 3 Tryz.f3 rfl rfl rfl rfl rfl rfl rfl ⟨rfl, rfl, rfl, rfl, rfl⟩ rfl rfl rfl rfl rfl (by as_aux_lemma => kernel_rfl) Tryz.func3 facts
    (of_decide_eq_true (by kernel_rfl)) (by unfold Func.isWrapper; first | (rw [if_pos (by decide +kernel)]; kernel_rfl) | (rw [if_neg (by decide +kernel)]; exact ⟨rfl, rfl⟩))
    (fun os started H enc _ F => lifted os started H enc F)
theorem proved : Rows.ImageLooksUptoSaid := over
#print axioms proved
end Go.Proofs.YtoikimbpbcjnkaaGreat.imageLooks
namespace Go.Proofs.YtoikimbpbcjnkaaGreat
theorem imageLooks_holds : Rows.ImageLooksUptoSaid := imageLooks.proved
end Go.Proofs.YtoikimbpbcjnkaaGreat
