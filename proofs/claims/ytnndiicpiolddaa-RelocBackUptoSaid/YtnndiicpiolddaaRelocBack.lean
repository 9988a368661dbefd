/-
  'gangwaylaw20.RelocBack' returns true for every input of bulk at most 1048576, and leaves what it was handed as it was.
-/
import Derived.Test.YtnndiicpiolddaaBak4
import Derived.Test.YtnndiicpiolddaaRows
import Derived.WalkKit
import Derived.ProofKit
import Derived.OpenShut
import Derived.ChangeMaps5
import Derived.JoinedCond
import Derived.Test.YtnndiicpiolddaaAbLaw
namespace Go.Proofs.Ytnndiicpiolddaa.relocBack
open Go.ChangeMaps Go.ChangeShapes Go.WideShapes Go.ChangeAt Go.RowKit Go.Ab
set_option linter.unusedVariables false
theorem own : ownKnob Try.prog.godebug = none := by kernel_rfl
theorem kids : Kids Try.prog (· < Try.prog.types.size) := kids_rows (by kernel_rfl) (by kernel_rfl)
theorem full : ∀ t e, t < Try.prog.types.size → Try.prog.underlying t = some (.slice e) → 0 < Try.prog.cellsOf e := slices_full_of _ (by kernel_rfl)
theorem walk (w : World) (v0 : Value) (xs0 : List Int) (be0 : BE) (hv0 : ∀ E j, E j = some be0 → VRel E (.sl j 0 none none) v0) (hr0 : ∀ E et, BlkRel E w ⟨[.ints .u8 xs0], et, true, false⟩ be0) (hx0 : ∀ n ∈ xs0, inR .u8 n = true) (a1 : Int) (w1 : (Lit.int .i64 a1).wf = true) (a2 : Int) (w2 : (Lit.int .i64 a2).wf = true) (z3_0 z3_1 z3_2 z3_3 z3_4 : Int) (w3 : ∀ n ∈ [z3_0, z3_1, z3_2, z3_3, z3_4], inR .i64 n = true) (hb : xs0.length ≤ 1048576) :
    Calls Try.prog 10 #[v0, .int .i64 a1, .int .i64 a2, .agg #[.int .i64 z3_0, .int .i64 z3_1, .int .i64 z3_2, .int .i64 z3_3, .int .i64 z3_4]] w (Held w) := by
  have hn : bak.T10 bak.G10 bak.C0 10 [.sl 0 0 none none, .I .i64 a1, .I .i64 a2, .agg [.I .i64 z3_0, .I .i64 z3_1, .I .i64 z3_2, .I .i64 z3_3, .I .i64 z3_4]] [⟨[.ints .u8 xs0], 5, true, false⟩] (fun v _ => v = .B true) := by
    have e : ∀ K : V → Mem → Prop, bak.T10 bak.G10 bak.C0 10 [.sl 0 0 none none, .I .i64 a1, .I .i64 a2, .agg [.I .i64 z3_0, .I .i64 z3_1, .I .i64 z3_2, .I .i64 z3_3, .I .i64 z3_4]] [⟨[.ints .u8 xs0], 5, true, false⟩] K = bak.G10 a1 a2 z3_0 z3_1 z3_2 z3_3 z3_4 xs0 (K (.B true) [⟨[.ints .u8 xs0], 5, true, false⟩]) (K (.B false) [⟨[.ints .u8 xs0], 5, true, false⟩]) := fun K => by kernel_rfl
    have r1 : -9223372036854775808 ≤ a1 ∧ a1 ≤ 9223372036854775807 := by simpa [Lit.wf, IntKind.min, IntKind.max, IntKind.signed, IntKind.bits] using w1
    rw [e]
    exact bak.g10 (by omega) r1.1 r1.2 rfl
  refine (bak.T10_ok bak.C0_ok 10 _ _ _ (fun k => ([be0] : List BE)[k]?) w _ (sim_ro _ ?_) ?_ hn).2.mono fun e w' h => h.held (by simp)
  · intro k e he
    match k, he with
    | 0, he => cases he; exact ⟨_, rfl, rfl, fun E => hr0 E 5⟩
    | k + 1, he => simp at he
  · simp only [VsRel, VRel]
    refine ⟨_, _, rfl, by simpa only [VRel] using hv0 (fun k => [be0][k]?) 0 rfl, _, _, rfl, ⟨rfl, by simpa [inR, Lit.wf] using w1⟩, _, _, rfl, ⟨rfl, by simpa [inR, Lit.wf] using w2⟩, _, _, rfl, ⟨_, rfl, ⟨_, _, rfl, ⟨rfl, w3 _ (by simp)⟩, _, _, rfl, ⟨rfl, w3 _ (by simp)⟩, _, _, rfl, ⟨rfl, w3 _ (by simp)⟩, _, _, rfl, ⟨rfl, w3 _ (by simp)⟩, _, _, rfl, ⟨rfl, w3 _ (by simp)⟩, rfl⟩, by simp [Value.oneCell']⟩, rfl⟩
theorem one_le {H : Type} (d : DataW H) : 1 ≤ Rows.uptoBulk d := by
  cases d with
  | lit l => cases l <;> simp [Rows.uptoBulk]
  | nil => simp [Rows.uptoBulk]
  | ptr d => simp [Rows.uptoBulk]
  | slice elems spare => simp [Rows.uptoBulk]
  | agg parts => simp [Rows.uptoBulk]
  | iface t d => simp [Rows.uptoBulk]
  | map entries => simp [Rows.uptoBulk]
  | held h => simp [Rows.uptoBulk]
theorem length_le {H : Type} (l : List (DataW H)) : l.length ≤ Rows.uptoBulkAll l := by
  induction l with
  | nil => simp [Rows.uptoBulkAll]
  | cons x r ih => have := one_le x; simp only [Rows.uptoBulkAll, List.length_cons]; omega
theorem slice_le {H : Type} (elems spare : List (DataW H)) : elems.length + spare.length + 1 ≤ Rows.uptoBulk (.slice elems spare) := by
  have h1 := length_le elems
  have h2 := length_le spare
  simp only [Rows.uptoBulk]
  omega
theorem bound {H : Type} {l : List (DataW H)} (hk : Rows.uptoSmall H l = true) : Rows.uptoBulkAll l ≤ 1048576 := of_decide_eq_true hk
set_option maxRecDepth 100000 in
theorem contract (H : Type) (enc : TypeId × Value → H) (W : World) (base : Nat) (args : Array Value) (ds gs : List (DataW H)) (before : List MemPlace)
    (hval0 : ∀ (j : Nat) t v, Try.f10.params[j]? = some t → args[j]? = some v → Value.okWide Try.prog W .any base t v)
    (hW : DataW.Whole enc Try.prog Try.f10.params.toList Rows.relocBackSpec.vars false W args.toList ds gs before) (hk : Rows.uptoSmall H (ds ++ gs) = true) :
    Calls Try.prog 10 args W fun e W' => ∃ v, e = .returned v ∧ Rows.relocBackSpec.post enc Try.prog Try.f10 false true false false W args v W' := by
  have hval : ∀ (j : Nat) t v, Try.f10.params[j]? = some t → args[j]? = some v → Value.okWide Try.prog W .any base t v := hval0
  have hW' := hW
  obtain ⟨p, q, hA0, hV, rfl, hfz, hnd⟩ := hW
  have hA : DataW.TrodAll enc Try.prog W 0 (fun _ => true) true Try.f10.params.toList args.toList ds p := hA0
  have hlt : ∀ x ∈ p, x.block < W.heap.size := hA0.lt
  rw [Try.params10] at hA hval
  obtain ⟨v0, vs0, d0, ds0, p0, q0, hargs, rfl, rfl, h0, r0⟩ := trodAll_cons hA
  obtain ⟨v1, vs1, d1, ds1, p1, q1, rfl, rfl, rfl, h1, r1⟩ := trodAll_cons r0
  obtain ⟨v2, vs2, d2, ds2, p2, q2, rfl, rfl, rfl, h2, r2⟩ := trodAll_cons r1
  obtain ⟨v3, vs3, d3, ds3, p3, q3, rfl, rfl, rfl, h3, r3⟩ := trodAll_cons r2
  obtain ⟨rfl, rfl, rfl⟩ := trodAll_nil r3
  obtain rfl : args = #[v0, v1, v2, v3] := by cases args; simp_all
  obtain ⟨rfl, rfl⟩ := trodVars_none hV
  obtain ⟨n0, hn0⟩ := h0
  obtain ⟨xs0, be0, hv0, hr0, hd0, hx0⟩ := open_nums Try.underlying22 Try.underlying5 (by kernel_rfl) (hval 0 22 v0 rfl rfl) hn0
  obtain ⟨a1, rfl, rfl, rfl, w1⟩ := open_int Try.underlying3 (hval 1 3 v1 rfl rfl) h1
  obtain ⟨a2, rfl, rfl, rfl, w2⟩ := open_int Try.underlying3 (hval 2 3 v2 rfl rfl) h2
  obtain ⟨ns3, rfl, hl3, w3⟩ := open_numstruct Try.underlying55 (ts := [3, 3, 3, 3, 3]) (by kernel_rfl) (by kernel_rfl) (by intro u hu; simp at hu; subst hu; exact Try.underlying3) (hval 3 55 v3 rfl rfl)
  obtain ⟨z3_0, z3_1, z3_2, z3_3, z3_4, rfl⟩ : ∃ z3_0 z3_1 z3_2 z3_3 z3_4, ns3 = [z3_0, z3_1, z3_2, z3_3, z3_4] := by
    match ns3, hl3 with
    | [z3_0, z3_1, z3_2, z3_3, z3_4], _ => exact ⟨z3_0, z3_1, z3_2, z3_3, z3_4, rfl⟩
  clear hval0
  simp only [List.append_nil] at hW' hk
  have hb : xs0.length ≤ 1048576 := by
    have hbk := bound hk
    simp only [Rows.uptoBulkAll] at hbk
    have q0 : xs0.length ≤ Rows.uptoBulk d0 := by
      rcases hd0 with ⟨e1, e2⟩ | ⟨e1, e2, e3, e4⟩
      · rw [e2]; exact Nat.zero_le _
      · have e3 : d0 = _ := e3
        rw [e3, ← e4]; have := slice_le e1 e2; omega
    omega
  refine (walk W v0 xs0 be0 hv0 hr0 hx0 a1 w1 a2 w2 z3_0 z3_1 z3_2 z3_3 z3_4 w3 hb).mono fun e W' ⟨he, hg, hold⟩ => ?_
  subst he
  exact ⟨_, rfl, post_of_same (pv := []) hW' (fun _ _ _ => (trodAll_cons_mk (shut_bool Try.underlying4 _) trodAll_mk0)) (fun sp hsp => DataW.TrodAll.respare kids full (by rw [Try.params10]; decide) (trodAll_grown hold hA0 hlt) (fun x hx => hsp x (by simpa using hx))) (fun _ _ => rfl) (by simp)
    (hg.frame _) hg.2.1 (ok_one (by kernel_rfl) rfl (okWide_bool_mk Try.underlying4 _))⟩
set_option maxRecDepth 100000 in
theorem lifted (os : Os) (started : os.Started) (H : Type) (enc : TypeId × Value → H) (F : Stop.Interp) :
    ReturnsInHanded {} Try.checked os 10 .any ((Rows.OpenSpec.upto Rows.relocBackSpec).pre6 enc Try.prog Try.f10 Rows.relocBackUptoRow.domain false) (((Rows.OpenSpec.upto Rows.relocBackSpec).at F).post enc Try.prog Try.f10 false true false false) := by
  refine returnsInHanded_of_cond (C := Try.checked) (s := Rows.OpenSpec.upto Rows.relocBackSpec) (k := Rows.uptoSmall) rfl own started (by kernel_rfl) Try.func10
    (OpenSpec.witness (enc := enc) (C := Try.checked) (s := Rows.OpenSpec.upto Rows.relocBackSpec) (k := Rows.uptoSmall) rfl false ⟨#[], #[.slice none 0 0, .int .i64 0, .int .i64 0, .agg #[.int .i64 0, .int .i64 0, .int .i64 0, .int .i64 0, .int .i64 0]], []⟩ 8 (by kernel_rfl) (by kernel_rfl) (by kernel_rfl)
      (x := ([.nil, .lit (.int .i64 0), .lit (.int .i64 0), .agg [.lit (.int .i64 0), .lit (.int .i64 0), .lit (.int .i64 0), .lit (.int .i64 0), .lit (.int .i64 0)]], [], [])) (by kernel_rfl) rfl (by kernel_rfl)) ?_
  intro W base args ds gs before hval hW _ hk _
  exact contract H enc W base args ds gs before hval hW hk
theorem over : Rows.relocBackUptoRow.holds Try.pinned (Rows.OpenSpec.upto Rows.relocBackSpec) :=
  OpenClaim.holds_of_cond 10 Try.f10 rfl rfl rfl rfl rfl rfl rfl ⟨rfl, rfl, rfl, rfl, rfl⟩ rfl rfl rfl rfl rfl (by kernel_rfl) Try.func10 (by kernel_rfl)
    (of_decide_eq_true (by kernel_rfl)) (by unfold Func.isWrapper; first | (rw [if_pos (by decide +kernel)]; kernel_rfl) | (rw [if_neg (by decide +kernel)]; exact ⟨rfl, rfl⟩))
    (fun os started H enc _ F => lifted os started H enc F)
theorem proved : Rows.RelocBackUptoSaid := over
#print axioms proved
end Go.Proofs.Ytnndiicpiolddaa.relocBack
namespace Go.Proofs.Ytnndiicpiolddaa
theorem relocBack_holds : Rows.RelocBackUptoSaid := relocBack.proved
end Go.Proofs.Ytnndiicpiolddaa
