/-
  'gangwaylaw21.TlsLength' returns true for every input of bulk at most 1048576, and leaves what it was handed as it was.
-/
import Derived.Test.YtnndiicpiolddaaLen7
import Derived.Test.YtnndiicpiolddaaRows
import Derived.WalkKit
import Derived.ProofKit
import Derived.OpenShut
import Derived.ChangeMaps5
import Derived.JoinedCond
import Derived.Test.YtnndiicpiolddaaAbLaw
namespace Go.Proofs.Ytnndiicpiolddaa.tlsLength
open Go.ChangeMaps Go.ChangeShapes Go.WideShapes Go.ChangeAt Go.RowKit Go.Ab
set_option linter.unusedVariables false
theorem own : ownKnob Try.prog.godebug = none := by kernel_rfl
theorem kids : Kids Try.prog (· < Try.prog.types.size) := kids_rows (by kernel_rfl) (by kernel_rfl)
theorem full : ∀ t e, t < Try.prog.types.size → Try.prog.underlying t = some (.slice e) → 0 < Try.prog.cellsOf e := slices_full_of _ (by kernel_rfl)
theorem walk (w : World) (a0 : Int) (w0 : (Lit.int .i64 a0).wf = true) (a1 : Int) (w1 : (Lit.int .i64 a1).wf = true) (v2 : Value) (xs2 : List Int) (be2 : BE) (hv2 : ∀ E j, E j = some be2 → VRel E (.sl j 0 none none) v2) (hr2 : ∀ E et, BlkRel E w ⟨[.ints .u8 xs2], et, true, false⟩ be2) (hx2 : ∀ n ∈ xs2, inR .u8 n = true) (v3 : Value) (xs3 : List Int) (be3 : BE) (hv3 : ∀ E j, E j = some be3 → VRel E (.sl j 0 none none) v3) (hr3 : ∀ E et, BlkRel E w ⟨[.ints .u8 xs3], et, true, false⟩ be3) (hx3 : ∀ n ∈ xs3, inR .u8 n = true) (a4 : Int) (w4 : (Lit.int .i64 a4).wf = true) (a5 : Int) (w5 : (Lit.int .i64 a5).wf = true) (hb : xs2.length + xs3.length ≤ 1048576) :
    Calls Try.prog 4 #[.int .i64 a0, .int .i64 a1, v2, v3, .int .i64 a4, .int .i64 a5] w (Held w) := by
  have hn : tls.T4 tls.G4 tls.C0 4 [.I .i64 a0, .I .i64 a1, .sl 0 0 none none, .sl 1 0 none none, .I .i64 a4, .I .i64 a5] [⟨[.ints .u8 xs2], 5, true, false⟩, ⟨[.ints .u8 xs3], 5, true, false⟩] (fun v _ => v = .B true) := by
    have e : ∀ K : V → Mem → Prop, tls.T4 tls.G4 tls.C0 4 [.I .i64 a0, .I .i64 a1, .sl 0 0 none none, .sl 1 0 none none, .I .i64 a4, .I .i64 a5] [⟨[.ints .u8 xs2], 5, true, false⟩, ⟨[.ints .u8 xs3], 5, true, false⟩] K =
        tls.G4 a0 a1 a4 a5 xs2 xs3 (K (.B false) [⟨[.ints .u8 xs2], 5, true, false⟩, ⟨[.ints .u8 xs3], 5, true, false⟩]) (fun u => K (.B u) [⟨[.ints .u8 xs2], 5, true, false⟩, ⟨[.ints .u8 xs3], 5, true, false⟩]) (K (.B true) [⟨[.ints .u8 xs2], 5, true, false⟩, ⟨[.ints .u8 xs3], 5, true, false⟩]) := fun K => by kernel_rfl
    have r0 : -9223372036854775808 ≤ a0 ∧ a0 ≤ 9223372036854775807 := by simpa [Lit.wf, IntKind.min, IntKind.max, IntKind.signed, IntKind.bits] using w0
    rw [e]
    exact tls.g4 r0.1 r0.2 (by omega) rfl rfl
  refine (tls.T4_ok tls.C0_ok 4 _ _ _ (fun k => ([be2, be3] : List BE)[k]?) w _ (sim_ro _ ?_) ?_ hn).2.mono fun e w' h => h.held (by simp)
  · intro k e he
    match k, he with
    | 0, he => cases he; exact ⟨_, rfl, rfl, fun E => hr2 E 5⟩
    | 1, he => cases he; exact ⟨_, rfl, rfl, fun E => hr3 E 5⟩
    | k + 2, he => simp at he
  · simp only [VsRel, VRel]
    refine ⟨_, _, rfl, ⟨rfl, by simpa [inR, Lit.wf] using w0⟩, _, _, rfl, ⟨rfl, by simpa [inR, Lit.wf] using w1⟩, _, _, rfl, by simpa only [VRel] using hv2 (fun k => [be2, be3][k]?) 0 rfl, _, _, rfl, by simpa only [VRel] using hv3 (fun k => [be2, be3][k]?) 1 rfl, _, _, rfl, ⟨rfl, by simpa [inR, Lit.wf] using w4⟩, _, _, rfl, ⟨rfl, by simpa [inR, Lit.wf] using w5⟩, rfl⟩
theorem one_le {H : Type} (d : DataW H) : 1 ≤ Rows.uptoBulk d := by
  cases d with
  | lit l => cases l <;> simp [Rows.uptoBulk]
  | nil => simp [Rows.uptoBulk]
  | ptr d => simp [Rows.uptoBulk]
  | slice elems spare => simp [Rows.uptoBulk]
  | agg parts => simp [Rows.uptoBulk]
  | iface t d => simp [Rows.uptoBulk]
  | map entries => simp [Rows.uptoBulk]
  | held h => simp [Rows.uptoBulk]
theorem length_le {H : Type} (l : List (DataW H)) : l.length ≤ Rows.uptoBulkAll l := by
  induction l with
  | nil => simp [Rows.uptoBulkAll]
  | cons x r ih => have := one_le x; simp only [Rows.uptoBulkAll, List.length_cons]; omega
theorem slice_le {H : Type} (elems spare : List (DataW H)) : elems.length + spare.length + 1 ≤ Rows.uptoBulk (.slice elems spare) := by
  have h1 := length_le elems
  have h2 := length_le spare
  simp only [Rows.uptoBulk]
  omega
theorem bound {H : Type} {l : List (DataW H)} (hk : Rows.uptoSmall H l = true) : Rows.uptoBulkAll l ≤ 1048576 := of_decide_eq_true hk
set_option maxRecDepth 100000 in
theorem contract (H : Type) (enc : TypeId × Value → H) (W : World) (base : Nat) (args : Array Value) (ds gs : List (DataW H)) (before : List MemPlace)
    (hval0 : ∀ (j : Nat) t v, Try.f4.params[j]? = some t → args[j]? = some v → Value.okWide Try.prog W .any base t v)
    (hW : DataW.Whole enc Try.prog Try.f4.params.toList Rows.tlsLengthSpec.vars false W args.toList ds gs before) (hk : Rows.uptoSmall H (ds ++ gs) = true) :
    Calls Try.prog 4 args W fun e W' => ∃ v, e = .returned v ∧ Rows.tlsLengthSpec.post enc Try.prog Try.f4 false true false false W args v W' := by
  have hval : ∀ (j : Nat) t v, Try.f4.params[j]? = some t → args[j]? = some v → Value.okWide Try.prog W .any base t v := hval0
  have hW' := hW
  obtain ⟨p, q, hA0, hV, rfl, hfz, hnd⟩ := hW
  have hA : DataW.TrodAll enc Try.prog W 0 (fun _ => true) true Try.f4.params.toList args.toList ds p := hA0
  have hlt : ∀ x ∈ p, x.block < W.heap.size := hA0.lt
  rw [Try.params4] at hA hval
  obtain ⟨v0, vs0, d0, ds0, p0, q0, hargs, rfl, rfl, h0, r0⟩ := trodAll_cons hA
  obtain ⟨v1, vs1, d1, ds1, p1, q1, rfl, rfl, rfl, h1, r1⟩ := trodAll_cons r0
  obtain ⟨v2, vs2, d2, ds2, p2, q2, rfl, rfl, rfl, h2, r2⟩ := trodAll_cons r1
  obtain ⟨v3, vs3, d3, ds3, p3, q3, rfl, rfl, rfl, h3, r3⟩ := trodAll_cons r2
  obtain ⟨v4, vs4, d4, ds4, p4, q4, rfl, rfl, rfl, h4, r4⟩ := trodAll_cons r3
  obtain ⟨v5, vs5, d5, ds5, p5, q5, rfl, rfl, rfl, h5, r5⟩ := trodAll_cons r4
  obtain ⟨rfl, rfl, rfl⟩ := trodAll_nil r5
  obtain rfl : args = #[v0, v1, v2, v3, v4, v5] := by cases args; simp_all
  obtain ⟨rfl, rfl⟩ := trodVars_none hV
  obtain ⟨a0, rfl, rfl, rfl, w0⟩ := open_int Try.underlying3 (hval 0 3 v0 rfl rfl) h0
  obtain ⟨a1, rfl, rfl, rfl, w1⟩ := open_int Try.underlying3 (hval 1 3 v1 rfl rfl) h1
  obtain ⟨n2, hn2⟩ := h2
  obtain ⟨xs2, be2, hv2, hr2, hd2, hx2⟩ := open_nums Try.underlying22 Try.underlying5 (by kernel_rfl) (hval 2 22 v2 rfl rfl) hn2
  obtain ⟨n3, hn3⟩ := h3
  obtain ⟨xs3, be3, hv3, hr3, hd3, hx3⟩ := open_nums Try.underlying22 Try.underlying5 (by kernel_rfl) (hval 3 22 v3 rfl rfl) hn3
  obtain ⟨a4, rfl, rfl, rfl, w4⟩ := open_int Try.underlying3 (hval 4 3 v4 rfl rfl) h4
  obtain ⟨a5, rfl, rfl, rfl, w5⟩ := open_int Try.underlying3 (hval 5 3 v5 rfl rfl) h5
  clear hval0
  simp only [List.append_nil] at hW' hk
  have hb : xs2.length + xs3.length ≤ 1048576 := by
    have hbk := bound hk
    simp only [Rows.uptoBulkAll] at hbk
    have q2 : xs2.length ≤ Rows.uptoBulk d2 := by
      rcases hd2 with ⟨e1, e2⟩ | ⟨e1, e2, e3, e4⟩
      · rw [e2]; exact Nat.zero_le _
      · have e3 : d2 = _ := e3
        rw [e3, ← e4]; have := slice_le e1 e2; omega
    have q3 : xs3.length ≤ Rows.uptoBulk d3 := by
      rcases hd3 with ⟨e1, e2⟩ | ⟨e1, e2, e3, e4⟩
      · rw [e2]; exact Nat.zero_le _
      · have e3 : d3 = _ := e3
        rw [e3, ← e4]; have := slice_le e1 e2; omega
    omega
  refine (walk W a0 w0 a1 w1 v2 xs2 be2 hv2 hr2 hx2 v3 xs3 be3 hv3 hr3 hx3 a4 w4 a5 w5 hb).mono fun e W' ⟨he, hg, hold⟩ => ?_
  subst he
  exact ⟨_, rfl, post_of_same (pv := []) hW' (fun _ _ _ => (trodAll_cons_mk (shut_bool Try.underlying4 _) trodAll_mk0)) (fun sp hsp => DataW.TrodAll.respare kids full (by rw [Try.params4]; decide) (trodAll_grown hold hA0 hlt) (fun x hx => hsp x (by simpa using hx))) (fun _ _ => rfl) (by simp)
    (hg.frame _) hg.2.1 (ok_one (by kernel_rfl) rfl (okWide_bool_mk Try.underlying4 _))⟩
set_option maxRecDepth 100000 in
theorem lifted (os : Os) (started : os.Started) (H : Type) (enc : TypeId × Value → H) (F : Stop.Interp) :
    ReturnsInHanded {} Try.checked os 4 .any ((Rows.OpenSpec.upto Rows.tlsLengthSpec).pre6 enc Try.prog Try.f4 Rows.tlsLengthUptoRow.domain false) (((Rows.OpenSpec.upto Rows.tlsLengthSpec).at F).post enc Try.prog Try.f4 false true false false) := by
  refine returnsInHanded_of_cond (C := Try.checked) (s := Rows.OpenSpec.upto Rows.tlsLengthSpec) (k := Rows.uptoSmall) rfl own started (by kernel_rfl) Try.func4
    (OpenSpec.witness (enc := enc) (C := Try.checked) (s := Rows.OpenSpec.upto Rows.tlsLengthSpec) (k := Rows.uptoSmall) rfl false ⟨#[], #[.int .i64 0, .int .i64 0, .slice none 0 0, .slice none 0 0, .int .i64 0, .int .i64 0], []⟩ 8 (by kernel_rfl) (by kernel_rfl) (by kernel_rfl)
      (x := ([.lit (.int .i64 0), .lit (.int .i64 0), .nil, .nil, .lit (.int .i64 0), .lit (.int .i64 0)], [], [])) (by kernel_rfl) rfl (by kernel_rfl)) ?_
  intro W base args ds gs before hval hW _ hk _
  exact contract H enc W base args ds gs before hval hW hk
theorem over : Rows.tlsLengthUptoRow.holds Try.pinned (Rows.OpenSpec.upto Rows.tlsLengthSpec) :=
  OpenClaim.holds_of_cond 4 Try.f4 rfl rfl rfl rfl rfl rfl rfl ⟨rfl, rfl, rfl, rfl, rfl⟩ rfl rfl rfl rfl rfl (by kernel_rfl) Try.func4 (by kernel_rfl)
    (of_decide_eq_true (by kernel_rfl)) (by unfold Func.isWrapper; first | (rw [if_pos (by decide +kernel)]; kernel_rfl) | (rw [if_neg (by decide +kernel)]; exact ⟨rfl, rfl⟩))
    (fun os started H enc _ F => lifted os started H enc F)
theorem proved : Rows.TlsLengthUptoSaid := over
#print axioms proved
end Go.Proofs.Ytnndiicpiolddaa.tlsLength
namespace Go.Proofs.Ytnndiicpiolddaa
theorem tlsLength_holds : Rows.TlsLengthUptoSaid := tlsLength.proved
end Go.Proofs.Ytnndiicpiolddaa
