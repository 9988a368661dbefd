/-
  'gangwaylaw07.MachineNil' returns true for every input, and leaves what it was handed as it was. No condition.
-/
import Derived.Test.YtalikdlmmhblkaaGreatMn1
import Derived.Test.YtalikdlmmhblkaaGreatRows
import Derived.WalkKit
import Derived.ProofKit
import Derived.OpenShut
import Derived.ChangeMaps5
import Derived.JoinedCond
import Derived.Test.YtalikdlmmhblkaaGreatAbLaw
namespace Go.Proofs.YtalikdlmmhblkaaGreat.machineNil
open Go.ChangeMaps Go.ChangeShapes Go.WideShapes Go.ChangeAt Go.RowKit Go.Ab
set_option linter.unusedVariables false
theorem own : ownKnob Tryz.prog.godebug = none := by kernel_rfl
theorem kids : Kids Tryz.prog (· < Tryz.prog.types.size) := kids_rows (by kernel_rfl) (by kernel_rfl)
theorem full : ∀ t e, t < Tryz.prog.types.size → Tryz.prog.underlying t = some (.slice e) → 0 < Tryz.prog.cellsOf e := slices_full_of _ (by kernel_rfl)
set_option maxHeartbeats 4000000 in
theorem walk (w : World) (z0_0 : Int) (wz0_0 : inR .u64 z0_0 = true) (z0_1 : Int) (wz0_1 : inR .u64 z0_1 = true) (z0_2 : Int) (wz0_2 : inR .u64 z0_2 = true) (z0_3 : Int) (wz0_3 : inR .u64 z0_3 = true) (z0_4 : Int) (wz0_4 : inR .u64 z0_4 = true) (z0_5 : Int) (wz0_5 : inR .u64 z0_5 = true) (z0_6 : Int) (wz0_6 : inR .u64 z0_6 = true) (z0_7 : Int) (wz0_7 : inR .u64 z0_7 = true) (z0_8 : Int) (wz0_8 : inR .u64 z0_8 = true) (z0_9 : Int) (wz0_9 : inR .u64 z0_9 = true) (z0_10 : Int) (wz0_10 : inR .u64 z0_10 = true) (z0_11 : Int) (wz0_11 : inR .u64 z0_11 = true) (z0_12 : Int) (wz0_12 : inR .u64 z0_12 = true) (z0_13 : Int) (wz0_13 : inR .u64 z0_13 = true) (z0_14 : Int) (wz0_14 : inR .u64 z0_14 = true) (z0_15 : Int) (wz0_15 : inR .u64 z0_15 = true) (z0_16 : Int) (wz0_16 : inR .u64 z0_16 = true) (z0_17 : Int) (wz0_17 : inR .u64 z0_17 = true) (z0_18 : Bool) (z0_19 : Bool) (z0_20 : Bool) (z0_21 : Bool) (z0_22 : Bool) (a1 : Int) (w1 : inR .i64 a1 = true) :
    Calls Tryz.prog 4 #[.agg #[.int .u64 z0_0, .int .u64 z0_1, .int .u64 z0_2, .int .u64 z0_3, .int .u64 z0_4, .int .u64 z0_5, .int .u64 z0_6, .int .u64 z0_7, .int .u64 z0_8, .int .u64 z0_9, .int .u64 z0_10, .int .u64 z0_11, .int .u64 z0_12, .int .u64 z0_13, .int .u64 z0_14, .int .u64 z0_15, .int .u64 z0_16, .int .u64 z0_17, .bool z0_18, .bool z0_19, .bool z0_20, .bool z0_21, .bool z0_22], .int .i64 a1] w (Held w) := by
  have ha : VsRel (fun k => ([] : List BE)[k]?) [.agg [.I .u64 z0_0, .I .u64 z0_1, .I .u64 z0_2, .I .u64 z0_3, .I .u64 z0_4, .I .u64 z0_5, .I .u64 z0_6, .I .u64 z0_7, .I .u64 z0_8, .I .u64 z0_9, .I .u64 z0_10, .I .u64 z0_11, .I .u64 z0_12, .I .u64 z0_13, .I .u64 z0_14, .I .u64 z0_15, .I .u64 z0_16, .I .u64 z0_17, .B z0_18, .B z0_19, .B z0_20, .B z0_21, .B z0_22], .I .i64 a1] (#[.agg #[.int .u64 z0_0, .int .u64 z0_1, .int .u64 z0_2, .int .u64 z0_3, .int .u64 z0_4, .int .u64 z0_5, .int .u64 z0_6, .int .u64 z0_7, .int .u64 z0_8, .int .u64 z0_9, .int .u64 z0_10, .int .u64 z0_11, .int .u64 z0_12, .int .u64 z0_13, .int .u64 z0_14, .int .u64 z0_15, .int .u64 z0_16, .int .u64 z0_17, .bool z0_18, .bool z0_19, .bool z0_20, .bool z0_21, .bool z0_22], .int .i64 a1] : Array Value).toList := by
    simp only [VsRel, VRel]
    exact ⟨_, _, rfl, ⟨_, rfl, ⟨_, _, rfl, ⟨rfl, wz0_0⟩, _, _, rfl, ⟨rfl, wz0_1⟩, _, _, rfl, ⟨rfl, wz0_2⟩, _, _, rfl, ⟨rfl, wz0_3⟩, _, _, rfl, ⟨rfl, wz0_4⟩, _, _, rfl, ⟨rfl, wz0_5⟩, _, _, rfl, ⟨rfl, wz0_6⟩, _, _, rfl, ⟨rfl, wz0_7⟩, _, _, rfl, ⟨rfl, wz0_8⟩, _, _, rfl, ⟨rfl, wz0_9⟩, _, _, rfl, ⟨rfl, wz0_10⟩, _, _, rfl, ⟨rfl, wz0_11⟩, _, _, rfl, ⟨rfl, wz0_12⟩, _, _, rfl, ⟨rfl, wz0_13⟩, _, _, rfl, ⟨rfl, wz0_14⟩, _, _, rfl, ⟨rfl, wz0_15⟩, _, _, rfl, ⟨rfl, wz0_16⟩, _, _, rfl, ⟨rfl, wz0_17⟩, _, _, rfl, rfl, _, _, rfl, rfl, _, _, rfl, rfl, _, _, rfl, rfl, _, _, rfl, rfl, rfl⟩, by simp [Value.oneCell']⟩, _, _, rfl, ⟨rfl, w1⟩, rfl⟩
  exact (calls_of mn.named (by kernel_rfl) (cbody_use mn.named mn.C0_ok mn.at4 (l := 0) rfl (LoopsOk.none _ _) (mn.nil_run z0_0 z0_1 z0_2 z0_3 z0_4 z0_5 z0_6 z0_7 z0_8 z0_9 z0_10 z0_11 z0_12 z0_13 z0_14 z0_15 z0_16 z0_17 a1 z0_18 z0_19 z0_20 z0_21 z0_22 (fun v _ => v = .B true)) (sim_ro [] (by intro k e he; simp at he)) ha rfl)).mono fun e w' h => h.held (by simp)
set_option maxRecDepth 100000 in
set_option maxHeartbeats 4000000 in
theorem contract (H : Type) (enc : TypeId × Value → H) (W : World) (base : Nat) (args : Array Value) (ds gs : List (DataW H)) (before : List MemPlace)
    (hval0 : ∀ (j : Nat) t v, Tryz.f4.params[j]? = some t → args[j]? = some v → Value.okWide Tryz.prog W .any base t v)
    (hW : DataW.Whole enc Tryz.prog Tryz.f4.params.toList Rows.machineNilSpec.vars false W args.toList ds gs before) :
    Calls Tryz.prog 4 args W fun e W' => ∃ v, e = .returned v ∧ Rows.machineNilSpec.post enc Tryz.prog Tryz.f4 false true false false W args v W' := by
  have hval : ∀ (j : Nat) t v, Tryz.f4.params[j]? = some t → args[j]? = some v → Value.okWide Tryz.prog W .any base t v := hval0
  have hW' := hW
  obtain ⟨p, q, hA0, hV, rfl, hfz, hnd⟩ := hW
  have hA : DataW.TrodAll enc Tryz.prog W 0 (fun _ => true) true Tryz.f4.params.toList args.toList ds p := hA0
  have hlt : ∀ x ∈ p, x.block < W.heap.size := hA0.lt
  rw [Tryz.params4] at hA hval
  obtain ⟨v0, vs0, d0, ds0, p0, q0, hargs, rfl, rfl, h0, r0⟩ := trodAll_cons hA
  obtain ⟨v1, vs1, d1, ds1, p1, q1, rfl, rfl, rfl, h1, r1⟩ := trodAll_cons r0
  obtain ⟨rfl, rfl, rfl⟩ := trodAll_nil r1
  obtain rfl : args = #[v0, v1] := by cases args; simp_all
  obtain ⟨rfl, rfl⟩ := trodVars_none hV
  obtain ⟨cs0, rfl, hl0, hc0⟩ := open_cells Tryz.underlying27 (ts := [22, 22, 22, 22, 22, 22, 22, 22, 22, 22, 22, 22, 22, 22, 22, 22, 22, 22, 4, 4, 4, 4, 4]) (by kernel_rfl) (by kernel_rfl) (hval 0 27 v0 rfl rfl)
  obtain ⟨c0_0, c0_1, c0_2, c0_3, c0_4, c0_5, c0_6, c0_7, c0_8, c0_9, c0_10, c0_11, c0_12, c0_13, c0_14, c0_15, c0_16, c0_17, c0_18, c0_19, c0_20, c0_21, c0_22, rfl⟩ : ∃ c0_0 c0_1 c0_2 c0_3 c0_4 c0_5 c0_6 c0_7 c0_8 c0_9 c0_10 c0_11 c0_12 c0_13 c0_14 c0_15 c0_16 c0_17 c0_18 c0_19 c0_20 c0_21 c0_22, cs0 = [c0_0, c0_1, c0_2, c0_3, c0_4, c0_5, c0_6, c0_7, c0_8, c0_9, c0_10, c0_11, c0_12, c0_13, c0_14, c0_15, c0_16, c0_17, c0_18, c0_19, c0_20, c0_21, c0_22] := by
    match cs0, hl0 with
    | [c0_0, c0_1, c0_2, c0_3, c0_4, c0_5, c0_6, c0_7, c0_8, c0_9, c0_10, c0_11, c0_12, c0_13, c0_14, c0_15, c0_16, c0_17, c0_18, c0_19, c0_20, c0_21, c0_22], _ => exact ⟨c0_0, c0_1, c0_2, c0_3, c0_4, c0_5, c0_6, c0_7, c0_8, c0_9, c0_10, c0_11, c0_12, c0_13, c0_14, c0_15, c0_16, c0_17, c0_18, c0_19, c0_20, c0_21, c0_22, rfl⟩
  obtain ⟨z0_0, rfl, wz0_0⟩ := cell_int Tryz.underlying22 (hc0 0 22 c0_0 rfl rfl)
  obtain ⟨z0_1, rfl, wz0_1⟩ := cell_int Tryz.underlying22 (hc0 1 22 c0_1 rfl rfl)
  obtain ⟨z0_2, rfl, wz0_2⟩ := cell_int Tryz.underlying22 (hc0 2 22 c0_2 rfl rfl)
  obtain ⟨z0_3, rfl, wz0_3⟩ := cell_int Tryz.underlying22 (hc0 3 22 c0_3 rfl rfl)
  obtain ⟨z0_4, rfl, wz0_4⟩ := cell_int Tryz.underlying22 (hc0 4 22 c0_4 rfl rfl)
  obtain ⟨z0_5, rfl, wz0_5⟩ := cell_int Tryz.underlying22 (hc0 5 22 c0_5 rfl rfl)
  obtain ⟨z0_6, rfl, wz0_6⟩ := cell_int Tryz.underlying22 (hc0 6 22 c0_6 rfl rfl)
  obtain ⟨z0_7, rfl, wz0_7⟩ := cell_int Tryz.underlying22 (hc0 7 22 c0_7 rfl rfl)
  obtain ⟨z0_8, rfl, wz0_8⟩ := cell_int Tryz.underlying22 (hc0 8 22 c0_8 rfl rfl)
  obtain ⟨z0_9, rfl, wz0_9⟩ := cell_int Tryz.underlying22 (hc0 9 22 c0_9 rfl rfl)
  obtain ⟨z0_10, rfl, wz0_10⟩ := cell_int Tryz.underlying22 (hc0 10 22 c0_10 rfl rfl)
  obtain ⟨z0_11, rfl, wz0_11⟩ := cell_int Tryz.underlying22 (hc0 11 22 c0_11 rfl rfl)
  obtain ⟨z0_12, rfl, wz0_12⟩ := cell_int Tryz.underlying22 (hc0 12 22 c0_12 rfl rfl)
  obtain ⟨z0_13, rfl, wz0_13⟩ := cell_int Tryz.underlying22 (hc0 13 22 c0_13 rfl rfl)
  obtain ⟨z0_14, rfl, wz0_14⟩ := cell_int Tryz.underlying22 (hc0 14 22 c0_14 rfl rfl)
  obtain ⟨z0_15, rfl, wz0_15⟩ := cell_int Tryz.underlying22 (hc0 15 22 c0_15 rfl rfl)
  obtain ⟨z0_16, rfl, wz0_16⟩ := cell_int Tryz.underlying22 (hc0 16 22 c0_16 rfl rfl)
  obtain ⟨z0_17, rfl, wz0_17⟩ := cell_int Tryz.underlying22 (hc0 17 22 c0_17 rfl rfl)
  obtain ⟨z0_18, rfl⟩ := cell_bool Tryz.underlying4 (hc0 18 4 c0_18 rfl rfl)
  obtain ⟨z0_19, rfl⟩ := cell_bool Tryz.underlying4 (hc0 19 4 c0_19 rfl rfl)
  obtain ⟨z0_20, rfl⟩ := cell_bool Tryz.underlying4 (hc0 20 4 c0_20 rfl rfl)
  obtain ⟨z0_21, rfl⟩ := cell_bool Tryz.underlying4 (hc0 21 4 c0_21 rfl rfl)
  obtain ⟨z0_22, rfl⟩ := cell_bool Tryz.underlying4 (hc0 22 4 c0_22 rfl rfl)
  obtain ⟨a1, rfl, rfl, rfl, w1⟩ := open_int Tryz.underlying3 (hval 1 3 v1 rfl rfl) h1
  clear hval0
  refine (walk W z0_0 wz0_0 z0_1 wz0_1 z0_2 wz0_2 z0_3 wz0_3 z0_4 wz0_4 z0_5 wz0_5 z0_6 wz0_6 z0_7 wz0_7 z0_8 wz0_8 z0_9 wz0_9 z0_10 wz0_10 z0_11 wz0_11 z0_12 wz0_12 z0_13 wz0_13 z0_14 wz0_14 z0_15 wz0_15 z0_16 wz0_16 z0_17 wz0_17 z0_18 z0_19 z0_20 z0_21 z0_22 a1 (by simpa [inR, Lit.wf] using w1)).mono fun e W' ⟨he, hg, hold⟩ => ?_
  subst he
  exact ⟨_, rfl, post_of_held (pv := []) hW' (fun _ _ _ => (trodAll_cons_mk (shut_bool Tryz.underlying4 _) trodAll_mk0)) (fun sp hsp => DataW.TrodAll.respare kids full (by rw [Tryz.params4]; decide) (trodAll_grown hold hA0 hlt) (fun x hx => hsp x (by simpa using hx))) (fun _ _ => rfl) (by simp)
    (World.keptBut_mono (fun _ f => f.elim) hg.1) hold (ok_one (by kernel_rfl) rfl (okWide_bool_mk Tryz.underlying4 _))⟩
set_option maxRecDepth 100000 in
theorem lifted (os : Os) (started : os.Started) (H : Type) (enc : TypeId × Value → H) :
    ReturnsInHanded {} Tryz.checked os 4 .any (Rows.machineNilSpec.pre6 enc Tryz.prog Tryz.f4 Rows.machineNilRow.domain false) (Rows.machineNilSpec.post enc Tryz.prog Tryz.f4 false true false false) := by
  refine returnsInHanded_of_change (C := Tryz.checked) own started (by kernel_rfl) Tryz.func4
    (ChangeSpec.witness6 (enc := enc) (C := Tryz.checked) false ⟨#[], #[.agg #[.int .u64 0, .int .u64 0, .int .u64 0, .int .u64 0, .int .u64 0, .int .u64 0, .int .u64 0, .int .u64 0, .int .u64 0, .int .u64 0, .int .u64 0, .int .u64 0, .int .u64 0, .int .u64 0, .int .u64 0, .int .u64 0, .int .u64 0, .int .u64 0, .bool false, .bool false, .bool false, .bool false, .bool false], .int .i64 0], []⟩ 12 (by kernel_rfl) (by kernel_rfl) (by kernel_rfl) (by kernel_rfl)) ?_
  intro W base args ds gs before hval hW hcnd _
  exact contract H enc W base args ds gs before hval hW
theorem over : Rows.machineNilRow.holds Tryz.pinned (OpenSpec.ofChange Rows.machineNilSpec) :=
  OpenClaim.holds_of_wide 4 Tryz.f4 rfl rfl rfl rfl rfl rfl rfl ⟨rfl, rfl, rfl, rfl, rfl⟩ rfl rfl rfl rfl rfl (by kernel_rfl) Tryz.func4 (by kernel_rfl)
    (of_decide_eq_true (by kernel_rfl)) (by unfold Func.isWrapper; first | (rw [if_pos (by decide +kernel)]; kernel_rfl) | (rw [if_neg (by decide +kernel)]; exact ⟨rfl, rfl⟩))
    (fun os started H enc _ => lifted os started H enc)
theorem proved : Rows.MachineNilSaid := over
#print axioms proved
end Go.Proofs.YtalikdlmmhblkaaGreat.machineNil
namespace Go.Proofs.YtalikdlmmhblkaaGreat
theorem machineNil_holds : Rows.MachineNilSaid := machineNil.proved
end Go.Proofs.YtalikdlmmhblkaaGreat
