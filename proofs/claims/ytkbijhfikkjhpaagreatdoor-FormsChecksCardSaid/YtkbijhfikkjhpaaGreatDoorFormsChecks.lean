/-
  'gangwaylaw03.FormsChecks' returns true for every input, and leaves what it was handed as it was. No condition; the table of powers of ten is what the row lists.
-/
import Derived.Test.YtkbijhfikkjhpaaGreatDoorTxt5
import Derived.Test.YtkbijhfikkjhpaaGreatDoorTie
import Derived.Test.YtkbijhfikkjhpaaGreatDoorCards
import Derived.WalkKit
import Derived.ProofKit
import Derived.OpenShut
import Derived.ChangeMaps5
import Derived.JoinedCond
import Derived.Test.YtkbijhfikkjhpaaGreatDoorAbLaw
import Derived.Deep.DeepLaidRun
import Derived.LaidHandle
import Derived.LaidLaws
import Derived.Stop.LaidErr
import Derived.MakeChecks
import Derived.Lib.LaidTab
import Derived.RowKitTokens
import Derived.SevenTiedAt
namespace Go.Proofs.YtkbijhfikkjhpaaGreatDoor.formsChecks
open Go.ChangeMaps Go.ChangeShapes Go.WideShapes Go.ChangeAt Go.RowKit Go.Ab
set_option linter.unusedVariables false
theorem own : ownKnob Tryz.prog.godebug = none := by kernel_rfl
theorem kids : Kids Tryz.prog (· < Tryz.prog.types.size) := kids_rows (by kernel_rfl) (by kernel_rfl)
theorem full : ∀ t e, t < Tryz.prog.types.size → Tryz.prog.underlying t = some (.slice e) → 0 < Tryz.prog.cellsOf e := slices_full_of _ (by kernel_rfl)
set_option maxHeartbeats 4000000 in
theorem walk (w : World) (ht : TabOk w 1) (z0_0 : Int) (wz0_0 : inR .i64 z0_0 = true) (z0_1 : Int) (wz0_1 : inR .i64 z0_1 = true) (z0_2 : Int) (wz0_2 : inR .i64 z0_2 = true) (z0_3 : Int) (wz0_3 : inR .i64 z0_3 = true) (z0_4 : Int) (wz0_4 : inR .i64 z0_4 = true) (z0_5 : Int) (wz0_5 : inR .i64 z0_5 = true) (z0_6 : Int) (wz0_6 : inR .i64 z0_6 = true) (z0_7 : Int) (wz0_7 : inR .i64 z0_7 = true) (z0_8 : Bool) (z0_9 : Bool) (z0_10 : Int) (wz0_10 : inR .i64 z0_10 = true) (z0_11 : ByteArray) (wz0_11 : z0_11.size ≤ 9223372036854775807) (z0_12 : Int) (wz0_12 : inR .i64 z0_12 = true) (z0_13 : Int) (wz0_13 : inR .i64 z0_13 = true) (z0_14 : Int) (wz0_14 : inR .i64 z0_14 = true) (z0_15 : Int) (wz0_15 : inR .i64 z0_15 = true) (z0_16 : Int) (wz0_16 : inR .i64 z0_16 = true) (z0_17 : Int) (wz0_17 : inR .i64 z0_17 = true) (z0_18 : Bool) (z0_19 : Bool) (z0_20 : Int) (wz0_20 : inR .i64 z0_20 = true) (z0_21 : ByteArray) (wz0_21 : z0_21.size ≤ 9223372036854775807) (z0_22 : Int) (wz0_22 : inR .i64 z0_22 = true) (z0_23 : Bool) :
    Calls Tryz.prog 3 #[.agg #[.int .i64 z0_0, .int .i64 z0_1, .int .i64 z0_2, .int .i64 z0_3, .int .i64 z0_4, .int .i64 z0_5, .int .i64 z0_6, .int .i64 z0_7, .bool z0_8, .bool z0_9, .int .i64 z0_10, .string z0_11, .int .i64 z0_12, .int .i64 z0_13, .int .i64 z0_14, .int .i64 z0_15, .int .i64 z0_16, .int .i64 z0_17, .bool z0_18, .bool z0_19, .int .i64 z0_20, .string z0_21, .int .i64 z0_22, .bool z0_23]] w (Held w) := by
  have ha : VsRel (fun k => ([] : List BE)[k]?) [.agg [.I .i64 z0_0, .I .i64 z0_1, .I .i64 z0_2, .I .i64 z0_3, .I .i64 z0_4, .I .i64 z0_5, .I .i64 z0_6, .I .i64 z0_7, .B z0_8, .B z0_9, .I .i64 z0_10, .S (bytesI z0_11), .I .i64 z0_12, .I .i64 z0_13, .I .i64 z0_14, .I .i64 z0_15, .I .i64 z0_16, .I .i64 z0_17, .B z0_18, .B z0_19, .I .i64 z0_20, .S (bytesI z0_21), .I .i64 z0_22, .B z0_23]] (#[.agg #[.int .i64 z0_0, .int .i64 z0_1, .int .i64 z0_2, .int .i64 z0_3, .int .i64 z0_4, .int .i64 z0_5, .int .i64 z0_6, .int .i64 z0_7, .bool z0_8, .bool z0_9, .int .i64 z0_10, .string z0_11, .int .i64 z0_12, .int .i64 z0_13, .int .i64 z0_14, .int .i64 z0_15, .int .i64 z0_16, .int .i64 z0_17, .bool z0_18, .bool z0_19, .int .i64 z0_20, .string z0_21, .int .i64 z0_22, .bool z0_23]] : Array Value).toList := by
    simp only [VsRel, VRel]
    exact ⟨_, _, rfl, ⟨_, rfl, ⟨_, _, rfl, ⟨rfl, wz0_0⟩, _, _, rfl, ⟨rfl, wz0_1⟩, _, _, rfl, ⟨rfl, wz0_2⟩, _, _, rfl, ⟨rfl, wz0_3⟩, _, _, rfl, ⟨rfl, wz0_4⟩, _, _, rfl, ⟨rfl, wz0_5⟩, _, _, rfl, ⟨rfl, wz0_6⟩, _, _, rfl, ⟨rfl, wz0_7⟩, _, _, rfl, rfl, _, _, rfl, rfl, _, _, rfl, ⟨rfl, wz0_10⟩, _, _, rfl, ⟨z0_11, rfl, rfl, wz0_11⟩, _, _, rfl, ⟨rfl, wz0_12⟩, _, _, rfl, ⟨rfl, wz0_13⟩, _, _, rfl, ⟨rfl, wz0_14⟩, _, _, rfl, ⟨rfl, wz0_15⟩, _, _, rfl, ⟨rfl, wz0_16⟩, _, _, rfl, ⟨rfl, wz0_17⟩, _, _, rfl, rfl, _, _, rfl, rfl, _, _, rfl, ⟨rfl, wz0_20⟩, _, _, rfl, ⟨z0_21, rfl, rfl, wz0_21⟩, _, _, rfl, ⟨rfl, wz0_22⟩, _, _, rfl, rfl, rfl⟩, by simp [Value.oneCell']⟩, rfl⟩
  exact (calls_of frm.named (by kernel_rfl) (cbody_use frm.named frm.CK_ok frm.at3 (l := 0) rfl (LoopsOk.none _ _) (frm.F3_ok z0_0 z0_1 z0_2 z0_3 z0_4 z0_5 z0_6 z0_7 z0_8 z0_9 z0_10 (bytesI z0_11) z0_12 z0_13 z0_14 z0_15 z0_16 z0_17 z0_18 z0_19 z0_20 (bytesI z0_21) z0_22 z0_23 (fun v _ => v = .B true)) (sim_ro [] (by intro k e he; simp at he) (fun j hj => by obtain rfl : j = 1 := hj; exact ht)) ha (frm.h3 z0_0 z0_1 z0_2 z0_3 z0_4 z0_5 z0_6 z0_7 z0_8 z0_9 z0_10 (bytesI z0_11) z0_12 z0_13 z0_14 z0_15 z0_16 z0_17 z0_18 z0_19 z0_20 (bytesI z0_21) z0_22 z0_23 _ _ rfl))).mono fun e w' h => h.held (by simp)
set_option maxRecDepth 100000 in
set_option maxHeartbeats 4000000 in
theorem contract (H : Type) (enc : TypeId × Value → H) (W : World) (ht : TabOk W 1) (base : Nat) (args : Array Value) (ds gs : List (DataW H)) (before : List MemPlace)
    (hval0 : ∀ (j : Nat) t v, Tryz.f3.params[j]? = some t → args[j]? = some v → Value.okWide Tryz.prog W .any base t v)
    (hW : DataW.Whole enc Tryz.prog Tryz.f3.params.toList Rows.formsChecksSpec.vars false W args.toList ds gs before) :
    Calls Tryz.prog 3 args W fun e W' => ∃ v, e = .returned v ∧ Rows.formsChecksSpec.post enc Tryz.prog Tryz.f3 false true false false W args v W' := by
  have hval : ∀ (j : Nat) t v, Tryz.f3.params[j]? = some t → args[j]? = some v → Value.okWide Tryz.prog W .any base t v := hval0
  have hW' := hW
  obtain ⟨p, q, hA0, hV, rfl, hfz, hnd⟩ := hW
  have hA : DataW.TrodAll enc Tryz.prog W 0 (fun _ => true) true Tryz.f3.params.toList args.toList ds p := hA0
  have hlt : ∀ x ∈ p, x.block < W.heap.size := hA0.lt
  rw [Tryz.params3] at hA hval
  obtain ⟨v0, vs0, d0, ds0, p0, q0, hargs, rfl, rfl, h0, r0⟩ := trodAll_cons hA
  obtain ⟨rfl, rfl, rfl⟩ := trodAll_nil r0
  obtain rfl : args = #[v0] := by cases args; simp_all
  obtain ⟨rfl, rfl⟩ := trodVars_none hV
  obtain ⟨cs0, rfl, hl0, hc0⟩ := open_cells Tryz.underlying25 (ts := [3, 3, 3, 3, 3, 3, 3, 3, 4, 4, 3, 9, 3, 3, 3, 3, 3, 3, 4, 4, 3, 9, 3, 4]) (by kernel_rfl) (by kernel_rfl) (hval 0 25 v0 rfl rfl)
  obtain ⟨c0_0, c0_1, c0_2, c0_3, c0_4, c0_5, c0_6, c0_7, c0_8, c0_9, c0_10, c0_11, c0_12, c0_13, c0_14, c0_15, c0_16, c0_17, c0_18, c0_19, c0_20, c0_21, c0_22, c0_23, rfl⟩ : ∃ c0_0 c0_1 c0_2 c0_3 c0_4 c0_5 c0_6 c0_7 c0_8 c0_9 c0_10 c0_11 c0_12 c0_13 c0_14 c0_15 c0_16 c0_17 c0_18 c0_19 c0_20 c0_21 c0_22 c0_23, cs0 = [c0_0, c0_1, c0_2, c0_3, c0_4, c0_5, c0_6, c0_7, c0_8, c0_9, c0_10, c0_11, c0_12, c0_13, c0_14, c0_15, c0_16, c0_17, c0_18, c0_19, c0_20, c0_21, c0_22, c0_23] := by
    match cs0, hl0 with
    | [c0_0, c0_1, c0_2, c0_3, c0_4, c0_5, c0_6, c0_7, c0_8, c0_9, c0_10, c0_11, c0_12, c0_13, c0_14, c0_15, c0_16, c0_17, c0_18, c0_19, c0_20, c0_21, c0_22, c0_23], _ => exact ⟨c0_0, c0_1, c0_2, c0_3, c0_4, c0_5, c0_6, c0_7, c0_8, c0_9, c0_10, c0_11, c0_12, c0_13, c0_14, c0_15, c0_16, c0_17, c0_18, c0_19, c0_20, c0_21, c0_22, c0_23, rfl⟩
  obtain ⟨z0_0, rfl, wz0_0⟩ := cell_int Tryz.underlying3 (hc0 0 3 c0_0 rfl rfl)
  obtain ⟨z0_1, rfl, wz0_1⟩ := cell_int Tryz.underlying3 (hc0 1 3 c0_1 rfl rfl)
  obtain ⟨z0_2, rfl, wz0_2⟩ := cell_int Tryz.underlying3 (hc0 2 3 c0_2 rfl rfl)
  obtain ⟨z0_3, rfl, wz0_3⟩ := cell_int Tryz.underlying3 (hc0 3 3 c0_3 rfl rfl)
  obtain ⟨z0_4, rfl, wz0_4⟩ := cell_int Tryz.underlying3 (hc0 4 3 c0_4 rfl rfl)
  obtain ⟨z0_5, rfl, wz0_5⟩ := cell_int Tryz.underlying3 (hc0 5 3 c0_5 rfl rfl)
  obtain ⟨z0_6, rfl, wz0_6⟩ := cell_int Tryz.underlying3 (hc0 6 3 c0_6 rfl rfl)
  obtain ⟨z0_7, rfl, wz0_7⟩ := cell_int Tryz.underlying3 (hc0 7 3 c0_7 rfl rfl)
  obtain ⟨z0_8, rfl⟩ := cell_bool Tryz.underlying4 (hc0 8 4 c0_8 rfl rfl)
  obtain ⟨z0_9, rfl⟩ := cell_bool Tryz.underlying4 (hc0 9 4 c0_9 rfl rfl)
  obtain ⟨z0_10, rfl, wz0_10⟩ := cell_int Tryz.underlying3 (hc0 10 3 c0_10 rfl rfl)
  obtain ⟨z0_11, rfl, wz0_11⟩ := cell_str Tryz.underlying9 (hc0 11 9 c0_11 rfl rfl)
  obtain ⟨z0_12, rfl, wz0_12⟩ := cell_int Tryz.underlying3 (hc0 12 3 c0_12 rfl rfl)
  obtain ⟨z0_13, rfl, wz0_13⟩ := cell_int Tryz.underlying3 (hc0 13 3 c0_13 rfl rfl)
  obtain ⟨z0_14, rfl, wz0_14⟩ := cell_int Tryz.underlying3 (hc0 14 3 c0_14 rfl rfl)
  obtain ⟨z0_15, rfl, wz0_15⟩ := cell_int Tryz.underlying3 (hc0 15 3 c0_15 rfl rfl)
  obtain ⟨z0_16, rfl, wz0_16⟩ := cell_int Tryz.underlying3 (hc0 16 3 c0_16 rfl rfl)
  obtain ⟨z0_17, rfl, wz0_17⟩ := cell_int Tryz.underlying3 (hc0 17 3 c0_17 rfl rfl)
  obtain ⟨z0_18, rfl⟩ := cell_bool Tryz.underlying4 (hc0 18 4 c0_18 rfl rfl)
  obtain ⟨z0_19, rfl⟩ := cell_bool Tryz.underlying4 (hc0 19 4 c0_19 rfl rfl)
  obtain ⟨z0_20, rfl, wz0_20⟩ := cell_int Tryz.underlying3 (hc0 20 3 c0_20 rfl rfl)
  obtain ⟨z0_21, rfl, wz0_21⟩ := cell_str Tryz.underlying9 (hc0 21 9 c0_21 rfl rfl)
  obtain ⟨z0_22, rfl, wz0_22⟩ := cell_int Tryz.underlying3 (hc0 22 3 c0_22 rfl rfl)
  obtain ⟨z0_23, rfl⟩ := cell_bool Tryz.underlying4 (hc0 23 4 c0_23 rfl rfl)
  clear hval0
  refine (walk W ht z0_0 wz0_0 z0_1 wz0_1 z0_2 wz0_2 z0_3 wz0_3 z0_4 wz0_4 z0_5 wz0_5 z0_6 wz0_6 z0_7 wz0_7 z0_8 z0_9 z0_10 wz0_10 z0_11 wz0_11 z0_12 wz0_12 z0_13 wz0_13 z0_14 wz0_14 z0_15 wz0_15 z0_16 wz0_16 z0_17 wz0_17 z0_18 z0_19 z0_20 wz0_20 z0_21 wz0_21 z0_22 wz0_22 z0_23).mono fun e W' ⟨he, hg, hold⟩ => ?_
  subst he
  exact ⟨_, rfl, post_of_held (pv := []) hW' (fun _ _ _ => (trodAll_cons_mk (shut_bool Tryz.underlying4 _) trodAll_mk0)) (fun sp hsp => DataW.TrodAll.respare kids full (by rw [Tryz.params3]; decide) (trodAll_grown hold hA0 hlt) (fun x hx => hsp x (by simpa using hx))) (fun _ _ => rfl) (by simp)
    (World.keptBut_mono (fun _ f => f.elim) hg.1) hold (ok_one (by kernel_rfl) rfl (okWide_bool_mk Tryz.underlying4 _))⟩
/-- The table of powers of ten lies as the row says. -/
theorem tab_laid {W : World} (h : laidMetH Tryz.prog Rows.formsChecksRow.laid W) : TabOk W 1 := by
  rw [MakeChecks.laidMetH_plain _ _ _ (by kernel_rfl)] at h
  have h2 : laidMet Tryz.prog [("internal/strconv.uint64pow10", Lib.tabData .u64 Lib.pow10Tab)] W := laidMet.tail (laidMet.tail h)
  have h3 : Lib.TabIs Tryz.prog W "internal/strconv.uint64pow10" .u64 Lib.pow10Tab := Lib.tabIs_of_head (g := 1) (t := 91) (e := 84) (n := 20) (by kernel_rfl) (by kernel_rfl) (by kernel_rfl) (by kernel_rfl) (by kernel_rfl) (by kernel_rfl) h2
  unfold Lib.TabIs World.var? at h3
  rw [fc.tabAt] at h3
  simp only [Option.bind_some] at h3
  split at h3
  · rename_i cs t f hh
    simp only [Option.some.injEq] at h3
    exact ⟨_, hh, t, f, by rw [h3]⟩
  · cases h3
/-- A world in which the listed variables lie as their text says. -/
noncomputable def laidWorld (os : Os) : World :=
  let w0 := World.holding Tryz.prog os ⟨#[], #[], []⟩
  let put (h : Array Obj) (g : Nat) (cs : Array Value) : Array Obj := h.modify g fun
    | .cells _ t frozen => .cells cs t frozen
    | o => o
  { w0 with heap := put (put (put (w0.heap) 2 #[.int .u8 0, .int .u8 1, .int .u8 28, .int .u8 2, .int .u8 29, .int .u8 14, .int .u8 24, .int .u8 3, .int .u8 30, .int .u8 22, .int .u8 20, .int .u8 15, .int .u8 25, .int .u8 17, .int .u8 4, .int .u8 8, .int .u8 31, .int .u8 27, .int .u8 13, .int .u8 23, .int .u8 21, .int .u8 19, .int .u8 16, .int .u8 7, .int .u8 26, .int .u8 12, .int .u8 18, .int .u8 6, .int .u8 11, .int .u8 5, .int .u8 10, .int .u8 9]) 3 #[.int .u8 0, .int .u8 1, .int .u8 56, .int .u8 2, .int .u8 57, .int .u8 49, .int .u8 28, .int .u8 3, .int .u8 61, .int .u8 58, .int .u8 42, .int .u8 50, .int .u8 38, .int .u8 29, .int .u8 17, .int .u8 4, .int .u8 62, .int .u8 47, .int .u8 59, .int .u8 36, .int .u8 45, .int .u8 43, .int .u8 51, .int .u8 22, .int .u8 53, .int .u8 39, .int .u8 33, .int .u8 30, .int .u8 24, .int .u8 18, .int .u8 12, .int .u8 5, .int .u8 63, .int .u8 55, .int .u8 48, .int .u8 27, .int .u8 60, .int .u8 41, .int .u8 37, .int .u8 16, .int .u8 46, .int .u8 35, .int .u8 44, .int .u8 21, .int .u8 52, .int .u8 32, .int .u8 23, .int .u8 11, .int .u8 54, .int .u8 26, .int .u8 40, .int .u8 15, .int .u8 34, .int .u8 20, .int .u8 31, .int .u8 10, .int .u8 25, .int .u8 14, .int .u8 19, .int .u8 9, .int .u8 13, .int .u8 8, .int .u8 7, .int .u8 6]) 1 #[.int .u64 1, .int .u64 10, .int .u64 100, .int .u64 1000, .int .u64 10000, .int .u64 100000, .int .u64 1000000, .int .u64 10000000, .int .u64 100000000, .int .u64 1000000000, .int .u64 10000000000, .int .u64 100000000000, .int .u64 1000000000000, .int .u64 10000000000000, .int .u64 100000000000000, .int .u64 1000000000000000, .int .u64 10000000000000000, .int .u64 100000000000000000, .int .u64 1000000000000000000, .int .u64 10000000000000000000] }
theorem laid_met (os : Os) (args : Array Value) : laidMetH Tryz.prog Rows.formsChecksRow.laid ((laidWorld os).forCall (fun _ _ => 0) ⟨#[], args, []⟩).memory :=
  laidMetH_of_parts (laidMet_of_run3 10 (by kernel_rfl) (by kernel_rfl) (by kernel_rfl)) (by kernel_rfl)
set_option maxRecDepth 100000 in
theorem lifted (os : Os) (started : os.Started) (H : Type) (enc : TypeId × Value → H) :
    ReturnsInHanded {} Tryz.checked os 3 .any (fun w args => (Rows.formsChecksSpec.pre enc Tryz.prog Tryz.f3 [] false w args ∧ laidMetH Tryz.prog Rows.formsChecksRow.laid w) ∧ sizedMet enc Tryz.prog Tryz.f3 (OpenSpec.ofChange Rows.formsChecksSpec) false w args)
      (Rows.formsChecksSpec.post enc Tryz.prog Tryz.f3 false true false false) := by
  refine returnsInHanded_of_change_and (C := Tryz.checked) (X := fun w _ => laidMetH Tryz.prog Rows.formsChecksRow.laid w) (fun _ _ _ hh h => h.of_heap hh) own started (by kernel_rfl) Tryz.func3
    (ChangeSpec.witness_at (enc := enc) (C := Tryz.checked) (os := os) (X := fun w _ => laidMetH Tryz.prog Rows.formsChecksRow.laid w) false (laidWorld os) #[.agg #[.int .i64 0, .int .i64 0, .int .i64 0, .int .i64 0, .int .i64 0, .int .i64 0, .int .i64 0, .int .i64 0, .bool false, .bool false, .int .i64 0, .string .empty, .int .i64 0, .int .i64 0, .int .i64 0, .int .i64 0, .int .i64 0, .int .i64 0, .bool false, .bool false, .int .i64 0, .string .empty, .int .i64 0, .bool false]] 12 rfl (by kernel_rfl) (by kernel_rfl) (by kernel_rfl) (by kernel_rfl) (by kernel_rfl) (laid_met os _)) ?_
  intro W base args ds gs before hval hW _ _ hX _
  exact contract H enc W (tab_laid hX) base args ds gs before hval hW
theorem over : Rows.formsChecksRow.holds Tryz.pinned (OpenSpec.ofChange Rows.formsChecksSpec) :=
  OpenClaim.holds_of_wide 3 Tryz.f3 rfl rfl rfl rfl rfl rfl rfl ⟨rfl, rfl, rfl, rfl, rfl⟩ rfl rfl rfl rfl rfl (by kernel_rfl) Tryz.func3 (by kernel_rfl)
    (of_decide_eq_true (by kernel_rfl)) (by unfold Func.isWrapper; first | (rw [if_pos (by decide +kernel)]; kernel_rfl) | (rw [if_neg (by decide +kernel)]; exact ⟨rfl, rfl⟩))
    (fun os started H enc _ => lifted os started H enc)
theorem card : Rows.FormsChecksCardSaid :=
  Claim7.holds_tied_plain_at .later [] [.data, .data, .data] true (true, "cc9fba8ffc0ff8c0ac4293fc6df66f21171fa9570b17923329715e67457b91cd") false
    over (fun _ h => by cases h) (by kernel_rfl) (fun _ h => by cases h) formsChecks_row_tie rfl ⟨rfl, rfl⟩ (by kernel_rfl) rfl
    (fun f fn hf hfn => by
      obtain rfl : f = 3 := Option.some.inj ((show Tryz.prog.funcNamed Rows.formsChecksRow.func = some 3 by kernel_rfl).symm.trans hf) |>.symm
      obtain rfl : fn = Tryz.f3 := (Option.some.inj (Tryz.func3.symm.trans hfn)).symm
      exact ⟨by kernel_rfl, fun j t ht => by
        rw [Tryz.params3] at ht
        have hall : ∀ t ∈ [25], Tryz.prog.wantsStandIn t = false := by
          intro t ht
          simp only [List.mem_cons, List.not_mem_nil, or_false] at ht
          rcases ht with rfl <;> kernel_rfl
        exact hall t (by have := Array.mem_of_getElem? ht; simpa using this)⟩)
    (by kernel_rfl)
#print axioms card
end Go.Proofs.YtkbijhfikkjhpaaGreatDoor.formsChecks
namespace Go.Proofs.YtkbijhfikkjhpaaGreatDoor
theorem formsChecks_card : Rows.FormsChecksCardSaid := formsChecks.card
end Go.Proofs.YtkbijhfikkjhpaaGreatDoor
