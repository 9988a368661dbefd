import Derived.Test.YtnndiicpiolddaaProg
import Derived.Test.YtnndiicpiolddaaAbSee
import Derived.Test.YtnndiicpiolddaaShelfContains
import Derived.Lib.IndexAny
set_option linter.unusedVariables false
namespace Go.Proofs.Ytnndiicpiolddaa.app
open Go Go.Ab
theorem named : Named Try.prog := by
  have h : Try.prog.funcs.toList.all (fun fn => !(fn.name == "runtime.NumGoroutine")) = true := by kernel_rfl
  intro g fn hf
  have := List.all_eq_true.1 h fn (by rw [Array.getElem?_eq_some_iff] at hf; obtain ⟨h1, rfl⟩ := hf; simp)
  simpa using this
/-- strings.Contains at one byte. -/
def prims : Prims := fun f =>
  match Nat.beq f 127 with
  | true => some fun args _ => (match args with | [.S s, .S [c]] => some (true, .B (s.contains c)) | _ => none)
  | false => none
theorem at127 : Try.prog.funcs[127]? = some (fnOf Try.prog 127) := by kernel_rfl
theorem contains_map : ∀ (l : List UInt8) (b : UInt8), (l.map fun c => (c.toNat : Int)).contains (b.toNat : Int) = l.contains b
  | [], b => rfl
  | a :: l, b => by
    simp only [List.map_cons, List.contains_cons, contains_map l b]
    congr 1
    rw [Bool.eq_iff_iff]
    simp only [beq_iff_eq]
    constructor
    · intro h; exact UInt8.toNat_inj.1 (by omega)
    · intro h; rw [h]
theorem prims_ok : PrimsOk Try.prog prims := by
  intro f g h args m v E w cargs hS ha hg
  unfold prims at h
  split at h
  · rename_i hf
    obtain rfl := Nat.eq_of_beq_eq_true hf
    cases h
    dsimp only at hg
    split at hg
    · rename_i s c
      cases hg
      simp only [VsRel, VRel] at ha
      obtain ⟨c0, r0, e0, ⟨t, rfl, ht, _⟩, c1, r1, rfl, ⟨u, rfl, hu, _⟩, rfl⟩ := ha
      refine ⟨⟨_, at127, by kernel_rfl⟩, ?_⟩
      obtain ⟨b, hb, hbc⟩ : ∃ b : UInt8, u = ⟨#[b]⟩ ∧ (b.toNat : Int) = c := by
        obtain ⟨⟨l⟩⟩ := u
        match l, hu with
        | [b], hu => simp [bytesI] at hu; exact ⟨b, rfl, hu⟩
      subst hb
      have hc : cargs = #[.string t, .string ⟨#[b]⟩] := by apply Array.ext'; simpa using e0
      subst hc
      refine (Try.strings_Contains_one t b w).mono fun e w' he => ?_
      obtain ⟨rfl, rfl⟩ := he
      refine ⟨E, Step.refl hS, ?_⟩
      show VRel E (.B (s.contains c)) _
      simp only [VRel]
      rw [← ht, ← hbc, bytesI, contains_map, Lib.contains_iff_indexByte]
    · cases hg
  · cases h
def C0 : CC := call Try.prog prims 1000
theorem C0_ok : CallsOk Try.prog C0 := call_sound named prims_ok 1000
theorem at25 : Try.prog.funcs[25]? = some (fnOf Try.prog 25) := by kernel_rfl
abbrev Y25 : Type := (Prop) → Prop
set_option maxHeartbeats 4000000 in
set_option maxRecDepth 100000 in
def F25   (k1 : Prop) : Prop :=
  (k1)
theorem F25_ok   (K : V → Mem → Prop) : cbody Try.prog C0 (fun _ => none) 1000 (fnOf Try.prog 25) [] [] K =
    F25   (K (.B true) []) := by kernel_rfl
def G25 : Y25 := F25 
def VT25 (f : Y25) (F : Prop) (args : List V) (m : Mem) (K : V → Mem → Prop) : Prop :=
  (seeNil args F (seeNil m F (f  (K (.B true) []))))
def T25 (f : Y25) (C : CC) : CC := fun g args m K =>
  match Nat.beq g 25 with
  | true => VT25 f (C g args m K) args m K
  | false => C g args m K
set_option maxRecDepth 100000 in
theorem T25_ok {C : CC} (hC : CallsOk Try.prog C) : CallsOk Try.prog (T25 G25 C) := by
  intro g args m K E w cargs hS ha h
  unfold T25 at h
  split at h
  · rename_i hg
    obtain rfl := Nat.eq_of_beq_eq_true hg
    unfold VT25 at h
    replace h := seeNil_use h
    rcases h with h | ⟨rfl, h⟩
    · exact hC _ _ _ _ _ _ _ hS ha h
    replace h := seeNil_use h
    rcases h with h | ⟨rfl, h⟩
    · exact hC _ _ _ _ _ _ _ hS ha h
    exact cbody_use named C0_ok at25 (l := 0) rfl (LoopsOk.none _ _) (F25_ok   K) hS ha h
  · exact hC _ _ _ _ _ _ _ hS ha h
theorem at24 : Try.prog.funcs[24]? = some (fnOf Try.prog 24) := by kernel_rfl
abbrev Y24 : Type := Int → (Prop) → Prop
set_option maxHeartbeats 4000000 in
set_option maxRecDepth 100000 in
def F24  (a : Int) (k1 : Prop) : Prop :=
  (k1)
theorem F24_ok  (a : Int) (K : V → Mem → Prop) : cbody Try.prog C0 (fun _ => none) 1000 (fnOf Try.prog 24) [(.I .i64 a)] [] K =
    F24  a (K (.I .i64 a) []) := by kernel_rfl
def G24 : Y24 := F24 
def VT24 (f : Y24) (F : Prop) (args : List V) (m : Mem) (K : V → Mem → Prop) : Prop :=
  (seeCons args F fun a1 q2 => (seeI .i64 a1 F fun a => (seeNil q2 F (seeNil m F (f a (K (.I .i64 a) []))))))
def T24 (f : Y24) (C : CC) : CC := fun g args m K =>
  match Nat.beq g 24 with
  | true => VT24 f (C g args m K) args m K
  | false => C g args m K
set_option maxRecDepth 100000 in
theorem T24_ok {C : CC} (hC : CallsOk Try.prog C) : CallsOk Try.prog (T24 G24 C) := by
  intro g args m K E w cargs hS ha h
  unfold T24 at h
  split at h
  · rename_i hg
    obtain rfl := Nat.eq_of_beq_eq_true hg
    unfold VT24 at h
    replace h := seeCons_use h
    rcases h with h | ⟨a1, q2, rfl, h⟩
    · exact hC _ _ _ _ _ _ _ hS ha h
    replace h := seeI_use h
    rcases h with h | ⟨a, rfl, h⟩
    · exact hC _ _ _ _ _ _ _ hS ha h
    replace h := seeNil_use h
    rcases h with h | ⟨rfl, h⟩
    · exact hC _ _ _ _ _ _ _ hS ha h
    replace h := seeNil_use h
    rcases h with h | ⟨rfl, h⟩
    · exact hC _ _ _ _ _ _ _ hS ha h
    exact cbody_use named C0_ok at24 (l := 0) rfl (LoopsOk.none _ _) (F24_ok  a K) hS ha h
  · exact hC _ _ _ _ _ _ _ hS ha h
theorem at54 : Try.prog.funcs[54]? = some (fnOf Try.prog 54) := by kernel_rfl
abbrev Y54 : Type := Int → (List Int → Prop) → (List Int → Prop) → (List Int → Prop) → (List Int → Prop) → (List Int → Prop) → (List Int → Prop) → (List Int → Prop) → Prop
set_option maxHeartbeats 4000000 in
set_option maxRecDepth 100000 in
def F54  (t : Int) (k1 : List Int → Prop) (k2 : List Int → Prop) (k3 : List Int → Prop) (k4 : List Int → Prop) (k5 : List Int → Prop) (k6 : List Int → Prop) (k7 : List Int → Prop) : Prop :=
  (bif (decide (t < (0 : Int))) then (k1 ([] : List Int)) else (bif (decide (t ≥ (64 : Int))) then (k1 ([] : List Int)) else (bif (t == (63 : Int)) then (k1 ([] : List Int)) else (bif (t == (62 : Int)) then (k1 ([] : List Int)) else (bif (t == (61 : Int)) then (k1 ([] : List Int)) else (bif (t == (60 : Int)) then (k1 ([] : List Int)) else (bif (t == (59 : Int)) then (k1 ([] : List Int)) else (bif (t == (58 : Int)) then (k1 ([] : List Int)) else (bif (t == (57 : Int)) then (k1 ([] : List Int)) else (bif (t == (56 : Int)) then (k1 ([] : List Int)) else (bif (t == (55 : Int)) then (k1 ([] : List Int)) else (bif (t == (54 : Int)) then (k1 ([] : List Int)) else (bif (t == (53 : Int)) then (k1 ([] : List Int)) else (bif (t == (52 : Int)) then (k1 ([] : List Int)) else (bif (t == (51 : Int)) then (k1 ([] : List Int)) else (bif (t == (50 : Int)) then (k1 ([] : List Int)) else (bif (t == (49 : Int)) then (k1 ([] : List Int)) else (bif (t == (48 : Int)) then (k1 ([] : List Int)) else (bif (t == (47 : Int)) then (k1 ([] : List Int)) else (bif (t == (46 : Int)) then (k1 ([] : List Int)) else (bif (t == (45 : Int)) then (k1 ([] : List Int)) else (bif (t == (44 : Int)) then (k1 ([] : List Int)) else (bif (t == (43 : Int)) then (k1 ([] : List Int)) else (bif (t == (42 : Int)) then (k1 ([] : List Int)) else (bif (t == (41 : Int)) then (k1 ([] : List Int)) else (bif (t == (40 : Int)) then (k1 ([] : List Int)) else (bif (t == (39 : Int)) then (k1 ([] : List Int)) else (bif (t == (38 : Int)) then (k1 ([] : List Int)) else (bif (t == (37 : Int)) then (k1 ([(73 : Int), (82 : Int), (69 : Int), (76 : Int), (65 : Int), (84 : Int), (73 : Int), (86 : Int), (69 : Int)] : List Int)) else (bif (t == (36 : Int)) then (k1 ([] : List Int)) else (bif (t == (35 : Int)) then (k1 ([] : List Int)) else (bif (t == (34 : Int)) then (k1 ([] : List Int)) else (bif (t == (33 : Int)) then (k1 ([] : List Int)) else (bif (t == (32 : Int)) then (k1 ([] : List Int)) else (bif (t == (31 : Int)) then (k1 ([] : List Int)) else (bif (t == (30 : Int)) then (k1 ([] : List Int)) else (bif (t == (29 : Int)) then (k1 ([] : List Int)) else (bif (t == (28 : Int)) then (k1 ([] : List Int)) else (bif (t == (27 : Int)) then (k1 ([] : List Int)) else (bif (t == (26 : Int)) then (k1 ([] : List Int)) else (bif (t == (25 : Int)) then (k1 ([] : List Int)) else (bif (t == (24 : Int)) then (k1 ([] : List Int)) else (bif (t == (23 : Int)) then (k2 ([(84 : Int), (80 : Int), (79 : Int), (70 : Int), (70 : Int), (51 : Int), (50 : Int)] : List Int)) else (bif (t == (22 : Int)) then (k3 ([(71 : Int), (79 : Int), (84 : Int), (84 : Int), (80 : Int), (79 : Int), (70 : Int), (70 : Int)] : List Int)) else (bif (t == (21 : Int)) then (k2 ([(68 : Int), (84 : Int), (80 : Int), (79 : Int), (70 : Int), (70 : Int), (51 : Int), (50 : Int)] : List Int)) else (bif (t == (20 : Int)) then (k1 ([(84 : Int), (76 : Int), (83 : Int), (76 : Int), (68 : Int)] : List Int)) else (bif (t == (19 : Int)) then (k1 ([(84 : Int), (76 : Int), (83 : Int), (71 : Int), (68 : Int)] : List Int)) else (bif (t == (18 : Int)) then (k1 ([] : List Int)) else (bif (t == (17 : Int)) then (k1 ([] : List Int)) else (bif (t == (16 : Int)) then (k1 ([] : List Int)) else (bif (t == (15 : Int)) then (k1 ([] : List Int)) else (bif (t == (14 : Int)) then (k1 ([] : List Int)) else (bif (t == (13 : Int)) then (k1 ([] : List Int)) else (bif (t == (12 : Int)) then (k1 ([] : List Int)) else (bif (t == (11 : Int)) then (k4 ([(51 : Int), (50 : Int), (83 : Int)] : List Int)) else (bif (t == (10 : Int)) then (k5 ([(51 : Int), (50 : Int)] : List Int)) else (bif (t == (9 : Int)) then (k3 ([(71 : Int), (79 : Int), (84 : Int), (80 : Int), (67 : Int), (82 : Int), (69 : Int), (76 : Int)] : List Int)) else (bif (t == (8 : Int)) then (k1 ([(82 : Int), (69 : Int), (76 : Int), (65 : Int), (84 : Int), (73 : Int), (86 : Int), (69 : Int)] : List Int)) else (bif (t == (7 : Int)) then (k1 ([] : List Int)) else (bif (t == (6 : Int)) then (k1 ([(71 : Int), (76 : Int), (79 : Int), (66 : Int), (95 : Int), (68 : Int), (65 : Int), (84 : Int)] : List Int)) else (bif (t == (5 : Int)) then (k1 ([] : List Int)) else (bif (t == (4 : Int)) then (k6 ([(80 : Int), (76 : Int), (84 : Int), (51 : Int), (50 : Int)] : List Int)) else (bif (t == (3 : Int)) then (k1 ([] : List Int)) else (bif (t == (2 : Int)) then (k6 ([(80 : Int), (67 : Int), (51 : Int), (50 : Int)] : List Int)) else (bif (t == (1 : Int)) then (k7 ([(54 : Int), (52 : Int)] : List Int)) else (bif (t == (0 : Int)) then (k1 ([(78 : Int), (79 : Int), (78 : Int), (69 : Int)] : List Int)) else False))))))))))))))))))))))))))))))))))))))))))))))))))))))))))))))))))
theorem F54_ok  (t : Int) (K : V → Mem → Prop) : cbody Try.prog C0 (fun _ => none) 1000 (fnOf Try.prog 54) [(.I .i64 t)] [] K =
    F54  t (fun (u0 : List Int) => K (.tup [(.agg [(.S u0), (.I .i64 (0 : Int)), .nilf, .nilf]), (.B false)]) []) (fun (u0 : List Int) => K (.tup [(.agg [(.S u0), (.I .i64 (4 : Int)), (.fn (.func 91) [] []), (.fn (.func 88) [] [])]), (.B true)]) []) (fun (u0 : List Int) => K (.tup [(.agg [(.S u0), (.I .i64 (4 : Int)), (.fn (.func 90) [] []), (.fn (.func 88) [] [])]), (.B true)]) []) (fun (u0 : List Int) => K (.tup [(.agg [(.S u0), (.I .i64 (4 : Int)), (.fn (.func 85) [] []), (.fn (.func 88) [] [])]), (.B true)]) []) (fun (u0 : List Int) => K (.tup [(.agg [(.S u0), (.I .i64 (4 : Int)), (.fn (.func 85) [] []), (.fn (.func 89) [] [])]), (.B true)]) []) (fun (u0 : List Int) => K (.tup [(.agg [(.S u0), (.I .i64 (4 : Int)), (.fn (.func 87) [] []), (.fn (.func 88) [] [])]), (.B true)]) []) (fun (u0 : List Int) => K (.tup [(.agg [(.S u0), (.I .i64 (8 : Int)), (.fn (.func 85) [] []), (.fn (.func 86) [] [])]), (.B true)]) []) := by kernel_rfl
def G54 : Y54 := F54 
def VT54 (f : Y54) (F : Prop) (args : List V) (m : Mem) (K : V → Mem → Prop) : Prop :=
  (seeCons args F fun a1 q2 => (seeI .i64 a1 F fun t => (seeNil q2 F (seeNil m F (f t (fun (u0 : List Int) => K (.tup [(.agg [(.S u0), (.I .i64 (0 : Int)), .nilf, .nilf]), (.B false)]) []) (fun (u0 : List Int) => K (.tup [(.agg [(.S u0), (.I .i64 (4 : Int)), (.fn (.func 91) [] []), (.fn (.func 88) [] [])]), (.B true)]) []) (fun (u0 : List Int) => K (.tup [(.agg [(.S u0), (.I .i64 (4 : Int)), (.fn (.func 90) [] []), (.fn (.func 88) [] [])]), (.B true)]) []) (fun (u0 : List Int) => K (.tup [(.agg [(.S u0), (.I .i64 (4 : Int)), (.fn (.func 85) [] []), (.fn (.func 88) [] [])]), (.B true)]) []) (fun (u0 : List Int) => K (.tup [(.agg [(.S u0), (.I .i64 (4 : Int)), (.fn (.func 85) [] []), (.fn (.func 89) [] [])]), (.B true)]) []) (fun (u0 : List Int) => K (.tup [(.agg [(.S u0), (.I .i64 (4 : Int)), (.fn (.func 87) [] []), (.fn (.func 88) [] [])]), (.B true)]) []) (fun (u0 : List Int) => K (.tup [(.agg [(.S u0), (.I .i64 (8 : Int)), (.fn (.func 85) [] []), (.fn (.func 86) [] [])]), (.B true)]) []))))))
def T54 (f : Y54) (C : CC) : CC := fun g args m K =>
  match Nat.beq g 54 with
  | true => VT54 f (C g args m K) args m K
  | false => C g args m K
set_option maxRecDepth 100000 in
theorem T54_ok {C : CC} (hC : CallsOk Try.prog C) : CallsOk Try.prog (T54 G54 C) := by
  intro g args m K E w cargs hS ha h
  unfold T54 at h
  split at h
  · rename_i hg
    obtain rfl := Nat.eq_of_beq_eq_true hg
    unfold VT54 at h
    replace h := seeCons_use h
    rcases h with h | ⟨a1, q2, rfl, h⟩
    · exact hC _ _ _ _ _ _ _ hS ha h
    replace h := seeI_use h
    rcases h with h | ⟨t, rfl, h⟩
    · exact hC _ _ _ _ _ _ _ hS ha h
    replace h := seeNil_use h
    rcases h with h | ⟨rfl, h⟩
    · exact hC _ _ _ _ _ _ _ hS ha h
    replace h := seeNil_use h
    rcases h with h | ⟨rfl, h⟩
    · exact hC _ _ _ _ _ _ _ hS ha h
    exact cbody_use named C0_ok at54 (l := 0) rfl (LoopsOk.none _ _) (F54_ok  t K) hS ha h
  · exact hC _ _ _ _ _ _ _ hS ha h
theorem at23 : Try.prog.funcs[23]? = some (fnOf Try.prog 23) := by kernel_rfl
abbrev Y23 : Type := Int → Int → Int → Int → Int → Int → (Int → Int → Prop) → Prop
set_option maxHeartbeats 4000000 in
set_option maxRecDepth 100000 in
def F23 (f54 : Y54) (t : Int) (ps : Int) (pad : Int) (pp : Int) (pg : Int) (ptp : Int) (k1 : Int → Int → Prop) : Prop :=
  (f54 t (fun (xs1 : List Int) => (k1 (0 : Int) (200 : Int))) (fun (xs2 : List Int) => (bif (decide (ps < (-1152921504606846976 : Int))) then (k1 (0 : Int) (11 : Int)) else (bif (decide (ps > (1152921504606846976 : Int))) then (k1 (0 : Int) (11 : Int)) else (bif (decide (pad < (-1152921504606846976 : Int))) then (k1 (0 : Int) (11 : Int)) else (bif (decide (pad > (1152921504606846976 : Int))) then (k1 (0 : Int) (11 : Int)) else (bif (decide (pp < (-1152921504606846976 : Int))) then (k1 (0 : Int) (11 : Int)) else (bif (decide (pp > (1152921504606846976 : Int))) then (k1 (0 : Int) (11 : Int)) else (bif (decide (pg < (-1152921504606846976 : Int))) then (k1 (0 : Int) (11 : Int)) else (bif (decide (pg > (1152921504606846976 : Int))) then (k1 (0 : Int) (11 : Int)) else (bif (decide (ptp < (-1152921504606846976 : Int))) then (k1 (0 : Int) (11 : Int)) else (bif (decide (ptp > (1152921504606846976 : Int))) then (k1 (0 : Int) (11 : Int)) else (k1 (IntKind.wrap .i64 ((IntKind.wrap .i64 (ps + pad)) - ptp)) (0 : Int))))))))))))) (fun (xs3 : List Int) => (bif (decide (ps < (-1152921504606846976 : Int))) then (k1 (0 : Int) (11 : Int)) else (bif (decide (ps > (1152921504606846976 : Int))) then (k1 (0 : Int) (11 : Int)) else (bif (decide (pad < (-1152921504606846976 : Int))) then (k1 (0 : Int) (11 : Int)) else (bif (decide (pad > (1152921504606846976 : Int))) then (k1 (0 : Int) (11 : Int)) else (bif (decide (pp < (-1152921504606846976 : Int))) then (k1 (0 : Int) (11 : Int)) else (bif (decide (pp > (1152921504606846976 : Int))) then (k1 (0 : Int) (11 : Int)) else (bif (decide (pg < (-1152921504606846976 : Int))) then (k1 (0 : Int) (11 : Int)) else (bif (decide (pg > (1152921504606846976 : Int))) then (k1 (0 : Int) (11 : Int)) else (bif (decide (ptp < (-1152921504606846976 : Int))) then (k1 (0 : Int) (11 : Int)) else (bif (decide (ptp > (1152921504606846976 : Int))) then (k1 (0 : Int) (11 : Int)) else (k1 (IntKind.wrap .i64 ((IntKind.wrap .i64 (pg + pad)) - pp)) (0 : Int))))))))))))) (fun (xs4 : List Int) => (bif (decide (ps < (-1152921504606846976 : Int))) then (k1 (0 : Int) (11 : Int)) else (bif (decide (ps > (1152921504606846976 : Int))) then (k1 (0 : Int) (11 : Int)) else (bif (decide (pad < (-1152921504606846976 : Int))) then (k1 (0 : Int) (11 : Int)) else (bif (decide (pad > (1152921504606846976 : Int))) then (k1 (0 : Int) (11 : Int)) else (bif (decide (pp < (-1152921504606846976 : Int))) then (k1 (0 : Int) (11 : Int)) else (bif (decide (pp > (1152921504606846976 : Int))) then (k1 (0 : Int) (11 : Int)) else (bif (decide (pg < (-1152921504606846976 : Int))) then (k1 (0 : Int) (11 : Int)) else (bif (decide (pg > (1152921504606846976 : Int))) then (k1 (0 : Int) (11 : Int)) else (bif (decide (ptp < (-1152921504606846976 : Int))) then (k1 (0 : Int) (11 : Int)) else (bif (decide (ptp > (1152921504606846976 : Int))) then (k1 (0 : Int) (11 : Int)) else (k1 (IntKind.wrap .i64 (ps + pad)) (0 : Int))))))))))))) (fun (xs5 : List Int) => (bif (decide (ps < (-1152921504606846976 : Int))) then (k1 (0 : Int) (11 : Int)) else (bif (decide (ps > (1152921504606846976 : Int))) then (k1 (0 : Int) (11 : Int)) else (bif (decide (pad < (-1152921504606846976 : Int))) then (k1 (0 : Int) (11 : Int)) else (bif (decide (pad > (1152921504606846976 : Int))) then (k1 (0 : Int) (11 : Int)) else (bif (decide (pp < (-1152921504606846976 : Int))) then (k1 (0 : Int) (11 : Int)) else (bif (decide (pp > (1152921504606846976 : Int))) then (k1 (0 : Int) (11 : Int)) else (bif (decide (pg < (-1152921504606846976 : Int))) then (k1 (0 : Int) (11 : Int)) else (bif (decide (pg > (1152921504606846976 : Int))) then (k1 (0 : Int) (11 : Int)) else (bif (decide (ptp < (-1152921504606846976 : Int))) then (k1 (0 : Int) (11 : Int)) else (bif (decide (ptp > (1152921504606846976 : Int))) then (k1 (0 : Int) (11 : Int)) else (k1 (IntKind.wrap .i64 (ps + pad)) (0 : Int))))))))))))) (fun (xs6 : List Int) => (bif (decide (ps < (-1152921504606846976 : Int))) then (k1 (0 : Int) (11 : Int)) else (bif (decide (ps > (1152921504606846976 : Int))) then (k1 (0 : Int) (11 : Int)) else (bif (decide (pad < (-1152921504606846976 : Int))) then (k1 (0 : Int) (11 : Int)) else (bif (decide (pad > (1152921504606846976 : Int))) then (k1 (0 : Int) (11 : Int)) else (bif (decide (pp < (-1152921504606846976 : Int))) then (k1 (0 : Int) (11 : Int)) else (bif (decide (pp > (1152921504606846976 : Int))) then (k1 (0 : Int) (11 : Int)) else (bif (decide (pg < (-1152921504606846976 : Int))) then (k1 (0 : Int) (11 : Int)) else (bif (decide (pg > (1152921504606846976 : Int))) then (k1 (0 : Int) (11 : Int)) else (bif (decide (ptp < (-1152921504606846976 : Int))) then (k1 (0 : Int) (11 : Int)) else (bif (decide (ptp > (1152921504606846976 : Int))) then (k1 (0 : Int) (11 : Int)) else (k1 (IntKind.wrap .i64 ((IntKind.wrap .i64 (ps + pad)) - pp)) (0 : Int))))))))))))) (fun (xs7 : List Int) => (bif (decide (ps < (-1152921504606846976 : Int))) then (k1 (0 : Int) (11 : Int)) else (bif (decide (ps > (1152921504606846976 : Int))) then (k1 (0 : Int) (11 : Int)) else (bif (decide (pad < (-1152921504606846976 : Int))) then (k1 (0 : Int) (11 : Int)) else (bif (decide (pad > (1152921504606846976 : Int))) then (k1 (0 : Int) (11 : Int)) else (bif (decide (pp < (-1152921504606846976 : Int))) then (k1 (0 : Int) (11 : Int)) else (bif (decide (pp > (1152921504606846976 : Int))) then (k1 (0 : Int) (11 : Int)) else (bif (decide (pg < (-1152921504606846976 : Int))) then (k1 (0 : Int) (11 : Int)) else (bif (decide (pg > (1152921504606846976 : Int))) then (k1 (0 : Int) (11 : Int)) else (bif (decide (ptp < (-1152921504606846976 : Int))) then (k1 (0 : Int) (11 : Int)) else (bif (decide (ptp > (1152921504606846976 : Int))) then (k1 (0 : Int) (11 : Int)) else (k1 (IntKind.wrap .i64 (ps + pad)) (0 : Int))))))))))))))
theorem F23_ok (f54 : Y54) (t : Int) (ps : Int) (pad : Int) (pp : Int) (pg : Int) (ptp : Int) (K : V → Mem → Prop) : cbody Try.prog (T54 f54 C0) (fun _ => none) 1000 (fnOf Try.prog 23) [(.I .i64 t), (.agg [(.I .i64 ps), (.I .i64 pad), (.I .i64 pp), (.I .i64 pg), (.I .i64 ptp)])] [] K =
    F23 f54 t ps pad pp pg ptp (fun (u0 : Int) (u1 : Int) => K (.tup [(.I .i64 u0), (.I .i64 u1)]) []) := by kernel_rfl
def G23 : Y23 := F23 G54
def VT23 (f : Y23) (F : Prop) (args : List V) (m : Mem) (K : V → Mem → Prop) : Prop :=
  (seeCons args F fun a1 q2 => (seeI .i64 a1 F fun t => (seeCons q2 F fun a3 q4 => (seeAgg a3 F fun vs5 => (seeCons vs5 F fun a6 q7 => (seeI .i64 a6 F fun ps => (seeCons q7 F fun a8 q9 => (seeI .i64 a8 F fun pad => (seeCons q9 F fun a10 q11 => (seeI .i64 a10 F fun pp => (seeCons q11 F fun a12 q13 => (seeI .i64 a12 F fun pg => (seeCons q13 F fun a14 q15 => (seeI .i64 a14 F fun ptp => (seeNil q15 F (seeNil q4 F (seeNil m F (f t ps pad pp pg ptp (fun (u0 : Int) (u1 : Int) => K (.tup [(.I .i64 u0), (.I .i64 u1)]) [])))))))))))))))))))
def T23 (f : Y23) (C : CC) : CC := fun g args m K =>
  match Nat.beq g 23 with
  | true => VT23 f (C g args m K) args m K
  | false => C g args m K
set_option maxRecDepth 100000 in
theorem T23_ok {C : CC} (hC : CallsOk Try.prog C) : CallsOk Try.prog (T23 G23 C) := by
  intro g args m K E w cargs hS ha h
  unfold T23 at h
  split at h
  · rename_i hg
    obtain rfl := Nat.eq_of_beq_eq_true hg
    unfold VT23 at h
    replace h := seeCons_use h
    rcases h with h | ⟨a1, q2, rfl, h⟩
    · exact hC _ _ _ _ _ _ _ hS ha h
    replace h := seeI_use h
    rcases h with h | ⟨t, rfl, h⟩
    · exact hC _ _ _ _ _ _ _ hS ha h
    replace h := seeCons_use h
    rcases h with h | ⟨a3, q4, rfl, h⟩
    · exact hC _ _ _ _ _ _ _ hS ha h
    replace h := seeAgg_use h
    rcases h with h | ⟨vs5, rfl, h⟩
    · exact hC _ _ _ _ _ _ _ hS ha h
    replace h := seeCons_use h
    rcases h with h | ⟨a6, q7, rfl, h⟩
    · exact hC _ _ _ _ _ _ _ hS ha h
    replace h := seeI_use h
    rcases h with h | ⟨ps, rfl, h⟩
    · exact hC _ _ _ _ _ _ _ hS ha h
    replace h := seeCons_use h
    rcases h with h | ⟨a8, q9, rfl, h⟩
    · exact hC _ _ _ _ _ _ _ hS ha h
    replace h := seeI_use h
    rcases h with h | ⟨pad, rfl, h⟩
    · exact hC _ _ _ _ _ _ _ hS ha h
    replace h := seeCons_use h
    rcases h with h | ⟨a10, q11, rfl, h⟩
    · exact hC _ _ _ _ _ _ _ hS ha h
    replace h := seeI_use h
    rcases h with h | ⟨pp, rfl, h⟩
    · exact hC _ _ _ _ _ _ _ hS ha h
    replace h := seeCons_use h
    rcases h with h | ⟨a12, q13, rfl, h⟩
    · exact hC _ _ _ _ _ _ _ hS ha h
    replace h := seeI_use h
    rcases h with h | ⟨pg, rfl, h⟩
    · exact hC _ _ _ _ _ _ _ hS ha h
    replace h := seeCons_use h
    rcases h with h | ⟨a14, q15, rfl, h⟩
    · exact hC _ _ _ _ _ _ _ hS ha h
    replace h := seeI_use h
    rcases h with h | ⟨ptp, rfl, h⟩
    · exact hC _ _ _ _ _ _ _ hS ha h
    replace h := seeNil_use h
    rcases h with h | ⟨rfl, h⟩
    · exact hC _ _ _ _ _ _ _ hS ha h
    replace h := seeNil_use h
    rcases h with h | ⟨rfl, h⟩
    · exact hC _ _ _ _ _ _ _ hS ha h
    replace h := seeNil_use h
    rcases h with h | ⟨rfl, h⟩
    · exact hC _ _ _ _ _ _ _ hS ha h
    exact cbody_use named (T54_ok C0_ok) at23 (l := 0) rfl (LoopsOk.none _ _) (F23_ok G54 t ps pad pp pg ptp K) hS ha h
  · exact hC _ _ _ _ _ _ _ hS ha h
theorem at28 : Try.prog.funcs[28]? = some (fnOf Try.prog 28) := by kernel_rfl
abbrev Y28 : Type := Int → Int → Int → Int → Int → (Prop) → Prop
set_option maxHeartbeats 4000000 in
set_option maxRecDepth 100000 in
def F28  (ps : Int) (pad : Int) (pp : Int) (pg : Int) (ptp : Int) (k1 : Prop) : Prop :=
  (k1)
theorem F28_ok  (ps : Int) (pad : Int) (pp : Int) (pg : Int) (ptp : Int) (K : V → Mem → Prop) : cbody Try.prog C0 (fun _ => none) 1000 (fnOf Try.prog 28) [(.agg [(.I .i64 ps), (.I .i64 pad), (.I .i64 pp), (.I .i64 pg), (.I .i64 ptp)])] [] K =
    F28  ps pad pp pg ptp (K (.agg [(.I .i64 ps), (.I .i64 pad), (.I .i64 pp), (.I .i64 pg), (.I .i64 ptp)]) []) := by kernel_rfl
def G28 : Y28 := F28 
def VT28 (f : Y28) (F : Prop) (args : List V) (m : Mem) (K : V → Mem → Prop) : Prop :=
  (seeCons args F fun a1 q2 => (seeAgg a1 F fun vs3 => (seeCons vs3 F fun a4 q5 => (seeI .i64 a4 F fun ps => (seeCons q5 F fun a6 q7 => (seeI .i64 a6 F fun pad => (seeCons q7 F fun a8 q9 => (seeI .i64 a8 F fun pp => (seeCons q9 F fun a10 q11 => (seeI .i64 a10 F fun pg => (seeCons q11 F fun a12 q13 => (seeI .i64 a12 F fun ptp => (seeNil q13 F (seeNil q2 F (seeNil m F (f ps pad pp pg ptp (K (.agg [(.I .i64 ps), (.I .i64 pad), (.I .i64 pp), (.I .i64 pg), (.I .i64 ptp)]) [])))))))))))))))))
def T28 (f : Y28) (C : CC) : CC := fun g args m K =>
  match Nat.beq g 28 with
  | true => VT28 f (C g args m K) args m K
  | false => C g args m K
set_option maxRecDepth 100000 in
theorem T28_ok {C : CC} (hC : CallsOk Try.prog C) : CallsOk Try.prog (T28 G28 C) := by
  intro g args m K E w cargs hS ha h
  unfold T28 at h
  split at h
  · rename_i hg
    obtain rfl := Nat.eq_of_beq_eq_true hg
    unfold VT28 at h
    replace h := seeCons_use h
    rcases h with h | ⟨a1, q2, rfl, h⟩
    · exact hC _ _ _ _ _ _ _ hS ha h
    replace h := seeAgg_use h
    rcases h with h | ⟨vs3, rfl, h⟩
    · exact hC _ _ _ _ _ _ _ hS ha h
    replace h := seeCons_use h
    rcases h with h | ⟨a4, q5, rfl, h⟩
    · exact hC _ _ _ _ _ _ _ hS ha h
    replace h := seeI_use h
    rcases h with h | ⟨ps, rfl, h⟩
    · exact hC _ _ _ _ _ _ _ hS ha h
    replace h := seeCons_use h
    rcases h with h | ⟨a6, q7, rfl, h⟩
    · exact hC _ _ _ _ _ _ _ hS ha h
    replace h := seeI_use h
    rcases h with h | ⟨pad, rfl, h⟩
    · exact hC _ _ _ _ _ _ _ hS ha h
    replace h := seeCons_use h
    rcases h with h | ⟨a8, q9, rfl, h⟩
    · exact hC _ _ _ _ _ _ _ hS ha h
    replace h := seeI_use h
    rcases h with h | ⟨pp, rfl, h⟩
    · exact hC _ _ _ _ _ _ _ hS ha h
    replace h := seeCons_use h
    rcases h with h | ⟨a10, q11, rfl, h⟩
    · exact hC _ _ _ _ _ _ _ hS ha h
    replace h := seeI_use h
    rcases h with h | ⟨pg, rfl, h⟩
    · exact hC _ _ _ _ _ _ _ hS ha h
    replace h := seeCons_use h
    rcases h with h | ⟨a12, q13, rfl, h⟩
    · exact hC _ _ _ _ _ _ _ hS ha h
    replace h := seeI_use h
    rcases h with h | ⟨ptp, rfl, h⟩
    · exact hC _ _ _ _ _ _ _ hS ha h
    replace h := seeNil_use h
    rcases h with h | ⟨rfl, h⟩
    · exact hC _ _ _ _ _ _ _ hS ha h
    replace h := seeNil_use h
    rcases h with h | ⟨rfl, h⟩
    · exact hC _ _ _ _ _ _ _ hS ha h
    replace h := seeNil_use h
    rcases h with h | ⟨rfl, h⟩
    · exact hC _ _ _ _ _ _ _ hS ha h
    exact cbody_use named C0_ok at28 (l := 0) rfl (LoopsOk.none _ _) (F28_ok  ps pad pp pg ptp K) hS ha h
  · exact hC _ _ _ _ _ _ _ hS ha h
theorem at31 : Try.prog.funcs[31]? = some (fnOf Try.prog 31) := by kernel_rfl
abbrev Y31 : Type := Int → (Int → Int → Prop) → Prop
set_option maxHeartbeats 4000000 in
set_option maxRecDepth 100000 in
def F31 (f54 : Y54) (t : Int) (k1 : Int → Int → Prop) : Prop :=
  (f54 t (fun (xs1 : List Int) => (k1 (0 : Int) (200 : Int))) (fun (xs2 : List Int) => (k1 (4 : Int) (0 : Int))) (fun (xs3 : List Int) => (k1 (4 : Int) (0 : Int))) (fun (xs4 : List Int) => (k1 (4 : Int) (0 : Int))) (fun (xs5 : List Int) => (k1 (4 : Int) (0 : Int))) (fun (xs6 : List Int) => (k1 (4 : Int) (0 : Int))) (fun (xs7 : List Int) => (k1 (8 : Int) (0 : Int))))
theorem F31_ok (f54 : Y54) (t : Int) (K : V → Mem → Prop) : cbody Try.prog (T54 f54 C0) (fun _ => none) 1000 (fnOf Try.prog 31) [(.I .i64 t)] [] K =
    F31 f54 t (fun (u0 : Int) (u1 : Int) => K (.tup [(.I .i64 u0), (.I .i64 u1)]) []) := by kernel_rfl
def G31 : Y31 := F31 G54
def VT31 (f : Y31) (F : Prop) (args : List V) (m : Mem) (K : V → Mem → Prop) : Prop :=
  (seeCons args F fun a1 q2 => (seeI .i64 a1 F fun t => (seeNil q2 F (seeNil m F (f t (fun (u0 : Int) (u1 : Int) => K (.tup [(.I .i64 u0), (.I .i64 u1)]) []))))))
def T31 (f : Y31) (C : CC) : CC := fun g args m K =>
  match Nat.beq g 31 with
  | true => VT31 f (C g args m K) args m K
  | false => C g args m K
set_option maxRecDepth 100000 in
theorem T31_ok {C : CC} (hC : CallsOk Try.prog C) : CallsOk Try.prog (T31 G31 C) := by
  intro g args m K E w cargs hS ha h
  unfold T31 at h
  split at h
  · rename_i hg
    obtain rfl := Nat.eq_of_beq_eq_true hg
    unfold VT31 at h
    replace h := seeCons_use h
    rcases h with h | ⟨a1, q2, rfl, h⟩
    · exact hC _ _ _ _ _ _ _ hS ha h
    replace h := seeI_use h
    rcases h with h | ⟨t, rfl, h⟩
    · exact hC _ _ _ _ _ _ _ hS ha h
    replace h := seeNil_use h
    rcases h with h | ⟨rfl, h⟩
    · exact hC _ _ _ _ _ _ _ hS ha h
    replace h := seeNil_use h
    rcases h with h | ⟨rfl, h⟩
    · exact hC _ _ _ _ _ _ _ hS ha h
    exact cbody_use named (T54_ok C0_ok) at31 (l := 0) rfl (LoopsOk.none _ _) (F31_ok G54 t K) hS ha h
  · exact hC _ _ _ _ _ _ _ hS ha h
theorem at32 : Try.prog.funcs[32]? = some (fnOf Try.prog 32) := by kernel_rfl
abbrev Y32a : Type := Int → (Prop) → (Prop) → (Prop) → Prop
set_option maxHeartbeats 4000000 in
set_option maxRecDepth 100000 in
def F32a  (t : Int) (k1 : Prop) (k2 : Prop) (k3 : Prop) : Prop :=
  (bif (t == (1 : Int)) then (k1) else (bif (t == (2 : Int)) then (bif (t == (2 : Int)) then (k2) else (k3)) else (bif (t == (4 : Int)) then (bif (t == (4 : Int)) then (k2) else (k3)) else (bif (t == (10 : Int)) then (bif (t == (10 : Int)) then (k2) else (k3)) else (bif (t == (11 : Int)) then (bif (t == (11 : Int)) then (k2) else (k3)) else (bif (t == (9 : Int)) then (bif (t == (9 : Int)) then (k2) else (k3)) else (bif (t == (22 : Int)) then (bif (t == (22 : Int)) then (k2) else (k3)) else (bif (t == (23 : Int)) then (bif (t == (23 : Int)) then (k2) else (k3)) else (bif (t == (21 : Int)) then (k2) else (k3))))))))))
theorem F32a_ok  (t : Int) (K : V → Mem → Prop) : cbody Try.prog C0 (fun _ => none) 1000 (fnOf Try.prog 32) [(.I .i64 t)] [] K =
    F32a  t (K (.tup [(.I .i64 (8 : Int)), (.I .i64 (0 : Int))]) []) (K (.tup [(.I .i64 (4 : Int)), (.I .i64 (0 : Int))]) []) (K (.tup [(.I .i64 (0 : Int)), (.I .i64 (200 : Int))]) []) := by kernel_rfl
def G32a : Y32a := F32a 
def VT32a (f : Y32a) (F : Prop) (args : List V) (m : Mem) (K : V → Mem → Prop) : Prop :=
  (seeCons args F fun a1 q2 => (seeI .i64 a1 F fun t => (seeNil q2 F (seeNil m F (f t (K (.tup [(.I .i64 (8 : Int)), (.I .i64 (0 : Int))]) []) (K (.tup [(.I .i64 (4 : Int)), (.I .i64 (0 : Int))]) []) (K (.tup [(.I .i64 (0 : Int)), (.I .i64 (200 : Int))]) []))))))
def T32a (f : Y32a) (C : CC) : CC := fun g args m K =>
  match Nat.beq g 32 with
  | true => VT32a f (C g args m K) args m K
  | false => C g args m K
set_option maxRecDepth 100000 in
theorem T32a_ok {C : CC} (hC : CallsOk Try.prog C) : CallsOk Try.prog (T32a G32a C) := by
  intro g args m K E w cargs hS ha h
  unfold T32a at h
  split at h
  · rename_i hg
    obtain rfl := Nat.eq_of_beq_eq_true hg
    unfold VT32a at h
    replace h := seeCons_use h
    rcases h with h | ⟨a1, q2, rfl, h⟩
    · exact hC _ _ _ _ _ _ _ hS ha h
    replace h := seeI_use h
    rcases h with h | ⟨t, rfl, h⟩
    · exact hC _ _ _ _ _ _ _ hS ha h
    replace h := seeNil_use h
    rcases h with h | ⟨rfl, h⟩
    · exact hC _ _ _ _ _ _ _ hS ha h
    replace h := seeNil_use h
    rcases h with h | ⟨rfl, h⟩
    · exact hC _ _ _ _ _ _ _ hS ha h
    exact cbody_use named C0_ok at32 (l := 0) rfl (LoopsOk.none _ _) (F32a_ok  t K) hS ha h
  · exact hC _ _ _ _ _ _ _ hS ha h
theorem at33 : Try.prog.funcs[33]? = some (fnOf Try.prog 33) := by kernel_rfl
abbrev Y33 : Type := Int → Int → Int → Int → Int → Int → (Int → Int → Prop) → Prop
set_option maxHeartbeats 4000000 in
set_option maxRecDepth 100000 in
def F33 (f32a : Y32a) (t : Int) (ps : Int) (pad : Int) (pp : Int) (pg : Int) (ptp : Int) (k1 : Int → Int → Prop) : Prop :=
  (f32a t ((bif (decide (ps < (-1152921504606846976 : Int))) then (k1 (0 : Int) (11 : Int)) else (bif (decide (ps > (1152921504606846976 : Int))) then (k1 (0 : Int) (11 : Int)) else (bif (decide (pad < (-1152921504606846976 : Int))) then (k1 (0 : Int) (11 : Int)) else (bif (decide (pad > (1152921504606846976 : Int))) then (k1 (0 : Int) (11 : Int)) else (bif (decide (pp < (-1152921504606846976 : Int))) then (k1 (0 : Int) (11 : Int)) else (bif (decide (pp > (1152921504606846976 : Int))) then (k1 (0 : Int) (11 : Int)) else (bif (decide (pg < (-1152921504606846976 : Int))) then (k1 (0 : Int) (11 : Int)) else (bif (decide (pg > (1152921504606846976 : Int))) then (k1 (0 : Int) (11 : Int)) else (bif (decide (ptp < (-1152921504606846976 : Int))) then (k1 (0 : Int) (11 : Int)) else (bif (decide (ptp > (1152921504606846976 : Int))) then (k1 (0 : Int) (11 : Int)) else (bif (t == (2 : Int)) then (bif (t == (2 : Int)) then (k1 (IntKind.wrap .i64 ((IntKind.wrap .i64 (ps + pad)) - pp)) (0 : Int)) else (bif (t == (9 : Int)) then (bif (t == (9 : Int)) then (k1 (IntKind.wrap .i64 ((IntKind.wrap .i64 (pg + pad)) - pp)) (0 : Int)) else (bif (t == (23 : Int)) then (bif (t == (23 : Int)) then (k1 (IntKind.wrap .i64 ((IntKind.wrap .i64 (ps + pad)) - ptp)) (0 : Int)) else (k1 (IntKind.wrap .i64 (ps + pad)) (0 : Int))) else (bif (t == (21 : Int)) then (k1 (IntKind.wrap .i64 ((IntKind.wrap .i64 (ps + pad)) - ptp)) (0 : Int)) else (k1 (IntKind.wrap .i64 (ps + pad)) (0 : Int))))) else (bif (t == (22 : Int)) then (k1 (IntKind.wrap .i64 ((IntKind.wrap .i64 (pg + pad)) - pp)) (0 : Int)) else (bif (t == (23 : Int)) then (bif (t == (23 : Int)) then (k1 (IntKind.wrap .i64 ((IntKind.wrap .i64 (ps + pad)) - ptp)) (0 : Int)) else (k1 (IntKind.wrap .i64 (ps + pad)) (0 : Int))) else (bif (t == (21 : Int)) then (k1 (IntKind.wrap .i64 ((IntKind.wrap .i64 (ps + pad)) - ptp)) (0 : Int)) else (k1 (IntKind.wrap .i64 (ps + pad)) (0 : Int))))))) else (bif (t == (4 : Int)) then (k1 (IntKind.wrap .i64 ((IntKind.wrap .i64 (ps + pad)) - pp)) (0 : Int)) else (bif (t == (9 : Int)) then (bif (t == (9 : Int)) then (k1 (IntKind.wrap .i64 ((IntKind.wrap .i64 (pg + pad)) - pp)) (0 : Int)) else (bif (t == (23 : Int)) then (bif (t == (23 : Int)) then (k1 (IntKind.wrap .i64 ((IntKind.wrap .i64 (ps + pad)) - ptp)) (0 : Int)) else (k1 (IntKind.wrap .i64 (ps + pad)) (0 : Int))) else (bif (t == (21 : Int)) then (k1 (IntKind.wrap .i64 ((IntKind.wrap .i64 (ps + pad)) - ptp)) (0 : Int)) else (k1 (IntKind.wrap .i64 (ps + pad)) (0 : Int))))) else (bif (t == (22 : Int)) then (k1 (IntKind.wrap .i64 ((IntKind.wrap .i64 (pg + pad)) - pp)) (0 : Int)) else (bif (t == (23 : Int)) then (bif (t == (23 : Int)) then (k1 (IntKind.wrap .i64 ((IntKind.wrap .i64 (ps + pad)) - ptp)) (0 : Int)) else (k1 (IntKind.wrap .i64 (ps + pad)) (0 : Int))) else (bif (t == (21 : Int)) then (k1 (IntKind.wrap .i64 ((IntKind.wrap .i64 (ps + pad)) - ptp)) (0 : Int)) else (k1 (IntKind.wrap .i64 (ps + pad)) (0 : Int))))))))))))))))))) ((bif (decide (ps < (-1152921504606846976 : Int))) then (k1 (0 : Int) (11 : Int)) else (bif (decide (ps > (1152921504606846976 : Int))) then (k1 (0 : Int) (11 : Int)) else (bif (decide (pad < (-1152921504606846976 : Int))) then (k1 (0 : Int) (11 : Int)) else (bif (decide (pad > (1152921504606846976 : Int))) then (k1 (0 : Int) (11 : Int)) else (bif (decide (pp < (-1152921504606846976 : Int))) then (k1 (0 : Int) (11 : Int)) else (bif (decide (pp > (1152921504606846976 : Int))) then (k1 (0 : Int) (11 : Int)) else (bif (decide (pg < (-1152921504606846976 : Int))) then (k1 (0 : Int) (11 : Int)) else (bif (decide (pg > (1152921504606846976 : Int))) then (k1 (0 : Int) (11 : Int)) else (bif (decide (ptp < (-1152921504606846976 : Int))) then (k1 (0 : Int) (11 : Int)) else (bif (decide (ptp > (1152921504606846976 : Int))) then (k1 (0 : Int) (11 : Int)) else (bif (t == (2 : Int)) then (bif (t == (2 : Int)) then (k1 (IntKind.wrap .i64 ((IntKind.wrap .i64 (ps + pad)) - pp)) (0 : Int)) else (bif (t == (9 : Int)) then (bif (t == (9 : Int)) then (k1 (IntKind.wrap .i64 ((IntKind.wrap .i64 (pg + pad)) - pp)) (0 : Int)) else (bif (t == (23 : Int)) then (bif (t == (23 : Int)) then (k1 (IntKind.wrap .i64 ((IntKind.wrap .i64 (ps + pad)) - ptp)) (0 : Int)) else (k1 (IntKind.wrap .i64 (ps + pad)) (0 : Int))) else (bif (t == (21 : Int)) then (k1 (IntKind.wrap .i64 ((IntKind.wrap .i64 (ps + pad)) - ptp)) (0 : Int)) else (k1 (IntKind.wrap .i64 (ps + pad)) (0 : Int))))) else (bif (t == (22 : Int)) then (k1 (IntKind.wrap .i64 ((IntKind.wrap .i64 (pg + pad)) - pp)) (0 : Int)) else (bif (t == (23 : Int)) then (bif (t == (23 : Int)) then (k1 (IntKind.wrap .i64 ((IntKind.wrap .i64 (ps + pad)) - ptp)) (0 : Int)) else (k1 (IntKind.wrap .i64 (ps + pad)) (0 : Int))) else (bif (t == (21 : Int)) then (k1 (IntKind.wrap .i64 ((IntKind.wrap .i64 (ps + pad)) - ptp)) (0 : Int)) else (k1 (IntKind.wrap .i64 (ps + pad)) (0 : Int))))))) else (bif (t == (4 : Int)) then (k1 (IntKind.wrap .i64 ((IntKind.wrap .i64 (ps + pad)) - pp)) (0 : Int)) else (bif (t == (9 : Int)) then (bif (t == (9 : Int)) then (k1 (IntKind.wrap .i64 ((IntKind.wrap .i64 (pg + pad)) - pp)) (0 : Int)) else (bif (t == (23 : Int)) then (bif (t == (23 : Int)) then (k1 (IntKind.wrap .i64 ((IntKind.wrap .i64 (ps + pad)) - ptp)) (0 : Int)) else (k1 (IntKind.wrap .i64 (ps + pad)) (0 : Int))) else (bif (t == (21 : Int)) then (k1 (IntKind.wrap .i64 ((IntKind.wrap .i64 (ps + pad)) - ptp)) (0 : Int)) else (k1 (IntKind.wrap .i64 (ps + pad)) (0 : Int))))) else (bif (t == (22 : Int)) then (k1 (IntKind.wrap .i64 ((IntKind.wrap .i64 (pg + pad)) - pp)) (0 : Int)) else (bif (t == (23 : Int)) then (bif (t == (23 : Int)) then (k1 (IntKind.wrap .i64 ((IntKind.wrap .i64 (ps + pad)) - ptp)) (0 : Int)) else (k1 (IntKind.wrap .i64 (ps + pad)) (0 : Int))) else (bif (t == (21 : Int)) then (k1 (IntKind.wrap .i64 ((IntKind.wrap .i64 (ps + pad)) - ptp)) (0 : Int)) else (k1 (IntKind.wrap .i64 (ps + pad)) (0 : Int))))))))))))))))))) ((k1 (0 : Int) (200 : Int))))
theorem F33_ok (f32a : Y32a) (t : Int) (ps : Int) (pad : Int) (pp : Int) (pg : Int) (ptp : Int) (K : V → Mem → Prop) : cbody Try.prog (T32a f32a C0) (fun _ => none) 1000 (fnOf Try.prog 33) [(.I .i64 t), (.agg [(.I .i64 ps), (.I .i64 pad), (.I .i64 pp), (.I .i64 pg), (.I .i64 ptp)])] [] K =
    F33 f32a t ps pad pp pg ptp (fun (u0 : Int) (u1 : Int) => K (.tup [(.I .i64 u0), (.I .i64 u1)]) []) := by kernel_rfl
def G33 : Y33 := F33 G32a
def VT33 (f : Y33) (F : Prop) (args : List V) (m : Mem) (K : V → Mem → Prop) : Prop :=
  (seeCons args F fun a1 q2 => (seeI .i64 a1 F fun t => (seeCons q2 F fun a3 q4 => (seeAgg a3 F fun vs5 => (seeCons vs5 F fun a6 q7 => (seeI .i64 a6 F fun ps => (seeCons q7 F fun a8 q9 => (seeI .i64 a8 F fun pad => (seeCons q9 F fun a10 q11 => (seeI .i64 a10 F fun pp => (seeCons q11 F fun a12 q13 => (seeI .i64 a12 F fun pg => (seeCons q13 F fun a14 q15 => (seeI .i64 a14 F fun ptp => (seeNil q15 F (seeNil q4 F (seeNil m F (f t ps pad pp pg ptp (fun (u0 : Int) (u1 : Int) => K (.tup [(.I .i64 u0), (.I .i64 u1)]) [])))))))))))))))))))
def T33 (f : Y33) (C : CC) : CC := fun g args m K =>
  match Nat.beq g 33 with
  | true => VT33 f (C g args m K) args m K
  | false => C g args m K
set_option maxRecDepth 100000 in
theorem T33_ok {C : CC} (hC : CallsOk Try.prog C) : CallsOk Try.prog (T33 G33 C) := by
  intro g args m K E w cargs hS ha h
  unfold T33 at h
  split at h
  · rename_i hg
    obtain rfl := Nat.eq_of_beq_eq_true hg
    unfold VT33 at h
    replace h := seeCons_use h
    rcases h with h | ⟨a1, q2, rfl, h⟩
    · exact hC _ _ _ _ _ _ _ hS ha h
    replace h := seeI_use h
    rcases h with h | ⟨t, rfl, h⟩
    · exact hC _ _ _ _ _ _ _ hS ha h
    replace h := seeCons_use h
    rcases h with h | ⟨a3, q4, rfl, h⟩
    · exact hC _ _ _ _ _ _ _ hS ha h
    replace h := seeAgg_use h
    rcases h with h | ⟨vs5, rfl, h⟩
    · exact hC _ _ _ _ _ _ _ hS ha h
    replace h := seeCons_use h
    rcases h with h | ⟨a6, q7, rfl, h⟩
    · exact hC _ _ _ _ _ _ _ hS ha h
    replace h := seeI_use h
    rcases h with h | ⟨ps, rfl, h⟩
    · exact hC _ _ _ _ _ _ _ hS ha h
    replace h := seeCons_use h
    rcases h with h | ⟨a8, q9, rfl, h⟩
    · exact hC _ _ _ _ _ _ _ hS ha h
    replace h := seeI_use h
    rcases h with h | ⟨pad, rfl, h⟩
    · exact hC _ _ _ _ _ _ _ hS ha h
    replace h := seeCons_use h
    rcases h with h | ⟨a10, q11, rfl, h⟩
    · exact hC _ _ _ _ _ _ _ hS ha h
    replace h := seeI_use h
    rcases h with h | ⟨pp, rfl, h⟩
    · exact hC _ _ _ _ _ _ _ hS ha h
    replace h := seeCons_use h
    rcases h with h | ⟨a12, q13, rfl, h⟩
    · exact hC _ _ _ _ _ _ _ hS ha h
    replace h := seeI_use h
    rcases h with h | ⟨pg, rfl, h⟩
    · exact hC _ _ _ _ _ _ _ hS ha h
    replace h := seeCons_use h
    rcases h with h | ⟨a14, q15, rfl, h⟩
    · exact hC _ _ _ _ _ _ _ hS ha h
    replace h := seeI_use h
    rcases h with h | ⟨ptp, rfl, h⟩
    · exact hC _ _ _ _ _ _ _ hS ha h
    replace h := seeNil_use h
    rcases h with h | ⟨rfl, h⟩
    · exact hC _ _ _ _ _ _ _ hS ha h
    replace h := seeNil_use h
    rcases h with h | ⟨rfl, h⟩
    · exact hC _ _ _ _ _ _ _ hS ha h
    replace h := seeNil_use h
    rcases h with h | ⟨rfl, h⟩
    · exact hC _ _ _ _ _ _ _ hS ha h
    exact cbody_use named (T32a_ok C0_ok) at33 (l := 0) rfl (LoopsOk.none _ _) (F33_ok G32a t ps pad pp pg ptp K) hS ha h
  · exact hC _ _ _ _ _ _ _ hS ha h
theorem at35 : Try.prog.funcs[35]? = some (fnOf Try.prog 35) := by kernel_rfl
abbrev Y35 : Type := Int → Int → (Bool → Int → Prop) → Prop
set_option maxHeartbeats 4000000 in
set_option maxRecDepth 100000 in
def F35 (f32a : Y32a) (t : Int) (n : Int) (k1 : Bool → Int → Prop) : Prop :=
  (f32a t ((k1 true (0 : Int))) ((bif (t == (10 : Int)) then (bif (decide (n ≥ (0 : Int))) then (k1 (decide (n < (4294967296 : Int))) (0 : Int)) else (k1 false (0 : Int))) else (bif (decide (n ≥ (-2147483648 : Int))) then (k1 (decide (n < (2147483648 : Int))) (0 : Int)) else (k1 false (0 : Int))))) ((k1 false (200 : Int))))
theorem F35_ok (f32a : Y32a) (t : Int) (n : Int) (K : V → Mem → Prop) : cbody Try.prog (T32a f32a C0) (fun _ => none) 1000 (fnOf Try.prog 35) [(.I .i64 t), (.I .i64 n)] [] K =
    F35 f32a t n (fun (u0 : Bool) (u1 : Int) => K (.tup [(.B u0), (.I .i64 u1)]) []) := by kernel_rfl
def G35 : Y35 := F35 G32a
def VT35 (f : Y35) (F : Prop) (args : List V) (m : Mem) (K : V → Mem → Prop) : Prop :=
  (seeCons args F fun a1 q2 => (seeI .i64 a1 F fun t => (seeCons q2 F fun a3 q4 => (seeI .i64 a3 F fun n => (seeNil q4 F (seeNil m F (f t n (fun (u0 : Bool) (u1 : Int) => K (.tup [(.B u0), (.I .i64 u1)]) []))))))))
def T35 (f : Y35) (C : CC) : CC := fun g args m K =>
  match Nat.beq g 35 with
  | true => VT35 f (C g args m K) args m K
  | false => C g args m K
set_option maxRecDepth 100000 in
theorem T35_ok {C : CC} (hC : CallsOk Try.prog C) : CallsOk Try.prog (T35 G35 C) := by
  intro g args m K E w cargs hS ha h
  unfold T35 at h
  split at h
  · rename_i hg
    obtain rfl := Nat.eq_of_beq_eq_true hg
    unfold VT35 at h
    replace h := seeCons_use h
    rcases h with h | ⟨a1, q2, rfl, h⟩
    · exact hC _ _ _ _ _ _ _ hS ha h
    replace h := seeI_use h
    rcases h with h | ⟨t, rfl, h⟩
    · exact hC _ _ _ _ _ _ _ hS ha h
    replace h := seeCons_use h
    rcases h with h | ⟨a3, q4, rfl, h⟩
    · exact hC _ _ _ _ _ _ _ hS ha h
    replace h := seeI_use h
    rcases h with h | ⟨n, rfl, h⟩
    · exact hC _ _ _ _ _ _ _ hS ha h
    replace h := seeNil_use h
    rcases h with h | ⟨rfl, h⟩
    · exact hC _ _ _ _ _ _ _ hS ha h
    replace h := seeNil_use h
    rcases h with h | ⟨rfl, h⟩
    · exact hC _ _ _ _ _ _ _ hS ha h
    exact cbody_use named (T32a_ok C0_ok) at35 (l := 0) rfl (LoopsOk.none _ _) (F35_ok G32a t n K) hS ha h
  · exact hC _ _ _ _ _ _ _ hS ha h
abbrev Y32 : Type := Int → (Int → Int → Prop) → Prop
set_option maxHeartbeats 4000000 in
set_option maxRecDepth 100000 in
def F32  (t : Int) (k1 : Int → Int → Prop) : Prop :=
  (bif (t == (1 : Int)) then (k1 (8 : Int) (0 : Int)) else (bif (t == (2 : Int)) then (bif (t == (2 : Int)) then (k1 (4 : Int) (0 : Int)) else (k1 (0 : Int) (200 : Int))) else (bif (t == (4 : Int)) then (bif (t == (4 : Int)) then (k1 (4 : Int) (0 : Int)) else (k1 (0 : Int) (200 : Int))) else (bif (t == (10 : Int)) then (bif (t == (10 : Int)) then (k1 (4 : Int) (0 : Int)) else (k1 (0 : Int) (200 : Int))) else (bif (t == (11 : Int)) then (bif (t == (11 : Int)) then (k1 (4 : Int) (0 : Int)) else (k1 (0 : Int) (200 : Int))) else (bif (t == (9 : Int)) then (bif (t == (9 : Int)) then (k1 (4 : Int) (0 : Int)) else (k1 (0 : Int) (200 : Int))) else (bif (t == (22 : Int)) then (bif (t == (22 : Int)) then (k1 (4 : Int) (0 : Int)) else (k1 (0 : Int) (200 : Int))) else (bif (t == (23 : Int)) then (bif (t == (23 : Int)) then (k1 (4 : Int) (0 : Int)) else (k1 (0 : Int) (200 : Int))) else (bif (t == (21 : Int)) then (k1 (4 : Int) (0 : Int)) else (k1 (0 : Int) (200 : Int)))))))))))
theorem F32_ok  (t : Int) (K : V → Mem → Prop) : cbody Try.prog C0 (fun _ => none) 1000 (fnOf Try.prog 32) [(.I .i64 t)] [] K =
    F32  t (fun (u0 : Int) (u1 : Int) => K (.tup [(.I .i64 u0), (.I .i64 u1)]) []) := by kernel_rfl
def G32 : Y32 := F32 
def VT32 (f : Y32) (F : Prop) (args : List V) (m : Mem) (K : V → Mem → Prop) : Prop :=
  (seeCons args F fun a1 q2 => (seeI .i64 a1 F fun t => (seeNil q2 F (seeNil m F (f t (fun (u0 : Int) (u1 : Int) => K (.tup [(.I .i64 u0), (.I .i64 u1)]) []))))))
def T32 (f : Y32) (C : CC) : CC := fun g args m K =>
  match Nat.beq g 32 with
  | true => VT32 f (C g args m K) args m K
  | false => C g args m K
set_option maxRecDepth 100000 in
theorem T32_ok {C : CC} (hC : CallsOk Try.prog C) : CallsOk Try.prog (T32 G32 C) := by
  intro g args m K E w cargs hS ha h
  unfold T32 at h
  split at h
  · rename_i hg
    obtain rfl := Nat.eq_of_beq_eq_true hg
    unfold VT32 at h
    replace h := seeCons_use h
    rcases h with h | ⟨a1, q2, rfl, h⟩
    · exact hC _ _ _ _ _ _ _ hS ha h
    replace h := seeI_use h
    rcases h with h | ⟨t, rfl, h⟩
    · exact hC _ _ _ _ _ _ _ hS ha h
    replace h := seeNil_use h
    rcases h with h | ⟨rfl, h⟩
    · exact hC _ _ _ _ _ _ _ hS ha h
    replace h := seeNil_use h
    rcases h with h | ⟨rfl, h⟩
    · exact hC _ _ _ _ _ _ _ hS ha h
    exact cbody_use named C0_ok at32 (l := 0) rfl (LoopsOk.none _ _) (F32_ok  t K) hS ha h
  · exact hC _ _ _ _ _ _ _ hS ha h
theorem at34 : Try.prog.funcs[34]? = some (fnOf Try.prog 34) := by kernel_rfl
abbrev Y34 : Type := Int → Int → (Bool → Int → Prop) → Prop
set_option maxHeartbeats 4000000 in
set_option maxRecDepth 100000 in
def F34 (f54 : Y54) (t : Int) (n : Int) (k1 : Bool → Int → Prop) : Prop :=
  (f54 t (fun (xs1 : List Int) => (k1 false (200 : Int))) (fun (xs2 : List Int) => (bif (decide (n ≥ (-2147483648 : Int))) then (k1 (decide (n < (2147483648 : Int))) (0 : Int)) else (k1 false (0 : Int)))) (fun (xs3 : List Int) => (bif (decide (n ≥ (-2147483648 : Int))) then (k1 (decide (n < (2147483648 : Int))) (0 : Int)) else (k1 false (0 : Int)))) (fun (xs4 : List Int) => (bif (decide (n ≥ (-2147483648 : Int))) then (k1 (decide (n < (2147483648 : Int))) (0 : Int)) else (k1 false (0 : Int)))) (fun (xs5 : List Int) => (bif (decide (n < (0 : Int))) then (k1 false (0 : Int)) else (k1 (decide (n < (4294967296 : Int))) (0 : Int)))) (fun (xs6 : List Int) => (bif (decide (n ≥ (-2147483648 : Int))) then (k1 (decide (n < (2147483648 : Int))) (0 : Int)) else (k1 false (0 : Int)))) (fun (xs7 : List Int) => (k1 true (0 : Int))))
theorem F34_ok (f54 : Y54) (t : Int) (n : Int) (K : V → Mem → Prop) : cbody Try.prog (T54 f54 C0) (fun _ => none) 1000 (fnOf Try.prog 34) [(.I .i64 t), (.I .i64 n)] [] K =
    F34 f54 t n (fun (u0 : Bool) (u1 : Int) => K (.tup [(.B u0), (.I .i64 u1)]) []) := by kernel_rfl
def G34 : Y34 := F34 G54
def VT34 (f : Y34) (F : Prop) (args : List V) (m : Mem) (K : V → Mem → Prop) : Prop :=
  (seeCons args F fun a1 q2 => (seeI .i64 a1 F fun t => (seeCons q2 F fun a3 q4 => (seeI .i64 a3 F fun n => (seeNil q4 F (seeNil m F (f t n (fun (u0 : Bool) (u1 : Int) => K (.tup [(.B u0), (.I .i64 u1)]) []))))))))
def T34 (f : Y34) (C : CC) : CC := fun g args m K =>
  match Nat.beq g 34 with
  | true => VT34 f (C g args m K) args m K
  | false => C g args m K
set_option maxRecDepth 100000 in
theorem T34_ok {C : CC} (hC : CallsOk Try.prog C) : CallsOk Try.prog (T34 G34 C) := by
  intro g args m K E w cargs hS ha h
  unfold T34 at h
  split at h
  · rename_i hg
    obtain rfl := Nat.eq_of_beq_eq_true hg
    unfold VT34 at h
    replace h := seeCons_use h
    rcases h with h | ⟨a1, q2, rfl, h⟩
    · exact hC _ _ _ _ _ _ _ hS ha h
    replace h := seeI_use h
    rcases h with h | ⟨t, rfl, h⟩
    · exact hC _ _ _ _ _ _ _ hS ha h
    replace h := seeCons_use h
    rcases h with h | ⟨a3, q4, rfl, h⟩
    · exact hC _ _ _ _ _ _ _ hS ha h
    replace h := seeI_use h
    rcases h with h | ⟨n, rfl, h⟩
    · exact hC _ _ _ _ _ _ _ hS ha h
    replace h := seeNil_use h
    rcases h with h | ⟨rfl, h⟩
    · exact hC _ _ _ _ _ _ _ hS ha h
    replace h := seeNil_use h
    rcases h with h | ⟨rfl, h⟩
    · exact hC _ _ _ _ _ _ _ hS ha h
    exact cbody_use named (T54_ok C0_ok) at34 (l := 0) rfl (LoopsOk.none _ _) (F34_ok G54 t n K) hS ha h
  · exact hC _ _ _ _ _ _ _ hS ha h
theorem at36 : Try.prog.funcs[36]? = some (fnOf Try.prog 36) := by kernel_rfl
abbrev Y36 : Type := Int → (Bool → Bool → Prop) → Prop
set_option maxHeartbeats 4000000 in
set_option maxRecDepth 100000 in
def F36  (t : Int) (k1 : Bool → Bool → Prop) : Prop :=
  (k1 (t == (9 : Int)) (t == (22 : Int)))
theorem F36_ok  (t : Int) (K : V → Mem → Prop) : cbody Try.prog C0 (fun _ => none) 1000 (fnOf Try.prog 36) [(.I .i64 t)] [] K =
    F36  t (fun (u0 : Bool) (u1 : Bool) => K (.tup [(.B u0), (.B u1)]) []) := by kernel_rfl
def G36 : Y36 := F36 
def VT36 (f : Y36) (F : Prop) (args : List V) (m : Mem) (K : V → Mem → Prop) : Prop :=
  (seeCons args F fun a1 q2 => (seeI .i64 a1 F fun t => (seeNil q2 F (seeNil m F (f t (fun (u0 : Bool) (u1 : Bool) => K (.tup [(.B u0), (.B u1)]) []))))))
def T36 (f : Y36) (C : CC) : CC := fun g args m K =>
  match Nat.beq g 36 with
  | true => VT36 f (C g args m K) args m K
  | false => C g args m K
set_option maxRecDepth 100000 in
theorem T36_ok {C : CC} (hC : CallsOk Try.prog C) : CallsOk Try.prog (T36 G36 C) := by
  intro g args m K E w cargs hS ha h
  unfold T36 at h
  split at h
  · rename_i hg
    obtain rfl := Nat.eq_of_beq_eq_true hg
    unfold VT36 at h
    replace h := seeCons_use h
    rcases h with h | ⟨a1, q2, rfl, h⟩
    · exact hC _ _ _ _ _ _ _ hS ha h
    replace h := seeI_use h
    rcases h with h | ⟨t, rfl, h⟩
    · exact hC _ _ _ _ _ _ _ hS ha h
    replace h := seeNil_use h
    rcases h with h | ⟨rfl, h⟩
    · exact hC _ _ _ _ _ _ _ hS ha h
    replace h := seeNil_use h
    rcases h with h | ⟨rfl, h⟩
    · exact hC _ _ _ _ _ _ _ hS ha h
    exact cbody_use named C0_ok at36 (l := 0) rfl (LoopsOk.none _ _) (F36_ok  t K) hS ha h
  · exact hC _ _ _ _ _ _ _ hS ha h
theorem at37 : Try.prog.funcs[37]? = some (fnOf Try.prog 37) := by kernel_rfl
abbrev Y37 : Type := Int → (Bool → Bool → Prop) → Prop
set_option maxHeartbeats 4000000 in
set_option maxRecDepth 100000 in
def F37  (t : Int) (k1 : Bool → Bool → Prop) : Prop :=
  (k1 (t == (9 : Int)) (t == (22 : Int)))
theorem F37_ok  (t : Int) (K : V → Mem → Prop) : cbody Try.prog C0 (fun _ => none) 1000 (fnOf Try.prog 37) [(.I .i64 t)] [] K =
    F37  t (fun (u0 : Bool) (u1 : Bool) => K (.tup [(.B u0), (.B u1)]) []) := by kernel_rfl
def G37 : Y37 := F37 
def VT37 (f : Y37) (F : Prop) (args : List V) (m : Mem) (K : V → Mem → Prop) : Prop :=
  (seeCons args F fun a1 q2 => (seeI .i64 a1 F fun t => (seeNil q2 F (seeNil m F (f t (fun (u0 : Bool) (u1 : Bool) => K (.tup [(.B u0), (.B u1)]) []))))))
def T37 (f : Y37) (C : CC) : CC := fun g args m K =>
  match Nat.beq g 37 with
  | true => VT37 f (C g args m K) args m K
  | false => C g args m K
set_option maxRecDepth 100000 in
theorem T37_ok {C : CC} (hC : CallsOk Try.prog C) : CallsOk Try.prog (T37 G37 C) := by
  intro g args m K E w cargs hS ha h
  unfold T37 at h
  split at h
  · rename_i hg
    obtain rfl := Nat.eq_of_beq_eq_true hg
    unfold VT37 at h
    replace h := seeCons_use h
    rcases h with h | ⟨a1, q2, rfl, h⟩
    · exact hC _ _ _ _ _ _ _ hS ha h
    replace h := seeI_use h
    rcases h with h | ⟨t, rfl, h⟩
    · exact hC _ _ _ _ _ _ _ hS ha h
    replace h := seeNil_use h
    rcases h with h | ⟨rfl, h⟩
    · exact hC _ _ _ _ _ _ _ hS ha h
    replace h := seeNil_use h
    rcases h with h | ⟨rfl, h⟩
    · exact hC _ _ _ _ _ _ _ hS ha h
    exact cbody_use named C0_ok at37 (l := 0) rfl (LoopsOk.none _ _) (F37_ok  t K) hS ha h
  · exact hC _ _ _ _ _ _ _ hS ha h
theorem at38 : Try.prog.funcs[38]? = some (fnOf Try.prog 38) := by kernel_rfl
abbrev Y38 : Type := Int → (Bool → Prop) → Prop
set_option maxHeartbeats 4000000 in
set_option maxRecDepth 100000 in
def F38  (t : Int) (k1 : Bool → Prop) : Prop :=
  (k1 (t == (1 : Int)))
theorem F38_ok  (t : Int) (K : V → Mem → Prop) : cbody Try.prog C0 (fun _ => none) 1000 (fnOf Try.prog 38) [(.I .i64 t)] [] K =
    F38  t (fun (u0 : Bool) => K (.B u0) []) := by kernel_rfl
def G38 : Y38 := F38 
def VT38 (f : Y38) (F : Prop) (args : List V) (m : Mem) (K : V → Mem → Prop) : Prop :=
  (seeCons args F fun a1 q2 => (seeI .i64 a1 F fun t => (seeNil q2 F (seeNil m F (f t (fun (u0 : Bool) => K (.B u0) []))))))
def T38 (f : Y38) (C : CC) : CC := fun g args m K =>
  match Nat.beq g 38 with
  | true => VT38 f (C g args m K) args m K
  | false => C g args m K
set_option maxRecDepth 100000 in
theorem T38_ok {C : CC} (hC : CallsOk Try.prog C) : CallsOk Try.prog (T38 G38 C) := by
  intro g args m K E w cargs hS ha h
  unfold T38 at h
  split at h
  · rename_i hg
    obtain rfl := Nat.eq_of_beq_eq_true hg
    unfold VT38 at h
    replace h := seeCons_use h
    rcases h with h | ⟨a1, q2, rfl, h⟩
    · exact hC _ _ _ _ _ _ _ hS ha h
    replace h := seeI_use h
    rcases h with h | ⟨t, rfl, h⟩
    · exact hC _ _ _ _ _ _ _ hS ha h
    replace h := seeNil_use h
    rcases h with h | ⟨rfl, h⟩
    · exact hC _ _ _ _ _ _ _ hS ha h
    replace h := seeNil_use h
    rcases h with h | ⟨rfl, h⟩
    · exact hC _ _ _ _ _ _ _ hS ha h
    exact cbody_use named C0_ok at38 (l := 0) rfl (LoopsOk.none _ _) (F38_ok  t K) hS ha h
  · exact hC _ _ _ _ _ _ _ hS ha h
theorem at39 : Try.prog.funcs[39]? = some (fnOf Try.prog 39) := by kernel_rfl
abbrev Y39 : Type := Int → (Bool → Prop) → Prop
set_option maxHeartbeats 4000000 in
set_option maxRecDepth 100000 in
def F39  (t : Int) (k1 : Bool → Prop) : Prop :=
  (k1 (t == (1 : Int)))
theorem F39_ok  (t : Int) (K : V → Mem → Prop) : cbody Try.prog C0 (fun _ => none) 1000 (fnOf Try.prog 39) [(.I .i64 t)] [] K =
    F39  t (fun (u0 : Bool) => K (.B u0) []) := by kernel_rfl
def G39 : Y39 := F39 
def VT39 (f : Y39) (F : Prop) (args : List V) (m : Mem) (K : V → Mem → Prop) : Prop :=
  (seeCons args F fun a1 q2 => (seeI .i64 a1 F fun t => (seeNil q2 F (seeNil m F (f t (fun (u0 : Bool) => K (.B u0) []))))))
def T39 (f : Y39) (C : CC) : CC := fun g args m K =>
  match Nat.beq g 39 with
  | true => VT39 f (C g args m K) args m K
  | false => C g args m K
set_option maxRecDepth 100000 in
theorem T39_ok {C : CC} (hC : CallsOk Try.prog C) : CallsOk Try.prog (T39 G39 C) := by
  intro g args m K E w cargs hS ha h
  unfold T39 at h
  split at h
  · rename_i hg
    obtain rfl := Nat.eq_of_beq_eq_true hg
    unfold VT39 at h
    replace h := seeCons_use h
    rcases h with h | ⟨a1, q2, rfl, h⟩
    · exact hC _ _ _ _ _ _ _ hS ha h
    replace h := seeI_use h
    rcases h with h | ⟨t, rfl, h⟩
    · exact hC _ _ _ _ _ _ _ hS ha h
    replace h := seeNil_use h
    rcases h with h | ⟨rfl, h⟩
    · exact hC _ _ _ _ _ _ _ hS ha h
    replace h := seeNil_use h
    rcases h with h | ⟨rfl, h⟩
    · exact hC _ _ _ _ _ _ _ hS ha h
    exact cbody_use named C0_ok at39 (l := 0) rfl (LoopsOk.none _ _) (F39_ok  t K) hS ha h
  · exact hC _ _ _ _ _ _ _ hS ha h
theorem at40 : Try.prog.funcs[40]? = some (fnOf Try.prog 40) := by kernel_rfl
abbrev Y40 : Type := Int → (List Int → Prop) → Prop
set_option maxHeartbeats 4000000 in
set_option maxRecDepth 100000 in
def F40 (f54 : Y54) (t : Int) (k1 : List Int → Prop) : Prop :=
  (f54 t (fun (xs1 : List Int) => (bif (xs1 == ([] : List Int)) then (k1 ([] : List Int)) else (bif (decide (((9 : Nat) + (List.length xs1)) ≤ (4611686018427387904 : Nat))) then (k1 (([(82 : Int), (95 : Int), (88 : Int), (56 : Int), (54 : Int), (95 : Int), (54 : Int), (52 : Int), (95 : Int)] : List Int) ++ xs1)) else False))) (fun (xs2 : List Int) => (bif (xs2 == ([] : List Int)) then (k1 ([] : List Int)) else (bif (decide (((9 : Nat) + (List.length xs2)) ≤ (4611686018427387904 : Nat))) then (k1 (([(82 : Int), (95 : Int), (88 : Int), (56 : Int), (54 : Int), (95 : Int), (54 : Int), (52 : Int), (95 : Int)] : List Int) ++ xs2)) else False))) (fun (xs3 : List Int) => (bif (xs3 == ([] : List Int)) then (k1 ([] : List Int)) else (bif (decide (((9 : Nat) + (List.length xs3)) ≤ (4611686018427387904 : Nat))) then (k1 (([(82 : Int), (95 : Int), (88 : Int), (56 : Int), (54 : Int), (95 : Int), (54 : Int), (52 : Int), (95 : Int)] : List Int) ++ xs3)) else False))) (fun (xs4 : List Int) => (bif (xs4 == ([] : List Int)) then (k1 ([] : List Int)) else (bif (decide (((9 : Nat) + (List.length xs4)) ≤ (4611686018427387904 : Nat))) then (k1 (([(82 : Int), (95 : Int), (88 : Int), (56 : Int), (54 : Int), (95 : Int), (54 : Int), (52 : Int), (95 : Int)] : List Int) ++ xs4)) else False))) (fun (xs5 : List Int) => (bif (xs5 == ([] : List Int)) then (k1 ([] : List Int)) else (bif (decide (((9 : Nat) + (List.length xs5)) ≤ (4611686018427387904 : Nat))) then (k1 (([(82 : Int), (95 : Int), (88 : Int), (56 : Int), (54 : Int), (95 : Int), (54 : Int), (52 : Int), (95 : Int)] : List Int) ++ xs5)) else False))) (fun (xs6 : List Int) => (bif (xs6 == ([] : List Int)) then (k1 ([] : List Int)) else (bif (decide (((9 : Nat) + (List.length xs6)) ≤ (4611686018427387904 : Nat))) then (k1 (([(82 : Int), (95 : Int), (88 : Int), (56 : Int), (54 : Int), (95 : Int), (54 : Int), (52 : Int), (95 : Int)] : List Int) ++ xs6)) else False))) (fun (xs7 : List Int) => (bif (xs7 == ([] : List Int)) then (k1 ([] : List Int)) else (bif (decide (((9 : Nat) + (List.length xs7)) ≤ (4611686018427387904 : Nat))) then (k1 (([(82 : Int), (95 : Int), (88 : Int), (56 : Int), (54 : Int), (95 : Int), (54 : Int), (52 : Int), (95 : Int)] : List Int) ++ xs7)) else False))))
theorem F40_ok (f54 : Y54) (t : Int) (K : V → Mem → Prop) : cbody Try.prog (T54 f54 C0) (fun _ => none) 1000 (fnOf Try.prog 40) [(.I .i64 t)] [] K =
    F40 f54 t (fun (u0 : List Int) => K (.S u0) []) := by kernel_rfl
def G40 : Y40 := F40 G54
def VT40 (f : Y40) (F : Prop) (args : List V) (m : Mem) (K : V → Mem → Prop) : Prop :=
  (seeCons args F fun a1 q2 => (seeI .i64 a1 F fun t => (seeNil q2 F (seeNil m F (f t (fun (u0 : List Int) => K (.S u0) []))))))
def T40 (f : Y40) (C : CC) : CC := fun g args m K =>
  match Nat.beq g 40 with
  | true => VT40 f (C g args m K) args m K
  | false => C g args m K
set_option maxRecDepth 100000 in
theorem T40_ok {C : CC} (hC : CallsOk Try.prog C) : CallsOk Try.prog (T40 G40 C) := by
  intro g args m K E w cargs hS ha h
  unfold T40 at h
  split at h
  · rename_i hg
    obtain rfl := Nat.eq_of_beq_eq_true hg
    unfold VT40 at h
    replace h := seeCons_use h
    rcases h with h | ⟨a1, q2, rfl, h⟩
    · exact hC _ _ _ _ _ _ _ hS ha h
    replace h := seeI_use h
    rcases h with h | ⟨t, rfl, h⟩
    · exact hC _ _ _ _ _ _ _ hS ha h
    replace h := seeNil_use h
    rcases h with h | ⟨rfl, h⟩
    · exact hC _ _ _ _ _ _ _ hS ha h
    replace h := seeNil_use h
    rcases h with h | ⟨rfl, h⟩
    · exact hC _ _ _ _ _ _ _ hS ha h
    exact cbody_use named (T54_ok C0_ok) at40 (l := 0) rfl (LoopsOk.none _ _) (F40_ok G54 t K) hS ha h
  · exact hC _ _ _ _ _ _ _ hS ha h
theorem at41 : Try.prog.funcs[41]? = some (fnOf Try.prog 41) := by kernel_rfl
abbrev Y41 : Type := Int → (List Int → Prop) → Prop
set_option maxHeartbeats 4000000 in
set_option maxRecDepth 100000 in
def F41  (t : Int) (k1 : List Int → Prop) : Prop :=
  (bif (t == (0 : Int)) then (k1 ([(82 : Int), (95 : Int), (88 : Int), (56 : Int), (54 : Int), (95 : Int), (54 : Int), (52 : Int), (95 : Int), (78 : Int), (79 : Int), (78 : Int), (69 : Int)] : List Int)) else (bif (t == (1 : Int)) then (k1 ([(82 : Int), (95 : Int), (88 : Int), (56 : Int), (54 : Int), (95 : Int), (54 : Int), (52 : Int), (95 : Int), (54 : Int), (52 : Int)] : List Int)) else (bif (t == (2 : Int)) then (k1 ([(82 : Int), (95 : Int), (88 : Int), (56 : Int), (54 : Int), (95 : Int), (54 : Int), (52 : Int), (95 : Int), (80 : Int), (67 : Int), (51 : Int), (50 : Int)] : List Int)) else (bif (t == (4 : Int)) then (k1 ([(82 : Int), (95 : Int), (88 : Int), (56 : Int), (54 : Int), (95 : Int), (54 : Int), (52 : Int), (95 : Int), (80 : Int), (76 : Int), (84 : Int), (51 : Int), (50 : Int)] : List Int)) else (bif (t == (6 : Int)) then (k1 ([(82 : Int), (95 : Int), (88 : Int), (56 : Int), (54 : Int), (95 : Int), (54 : Int), (52 : Int), (95 : Int), (71 : Int), (76 : Int), (79 : Int), (66 : Int), (95 : Int), (68 : Int), (65 : Int), (84 : Int)] : List Int)) else (bif (t == (8 : Int)) then (k1 ([(82 : Int), (95 : Int), (88 : Int), (56 : Int), (54 : Int), (95 : Int), (54 : Int), (52 : Int), (95 : Int), (82 : Int), (69 : Int), (76 : Int), (65 : Int), (84 : Int), (73 : Int), (86 : Int), (69 : Int)] : List Int)) else (bif (t == (9 : Int)) then (k1 ([(82 : Int), (95 : Int), (88 : Int), (56 : Int), (54 : Int), (95 : Int), (54 : Int), (52 : Int), (95 : Int), (71 : Int), (79 : Int), (84 : Int), (80 : Int), (67 : Int), (82 : Int), (69 : Int), (76 : Int)] : List Int)) else (bif (t == (10 : Int)) then (k1 ([(82 : Int), (95 : Int), (88 : Int), (56 : Int), (54 : Int), (95 : Int), (54 : Int), (52 : Int), (95 : Int), (51 : Int), (50 : Int)] : List Int)) else (bif (t == (11 : Int)) then (k1 ([(82 : Int), (95 : Int), (88 : Int), (56 : Int), (54 : Int), (95 : Int), (54 : Int), (52 : Int), (95 : Int), (51 : Int), (50 : Int), (83 : Int)] : List Int)) else (bif (t == (19 : Int)) then (k1 ([(82 : Int), (95 : Int), (88 : Int), (56 : Int), (54 : Int), (95 : Int), (54 : Int), (52 : Int), (95 : Int), (84 : Int), (76 : Int), (83 : Int), (71 : Int), (68 : Int)] : List Int)) else (bif (t == (20 : Int)) then (k1 ([(82 : Int), (95 : Int), (88 : Int), (56 : Int), (54 : Int), (95 : Int), (54 : Int), (52 : Int), (95 : Int), (84 : Int), (76 : Int), (83 : Int), (76 : Int), (68 : Int)] : List Int)) else (bif (t == (21 : Int)) then (k1 ([(82 : Int), (95 : Int), (88 : Int), (56 : Int), (54 : Int), (95 : Int), (54 : Int), (52 : Int), (95 : Int), (68 : Int), (84 : Int), (80 : Int), (79 : Int), (70 : Int), (70 : Int), (51 : Int), (50 : Int)] : List Int)) else (bif (t == (22 : Int)) then (k1 ([(82 : Int), (95 : Int), (88 : Int), (56 : Int), (54 : Int), (95 : Int), (54 : Int), (52 : Int), (95 : Int), (71 : Int), (79 : Int), (84 : Int), (84 : Int), (80 : Int), (79 : Int), (70 : Int), (70 : Int)] : List Int)) else (bif (t == (23 : Int)) then (k1 ([(82 : Int), (95 : Int), (88 : Int), (56 : Int), (54 : Int), (95 : Int), (54 : Int), (52 : Int), (95 : Int), (84 : Int), (80 : Int), (79 : Int), (70 : Int), (70 : Int), (51 : Int), (50 : Int)] : List Int)) else (bif (t == (37 : Int)) then (k1 ([(82 : Int), (95 : Int), (88 : Int), (56 : Int), (54 : Int), (95 : Int), (54 : Int), (52 : Int), (95 : Int), (73 : Int), (82 : Int), (69 : Int), (76 : Int), (65 : Int), (84 : Int), (73 : Int), (86 : Int), (69 : Int)] : List Int)) else (k1 ([] : List Int)))))))))))))))))
theorem F41_ok  (t : Int) (K : V → Mem → Prop) : cbody Try.prog C0 (fun _ => none) 1000 (fnOf Try.prog 41) [(.I .i64 t)] [] K =
    F41  t (fun (u0 : List Int) => K (.S u0) []) := by kernel_rfl
def G41 : Y41 := F41 
def VT41 (f : Y41) (F : Prop) (args : List V) (m : Mem) (K : V → Mem → Prop) : Prop :=
  (seeCons args F fun a1 q2 => (seeI .i64 a1 F fun t => (seeNil q2 F (seeNil m F (f t (fun (u0 : List Int) => K (.S u0) []))))))
def T41 (f : Y41) (C : CC) : CC := fun g args m K =>
  match Nat.beq g 41 with
  | true => VT41 f (C g args m K) args m K
  | false => C g args m K
set_option maxRecDepth 100000 in
theorem T41_ok {C : CC} (hC : CallsOk Try.prog C) : CallsOk Try.prog (T41 G41 C) := by
  intro g args m K E w cargs hS ha h
  unfold T41 at h
  split at h
  · rename_i hg
    obtain rfl := Nat.eq_of_beq_eq_true hg
    unfold VT41 at h
    replace h := seeCons_use h
    rcases h with h | ⟨a1, q2, rfl, h⟩
    · exact hC _ _ _ _ _ _ _ hS ha h
    replace h := seeI_use h
    rcases h with h | ⟨t, rfl, h⟩
    · exact hC _ _ _ _ _ _ _ hS ha h
    replace h := seeNil_use h
    rcases h with h | ⟨rfl, h⟩
    · exact hC _ _ _ _ _ _ _ hS ha h
    replace h := seeNil_use h
    rcases h with h | ⟨rfl, h⟩
    · exact hC _ _ _ _ _ _ _ hS ha h
    exact cbody_use named C0_ok at41 (l := 0) rfl (LoopsOk.none _ _) (F41_ok  t K) hS ha h
  · exact hC _ _ _ _ _ _ _ hS ha h
abbrev Y23l : Type := Int → Int → Int → Int → Int → Int → (Prop) → (Prop) → (Int → Prop) → Prop
set_option maxHeartbeats 4000000 in
set_option maxRecDepth 100000 in
def F23l (f54 : Y54) (t : Int) (ps : Int) (pad : Int) (pp : Int) (pg : Int) (ptp : Int) (k1 : Prop) (k2 : Prop) (k3 : Int → Prop) : Prop :=
  (f54 t (fun (xs1 : List Int) => (k1)) (fun (xs2 : List Int) => (bif (decide (ps < (-1152921504606846976 : Int))) then (k2) else (bif (decide (ps > (1152921504606846976 : Int))) then (k2) else (bif (decide (pad < (-1152921504606846976 : Int))) then (k2) else (bif (decide (pad > (1152921504606846976 : Int))) then (k2) else (bif (decide (pp < (-1152921504606846976 : Int))) then (k2) else (bif (decide (pp > (1152921504606846976 : Int))) then (k2) else (bif (decide (pg < (-1152921504606846976 : Int))) then (k2) else (bif (decide (pg > (1152921504606846976 : Int))) then (k2) else (bif (decide (ptp < (-1152921504606846976 : Int))) then (k2) else (bif (decide (ptp > (1152921504606846976 : Int))) then (k2) else (k3 (IntKind.wrap .i64 ((IntKind.wrap .i64 (ps + pad)) - ptp)))))))))))))) (fun (xs3 : List Int) => (bif (decide (ps < (-1152921504606846976 : Int))) then (k2) else (bif (decide (ps > (1152921504606846976 : Int))) then (k2) else (bif (decide (pad < (-1152921504606846976 : Int))) then (k2) else (bif (decide (pad > (1152921504606846976 : Int))) then (k2) else (bif (decide (pp < (-1152921504606846976 : Int))) then (k2) else (bif (decide (pp > (1152921504606846976 : Int))) then (k2) else (bif (decide (pg < (-1152921504606846976 : Int))) then (k2) else (bif (decide (pg > (1152921504606846976 : Int))) then (k2) else (bif (decide (ptp < (-1152921504606846976 : Int))) then (k2) else (bif (decide (ptp > (1152921504606846976 : Int))) then (k2) else (k3 (IntKind.wrap .i64 ((IntKind.wrap .i64 (pg + pad)) - pp)))))))))))))) (fun (xs4 : List Int) => (bif (decide (ps < (-1152921504606846976 : Int))) then (k2) else (bif (decide (ps > (1152921504606846976 : Int))) then (k2) else (bif (decide (pad < (-1152921504606846976 : Int))) then (k2) else (bif (decide (pad > (1152921504606846976 : Int))) then (k2) else (bif (decide (pp < (-1152921504606846976 : Int))) then (k2) else (bif (decide (pp > (1152921504606846976 : Int))) then (k2) else (bif (decide (pg < (-1152921504606846976 : Int))) then (k2) else (bif (decide (pg > (1152921504606846976 : Int))) then (k2) else (bif (decide (ptp < (-1152921504606846976 : Int))) then (k2) else (bif (decide (ptp > (1152921504606846976 : Int))) then (k2) else (k3 (IntKind.wrap .i64 (ps + pad)))))))))))))) (fun (xs5 : List Int) => (bif (decide (ps < (-1152921504606846976 : Int))) then (k2) else (bif (decide (ps > (1152921504606846976 : Int))) then (k2) else (bif (decide (pad < (-1152921504606846976 : Int))) then (k2) else (bif (decide (pad > (1152921504606846976 : Int))) then (k2) else (bif (decide (pp < (-1152921504606846976 : Int))) then (k2) else (bif (decide (pp > (1152921504606846976 : Int))) then (k2) else (bif (decide (pg < (-1152921504606846976 : Int))) then (k2) else (bif (decide (pg > (1152921504606846976 : Int))) then (k2) else (bif (decide (ptp < (-1152921504606846976 : Int))) then (k2) else (bif (decide (ptp > (1152921504606846976 : Int))) then (k2) else (k3 (IntKind.wrap .i64 (ps + pad)))))))))))))) (fun (xs6 : List Int) => (bif (decide (ps < (-1152921504606846976 : Int))) then (k2) else (bif (decide (ps > (1152921504606846976 : Int))) then (k2) else (bif (decide (pad < (-1152921504606846976 : Int))) then (k2) else (bif (decide (pad > (1152921504606846976 : Int))) then (k2) else (bif (decide (pp < (-1152921504606846976 : Int))) then (k2) else (bif (decide (pp > (1152921504606846976 : Int))) then (k2) else (bif (decide (pg < (-1152921504606846976 : Int))) then (k2) else (bif (decide (pg > (1152921504606846976 : Int))) then (k2) else (bif (decide (ptp < (-1152921504606846976 : Int))) then (k2) else (bif (decide (ptp > (1152921504606846976 : Int))) then (k2) else (k3 (IntKind.wrap .i64 ((IntKind.wrap .i64 (ps + pad)) - pp)))))))))))))) (fun (xs7 : List Int) => (bif (decide (ps < (-1152921504606846976 : Int))) then (k2) else (bif (decide (ps > (1152921504606846976 : Int))) then (k2) else (bif (decide (pad < (-1152921504606846976 : Int))) then (k2) else (bif (decide (pad > (1152921504606846976 : Int))) then (k2) else (bif (decide (pp < (-1152921504606846976 : Int))) then (k2) else (bif (decide (pp > (1152921504606846976 : Int))) then (k2) else (bif (decide (pg < (-1152921504606846976 : Int))) then (k2) else (bif (decide (pg > (1152921504606846976 : Int))) then (k2) else (bif (decide (ptp < (-1152921504606846976 : Int))) then (k2) else (bif (decide (ptp > (1152921504606846976 : Int))) then (k2) else (k3 (IntKind.wrap .i64 (ps + pad)))))))))))))))
theorem F23l_ok (f54 : Y54) (t : Int) (ps : Int) (pad : Int) (pp : Int) (pg : Int) (ptp : Int) (K : V → Mem → Prop) : cbody Try.prog (T54 f54 C0) (fun _ => none) 1000 (fnOf Try.prog 23) [(.I .i64 t), (.agg [(.I .i64 ps), (.I .i64 pad), (.I .i64 pp), (.I .i64 pg), (.I .i64 ptp)])] [] K =
    F23l f54 t ps pad pp pg ptp (K (.tup [(.I .i64 (0 : Int)), (.I .i64 (200 : Int))]) []) (K (.tup [(.I .i64 (0 : Int)), (.I .i64 (11 : Int))]) []) (fun (u0 : Int) => K (.tup [(.I .i64 u0), (.I .i64 (0 : Int))]) []) := by kernel_rfl
def G23l : Y23l := F23l G54
def VT23l (f : Y23l) (F : Prop) (args : List V) (m : Mem) (K : V → Mem → Prop) : Prop :=
  (seeCons args F fun a1 q2 => (seeI .i64 a1 F fun t => (seeCons q2 F fun a3 q4 => (seeAgg a3 F fun vs5 => (seeCons vs5 F fun a6 q7 => (seeI .i64 a6 F fun ps => (seeCons q7 F fun a8 q9 => (seeI .i64 a8 F fun pad => (seeCons q9 F fun a10 q11 => (seeI .i64 a10 F fun pp => (seeCons q11 F fun a12 q13 => (seeI .i64 a12 F fun pg => (seeCons q13 F fun a14 q15 => (seeI .i64 a14 F fun ptp => (seeNil q15 F (seeNil q4 F (seeNil m F (f t ps pad pp pg ptp (K (.tup [(.I .i64 (0 : Int)), (.I .i64 (200 : Int))]) []) (K (.tup [(.I .i64 (0 : Int)), (.I .i64 (11 : Int))]) []) (fun (u0 : Int) => K (.tup [(.I .i64 u0), (.I .i64 (0 : Int))]) [])))))))))))))))))))
def T23l (f : Y23l) (C : CC) : CC := fun g args m K =>
  match Nat.beq g 23 with
  | true => VT23l f (C g args m K) args m K
  | false => C g args m K
set_option maxRecDepth 100000 in
theorem T23l_ok {C : CC} (hC : CallsOk Try.prog C) : CallsOk Try.prog (T23l G23l C) := by
  intro g args m K E w cargs hS ha h
  unfold T23l at h
  split at h
  · rename_i hg
    obtain rfl := Nat.eq_of_beq_eq_true hg
    unfold VT23l at h
    replace h := seeCons_use h
    rcases h with h | ⟨a1, q2, rfl, h⟩
    · exact hC _ _ _ _ _ _ _ hS ha h
    replace h := seeI_use h
    rcases h with h | ⟨t, rfl, h⟩
    · exact hC _ _ _ _ _ _ _ hS ha h
    replace h := seeCons_use h
    rcases h with h | ⟨a3, q4, rfl, h⟩
    · exact hC _ _ _ _ _ _ _ hS ha h
    replace h := seeAgg_use h
    rcases h with h | ⟨vs5, rfl, h⟩
    · exact hC _ _ _ _ _ _ _ hS ha h
    replace h := seeCons_use h
    rcases h with h | ⟨a6, q7, rfl, h⟩
    · exact hC _ _ _ _ _ _ _ hS ha h
    replace h := seeI_use h
    rcases h with h | ⟨ps, rfl, h⟩
    · exact hC _ _ _ _ _ _ _ hS ha h
    replace h := seeCons_use h
    rcases h with h | ⟨a8, q9, rfl, h⟩
    · exact hC _ _ _ _ _ _ _ hS ha h
    replace h := seeI_use h
    rcases h with h | ⟨pad, rfl, h⟩
    · exact hC _ _ _ _ _ _ _ hS ha h
    replace h := seeCons_use h
    rcases h with h | ⟨a10, q11, rfl, h⟩
    · exact hC _ _ _ _ _ _ _ hS ha h
    replace h := seeI_use h
    rcases h with h | ⟨pp, rfl, h⟩
    · exact hC _ _ _ _ _ _ _ hS ha h
    replace h := seeCons_use h
    rcases h with h | ⟨a12, q13, rfl, h⟩
    · exact hC _ _ _ _ _ _ _ hS ha h
    replace h := seeI_use h
    rcases h with h | ⟨pg, rfl, h⟩
    · exact hC _ _ _ _ _ _ _ hS ha h
    replace h := seeCons_use h
    rcases h with h | ⟨a14, q15, rfl, h⟩
    · exact hC _ _ _ _ _ _ _ hS ha h
    replace h := seeI_use h
    rcases h with h | ⟨ptp, rfl, h⟩
    · exact hC _ _ _ _ _ _ _ hS ha h
    replace h := seeNil_use h
    rcases h with h | ⟨rfl, h⟩
    · exact hC _ _ _ _ _ _ _ hS ha h
    replace h := seeNil_use h
    rcases h with h | ⟨rfl, h⟩
    · exact hC _ _ _ _ _ _ _ hS ha h
    replace h := seeNil_use h
    rcases h with h | ⟨rfl, h⟩
    · exact hC _ _ _ _ _ _ _ hS ha h
    exact cbody_use named (T54_ok C0_ok) at23 (l := 0) rfl (LoopsOk.none _ _) (F23l_ok G54 t ps pad pp pg ptp K) hS ha h
  · exact hC _ _ _ _ _ _ _ hS ha h
abbrev Y33l : Type := Int → Int → Int → Int → Int → Int → (Prop) → (Int → Prop) → (Prop) → Prop
set_option maxHeartbeats 4000000 in
set_option maxRecDepth 100000 in
def F33l (f32a : Y32a) (t : Int) (ps : Int) (pad : Int) (pp : Int) (pg : Int) (ptp : Int) (k1 : Prop) (k2 : Int → Prop) (k3 : Prop) : Prop :=
  (f32a t ((bif (decide (ps < (-1152921504606846976 : Int))) then (k1) else (bif (decide (ps > (1152921504606846976 : Int))) then (k1) else (bif (decide (pad < (-1152921504606846976 : Int))) then (k1) else (bif (decide (pad > (1152921504606846976 : Int))) then (k1) else (bif (decide (pp < (-1152921504606846976 : Int))) then (k1) else (bif (decide (pp > (1152921504606846976 : Int))) then (k1) else (bif (decide (pg < (-1152921504606846976 : Int))) then (k1) else (bif (decide (pg > (1152921504606846976 : Int))) then (k1) else (bif (decide (ptp < (-1152921504606846976 : Int))) then (k1) else (bif (decide (ptp > (1152921504606846976 : Int))) then (k1) else (bif (t == (2 : Int)) then (bif (t == (2 : Int)) then (k2 (IntKind.wrap .i64 ((IntKind.wrap .i64 (ps + pad)) - pp))) else (bif (t == (9 : Int)) then (bif (t == (9 : Int)) then (k2 (IntKind.wrap .i64 ((IntKind.wrap .i64 (pg + pad)) - pp))) else (bif (t == (23 : Int)) then (bif (t == (23 : Int)) then (k2 (IntKind.wrap .i64 ((IntKind.wrap .i64 (ps + pad)) - ptp))) else (k2 (IntKind.wrap .i64 (ps + pad)))) else (bif (t == (21 : Int)) then (k2 (IntKind.wrap .i64 ((IntKind.wrap .i64 (ps + pad)) - ptp))) else (k2 (IntKind.wrap .i64 (ps + pad)))))) else (bif (t == (22 : Int)) then (k2 (IntKind.wrap .i64 ((IntKind.wrap .i64 (pg + pad)) - pp))) else (bif (t == (23 : Int)) then (bif (t == (23 : Int)) then (k2 (IntKind.wrap .i64 ((IntKind.wrap .i64 (ps + pad)) - ptp))) else (k2 (IntKind.wrap .i64 (ps + pad)))) else (bif (t == (21 : Int)) then (k2 (IntKind.wrap .i64 ((IntKind.wrap .i64 (ps + pad)) - ptp))) else (k2 (IntKind.wrap .i64 (ps + pad)))))))) else (bif (t == (4 : Int)) then (k2 (IntKind.wrap .i64 ((IntKind.wrap .i64 (ps + pad)) - pp))) else (bif (t == (9 : Int)) then (bif (t == (9 : Int)) then (k2 (IntKind.wrap .i64 ((IntKind.wrap .i64 (pg + pad)) - pp))) else (bif (t == (23 : Int)) then (bif (t == (23 : Int)) then (k2 (IntKind.wrap .i64 ((IntKind.wrap .i64 (ps + pad)) - ptp))) else (k2 (IntKind.wrap .i64 (ps + pad)))) else (bif (t == (21 : Int)) then (k2 (IntKind.wrap .i64 ((IntKind.wrap .i64 (ps + pad)) - ptp))) else (k2 (IntKind.wrap .i64 (ps + pad)))))) else (bif (t == (22 : Int)) then (k2 (IntKind.wrap .i64 ((IntKind.wrap .i64 (pg + pad)) - pp))) else (bif (t == (23 : Int)) then (bif (t == (23 : Int)) then (k2 (IntKind.wrap .i64 ((IntKind.wrap .i64 (ps + pad)) - ptp))) else (k2 (IntKind.wrap .i64 (ps + pad)))) else (bif (t == (21 : Int)) then (k2 (IntKind.wrap .i64 ((IntKind.wrap .i64 (ps + pad)) - ptp))) else (k2 (IntKind.wrap .i64 (ps + pad)))))))))))))))))))) ((bif (decide (ps < (-1152921504606846976 : Int))) then (k1) else (bif (decide (ps > (1152921504606846976 : Int))) then (k1) else (bif (decide (pad < (-1152921504606846976 : Int))) then (k1) else (bif (decide (pad > (1152921504606846976 : Int))) then (k1) else (bif (decide (pp < (-1152921504606846976 : Int))) then (k1) else (bif (decide (pp > (1152921504606846976 : Int))) then (k1) else (bif (decide (pg < (-1152921504606846976 : Int))) then (k1) else (bif (decide (pg > (1152921504606846976 : Int))) then (k1) else (bif (decide (ptp < (-1152921504606846976 : Int))) then (k1) else (bif (decide (ptp > (1152921504606846976 : Int))) then (k1) else (bif (t == (2 : Int)) then (bif (t == (2 : Int)) then (k2 (IntKind.wrap .i64 ((IntKind.wrap .i64 (ps + pad)) - pp))) else (bif (t == (9 : Int)) then (bif (t == (9 : Int)) then (k2 (IntKind.wrap .i64 ((IntKind.wrap .i64 (pg + pad)) - pp))) else (bif (t == (23 : Int)) then (bif (t == (23 : Int)) then (k2 (IntKind.wrap .i64 ((IntKind.wrap .i64 (ps + pad)) - ptp))) else (k2 (IntKind.wrap .i64 (ps + pad)))) else (bif (t == (21 : Int)) then (k2 (IntKind.wrap .i64 ((IntKind.wrap .i64 (ps + pad)) - ptp))) else (k2 (IntKind.wrap .i64 (ps + pad)))))) else (bif (t == (22 : Int)) then (k2 (IntKind.wrap .i64 ((IntKind.wrap .i64 (pg + pad)) - pp))) else (bif (t == (23 : Int)) then (bif (t == (23 : Int)) then (k2 (IntKind.wrap .i64 ((IntKind.wrap .i64 (ps + pad)) - ptp))) else (k2 (IntKind.wrap .i64 (ps + pad)))) else (bif (t == (21 : Int)) then (k2 (IntKind.wrap .i64 ((IntKind.wrap .i64 (ps + pad)) - ptp))) else (k2 (IntKind.wrap .i64 (ps + pad)))))))) else (bif (t == (4 : Int)) then (k2 (IntKind.wrap .i64 ((IntKind.wrap .i64 (ps + pad)) - pp))) else (bif (t == (9 : Int)) then (bif (t == (9 : Int)) then (k2 (IntKind.wrap .i64 ((IntKind.wrap .i64 (pg + pad)) - pp))) else (bif (t == (23 : Int)) then (bif (t == (23 : Int)) then (k2 (IntKind.wrap .i64 ((IntKind.wrap .i64 (ps + pad)) - ptp))) else (k2 (IntKind.wrap .i64 (ps + pad)))) else (bif (t == (21 : Int)) then (k2 (IntKind.wrap .i64 ((IntKind.wrap .i64 (ps + pad)) - ptp))) else (k2 (IntKind.wrap .i64 (ps + pad)))))) else (bif (t == (22 : Int)) then (k2 (IntKind.wrap .i64 ((IntKind.wrap .i64 (pg + pad)) - pp))) else (bif (t == (23 : Int)) then (bif (t == (23 : Int)) then (k2 (IntKind.wrap .i64 ((IntKind.wrap .i64 (ps + pad)) - ptp))) else (k2 (IntKind.wrap .i64 (ps + pad)))) else (bif (t == (21 : Int)) then (k2 (IntKind.wrap .i64 ((IntKind.wrap .i64 (ps + pad)) - ptp))) else (k2 (IntKind.wrap .i64 (ps + pad)))))))))))))))))))) ((k3)))
theorem F33l_ok (f32a : Y32a) (t : Int) (ps : Int) (pad : Int) (pp : Int) (pg : Int) (ptp : Int) (K : V → Mem → Prop) : cbody Try.prog (T32a f32a C0) (fun _ => none) 1000 (fnOf Try.prog 33) [(.I .i64 t), (.agg [(.I .i64 ps), (.I .i64 pad), (.I .i64 pp), (.I .i64 pg), (.I .i64 ptp)])] [] K =
    F33l f32a t ps pad pp pg ptp (K (.tup [(.I .i64 (0 : Int)), (.I .i64 (11 : Int))]) []) (fun (u0 : Int) => K (.tup [(.I .i64 u0), (.I .i64 (0 : Int))]) []) (K (.tup [(.I .i64 (0 : Int)), (.I .i64 (200 : Int))]) []) := by kernel_rfl
def G33l : Y33l := F33l G32a
def VT33l (f : Y33l) (F : Prop) (args : List V) (m : Mem) (K : V → Mem → Prop) : Prop :=
  (seeCons args F fun a1 q2 => (seeI .i64 a1 F fun t => (seeCons q2 F fun a3 q4 => (seeAgg a3 F fun vs5 => (seeCons vs5 F fun a6 q7 => (seeI .i64 a6 F fun ps => (seeCons q7 F fun a8 q9 => (seeI .i64 a8 F fun pad => (seeCons q9 F fun a10 q11 => (seeI .i64 a10 F fun pp => (seeCons q11 F fun a12 q13 => (seeI .i64 a12 F fun pg => (seeCons q13 F fun a14 q15 => (seeI .i64 a14 F fun ptp => (seeNil q15 F (seeNil q4 F (seeNil m F (f t ps pad pp pg ptp (K (.tup [(.I .i64 (0 : Int)), (.I .i64 (11 : Int))]) []) (fun (u0 : Int) => K (.tup [(.I .i64 u0), (.I .i64 (0 : Int))]) []) (K (.tup [(.I .i64 (0 : Int)), (.I .i64 (200 : Int))]) [])))))))))))))))))))
def T33l (f : Y33l) (C : CC) : CC := fun g args m K =>
  match Nat.beq g 33 with
  | true => VT33l f (C g args m K) args m K
  | false => C g args m K
set_option maxRecDepth 100000 in
theorem T33l_ok {C : CC} (hC : CallsOk Try.prog C) : CallsOk Try.prog (T33l G33l C) := by
  intro g args m K E w cargs hS ha h
  unfold T33l at h
  split at h
  · rename_i hg
    obtain rfl := Nat.eq_of_beq_eq_true hg
    unfold VT33l at h
    replace h := seeCons_use h
    rcases h with h | ⟨a1, q2, rfl, h⟩
    · exact hC _ _ _ _ _ _ _ hS ha h
    replace h := seeI_use h
    rcases h with h | ⟨t, rfl, h⟩
    · exact hC _ _ _ _ _ _ _ hS ha h
    replace h := seeCons_use h
    rcases h with h | ⟨a3, q4, rfl, h⟩
    · exact hC _ _ _ _ _ _ _ hS ha h
    replace h := seeAgg_use h
    rcases h with h | ⟨vs5, rfl, h⟩
    · exact hC _ _ _ _ _ _ _ hS ha h
    replace h := seeCons_use h
    rcases h with h | ⟨a6, q7, rfl, h⟩
    · exact hC _ _ _ _ _ _ _ hS ha h
    replace h := seeI_use h
    rcases h with h | ⟨ps, rfl, h⟩
    · exact hC _ _ _ _ _ _ _ hS ha h
    replace h := seeCons_use h
    rcases h with h | ⟨a8, q9, rfl, h⟩
    · exact hC _ _ _ _ _ _ _ hS ha h
    replace h := seeI_use h
    rcases h with h | ⟨pad, rfl, h⟩
    · exact hC _ _ _ _ _ _ _ hS ha h
    replace h := seeCons_use h
    rcases h with h | ⟨a10, q11, rfl, h⟩
    · exact hC _ _ _ _ _ _ _ hS ha h
    replace h := seeI_use h
    rcases h with h | ⟨pp, rfl, h⟩
    · exact hC _ _ _ _ _ _ _ hS ha h
    replace h := seeCons_use h
    rcases h with h | ⟨a12, q13, rfl, h⟩
    · exact hC _ _ _ _ _ _ _ hS ha h
    replace h := seeI_use h
    rcases h with h | ⟨pg, rfl, h⟩
    · exact hC _ _ _ _ _ _ _ hS ha h
    replace h := seeCons_use h
    rcases h with h | ⟨a14, q15, rfl, h⟩
    · exact hC _ _ _ _ _ _ _ hS ha h
    replace h := seeI_use h
    rcases h with h | ⟨ptp, rfl, h⟩
    · exact hC _ _ _ _ _ _ _ hS ha h
    replace h := seeNil_use h
    rcases h with h | ⟨rfl, h⟩
    · exact hC _ _ _ _ _ _ _ hS ha h
    replace h := seeNil_use h
    rcases h with h | ⟨rfl, h⟩
    · exact hC _ _ _ _ _ _ _ hS ha h
    replace h := seeNil_use h
    rcases h with h | ⟨rfl, h⟩
    · exact hC _ _ _ _ _ _ _ hS ha h
    exact cbody_use named (T32a_ok C0_ok) at33 (l := 0) rfl (LoopsOk.none _ _) (F33l_ok G32a t ps pad pp pg ptp K) hS ha h
  · exact hC _ _ _ _ _ _ _ hS ha h
theorem at26 : Try.prog.funcs[26]? = some (fnOf Try.prog 26) := by kernel_rfl
abbrev Y26 : Type := Int → Int → Int → Int → Int → Int → Int → List Int → (Prop) → (Prop) → (Prop) → (Prop) → (List Int → Prop) → Prop
set_option maxHeartbeats 4000000 in
set_option maxRecDepth 100000 in
def F26 (f54 : Y54) (f23l : Y23l) (pa : Int) (t : Int) (ps : Int) (pad : Int) (pp : Int) (pg : Int) (ptp : Int) (xs : List Int) (k1 : Prop) (k2 : Prop) (k3 : Prop) (k4 : Prop) (k5 : List Int → Prop) : Prop :=
  (bif (decide (((((List.length xs) - (0 : Nat)) : Nat) : Int) > (1048576 : Int))) then (k1) else (f23l t ps pad pp pg ptp ((k2)) ((k3)) (fun (n1 : Int) => (f54 t (fun (xs2 : List Int) => (bif (decide (pa < (0 : Int))) then (k2) else (bif (decide (pa > ((((List.length xs) - (0 : Nat)) : Nat) : Int))) then (k2) else (bif (decide ((0 : Int) > (IntKind.wrap .i64 (((((List.length xs) - (0 : Nat)) : Nat) : Int) - pa)))) then (k2) else False)))) (fun (xs3 : List Int) => (bif (decide (pa < (0 : Int))) then (k2) else (bif (decide (pa > ((((List.length xs) - (0 : Nat)) : Nat) : Int))) then (k2) else (bif (decide ((4 : Int) > (IntKind.wrap .i64 (((((List.length xs) - (0 : Nat)) : Nat) : Int) - pa)))) then (k2) else (bif (decide (n1 ≥ (-2147483648 : Int))) then (bif (!(decide (n1 < (2147483648 : Int)))) then (k4) else (bif ((decide ((((List.length xs) - (0 : Nat)) * (1 : Nat)) ≤ (140737488355328 : Nat))) && (decide (((List.length xs) - (0 : Nat)) ≤ (140737488355328 : Nat)))) then (bif ((decide ((0 : Int) ≤ pa)) && (decide ((Int.toNat pa) ≤ ((List.length xs) - (0 : Nat))))) then (k5 (((List.take (Int.toNat pa) xs) ++ (List.take (min (4 : Nat) ((List.length xs) - (Int.toNat pa))) ([(IntKind.wrap .u8 (Int.fdiv (IntKind.wrap .u64 n1) (2 ^ 0))), (IntKind.wrap .u8 (Int.fdiv (IntKind.wrap .u64 n1) (2 ^ 8))), (IntKind.wrap .u8 (Int.fdiv (IntKind.wrap .u64 n1) (2 ^ 16))), (IntKind.wrap .u8 (Int.fdiv (IntKind.wrap .u64 n1) (2 ^ 24))), (IntKind.wrap .u8 (Int.fdiv (IntKind.wrap .u64 n1) (2 ^ 32))), (IntKind.wrap .u8 (Int.fdiv (IntKind.wrap .u64 n1) (2 ^ 40))), (IntKind.wrap .u8 (Int.fdiv (IntKind.wrap .u64 n1) (2 ^ 48))), (IntKind.wrap .u8 (Int.fdiv (IntKind.wrap .u64 n1) (2 ^ 56)))] : List Int))) ++ (List.drop ((Int.toNat pa) + (min (4 : Nat) ((List.length xs) - (Int.toNat pa)))) xs))) else False) else False)) else (k4)))))) (fun (xs4 : List Int) => (bif (decide (pa < (0 : Int))) then (k2) else (bif (decide (pa > ((((List.length xs) - (0 : Nat)) : Nat) : Int))) then (k2) else (bif (decide ((4 : Int) > (IntKind.wrap .i64 (((((List.length xs) - (0 : Nat)) : Nat) : Int) - pa)))) then (k2) else (bif (decide (n1 ≥ (-2147483648 : Int))) then (bif (!(decide (n1 < (2147483648 : Int)))) then (k4) else (bif ((decide ((((List.length xs) - (0 : Nat)) * (1 : Nat)) ≤ (140737488355328 : Nat))) && (decide (((List.length xs) - (0 : Nat)) ≤ (140737488355328 : Nat)))) then (bif ((decide ((0 : Int) ≤ pa)) && (decide ((Int.toNat pa) ≤ ((List.length xs) - (0 : Nat))))) then (k5 (((List.take (Int.toNat pa) xs) ++ (List.take (min (4 : Nat) ((List.length xs) - (Int.toNat pa))) ([(IntKind.wrap .u8 (Int.fdiv (IntKind.wrap .u64 n1) (2 ^ 0))), (IntKind.wrap .u8 (Int.fdiv (IntKind.wrap .u64 n1) (2 ^ 8))), (IntKind.wrap .u8 (Int.fdiv (IntKind.wrap .u64 n1) (2 ^ 16))), (IntKind.wrap .u8 (Int.fdiv (IntKind.wrap .u64 n1) (2 ^ 24))), (IntKind.wrap .u8 (Int.fdiv (IntKind.wrap .u64 n1) (2 ^ 32))), (IntKind.wrap .u8 (Int.fdiv (IntKind.wrap .u64 n1) (2 ^ 40))), (IntKind.wrap .u8 (Int.fdiv (IntKind.wrap .u64 n1) (2 ^ 48))), (IntKind.wrap .u8 (Int.fdiv (IntKind.wrap .u64 n1) (2 ^ 56)))] : List Int))) ++ (List.drop ((Int.toNat pa) + (min (4 : Nat) ((List.length xs) - (Int.toNat pa)))) xs))) else False) else False)) else (k4)))))) (fun (xs5 : List Int) => (bif (decide (pa < (0 : Int))) then (k2) else (bif (decide (pa > ((((List.length xs) - (0 : Nat)) : Nat) : Int))) then (k2) else (bif (decide ((4 : Int) > (IntKind.wrap .i64 (((((List.length xs) - (0 : Nat)) : Nat) : Int) - pa)))) then (k2) else (bif (decide (n1 ≥ (-2147483648 : Int))) then (bif (!(decide (n1 < (2147483648 : Int)))) then (k4) else (bif ((decide ((((List.length xs) - (0 : Nat)) * (1 : Nat)) ≤ (140737488355328 : Nat))) && (decide (((List.length xs) - (0 : Nat)) ≤ (140737488355328 : Nat)))) then (bif ((decide ((0 : Int) ≤ pa)) && (decide ((Int.toNat pa) ≤ ((List.length xs) - (0 : Nat))))) then (k5 (((List.take (Int.toNat pa) xs) ++ (List.take (min (4 : Nat) ((List.length xs) - (Int.toNat pa))) ([(IntKind.wrap .u8 (Int.fdiv (IntKind.wrap .u64 n1) (2 ^ 0))), (IntKind.wrap .u8 (Int.fdiv (IntKind.wrap .u64 n1) (2 ^ 8))), (IntKind.wrap .u8 (Int.fdiv (IntKind.wrap .u64 n1) (2 ^ 16))), (IntKind.wrap .u8 (Int.fdiv (IntKind.wrap .u64 n1) (2 ^ 24))), (IntKind.wrap .u8 (Int.fdiv (IntKind.wrap .u64 n1) (2 ^ 32))), (IntKind.wrap .u8 (Int.fdiv (IntKind.wrap .u64 n1) (2 ^ 40))), (IntKind.wrap .u8 (Int.fdiv (IntKind.wrap .u64 n1) (2 ^ 48))), (IntKind.wrap .u8 (Int.fdiv (IntKind.wrap .u64 n1) (2 ^ 56)))] : List Int))) ++ (List.drop ((Int.toNat pa) + (min (4 : Nat) ((List.length xs) - (Int.toNat pa)))) xs))) else False) else False)) else (k4)))))) (fun (xs6 : List Int) => (bif (decide (pa < (0 : Int))) then (k2) else (bif (decide (pa > ((((List.length xs) - (0 : Nat)) : Nat) : Int))) then (k2) else (bif (decide ((4 : Int) > (IntKind.wrap .i64 (((((List.length xs) - (0 : Nat)) : Nat) : Int) - pa)))) then (k2) else (bif (decide (n1 < (0 : Int))) then (k4) else (bif (!(decide (n1 < (4294967296 : Int)))) then (k4) else (bif ((decide ((((List.length xs) - (0 : Nat)) * (1 : Nat)) ≤ (140737488355328 : Nat))) && (decide (((List.length xs) - (0 : Nat)) ≤ (140737488355328 : Nat)))) then (bif ((decide ((0 : Int) ≤ pa)) && (decide ((Int.toNat pa) ≤ ((List.length xs) - (0 : Nat))))) then (k5 (((List.take (Int.toNat pa) xs) ++ (List.take (min (4 : Nat) ((List.length xs) - (Int.toNat pa))) ([(IntKind.wrap .u8 (Int.fdiv (IntKind.wrap .u64 n1) (2 ^ 0))), (IntKind.wrap .u8 (Int.fdiv (IntKind.wrap .u64 n1) (2 ^ 8))), (IntKind.wrap .u8 (Int.fdiv (IntKind.wrap .u64 n1) (2 ^ 16))), (IntKind.wrap .u8 (Int.fdiv (IntKind.wrap .u64 n1) (2 ^ 24))), (IntKind.wrap .u8 (Int.fdiv (IntKind.wrap .u64 n1) (2 ^ 32))), (IntKind.wrap .u8 (Int.fdiv (IntKind.wrap .u64 n1) (2 ^ 40))), (IntKind.wrap .u8 (Int.fdiv (IntKind.wrap .u64 n1) (2 ^ 48))), (IntKind.wrap .u8 (Int.fdiv (IntKind.wrap .u64 n1) (2 ^ 56)))] : List Int))) ++ (List.drop ((Int.toNat pa) + (min (4 : Nat) ((List.length xs) - (Int.toNat pa)))) xs))) else False) else False))))))) (fun (xs7 : List Int) => (bif (decide (pa < (0 : Int))) then (k2) else (bif (decide (pa > ((((List.length xs) - (0 : Nat)) : Nat) : Int))) then (k2) else (bif (decide ((4 : Int) > (IntKind.wrap .i64 (((((List.length xs) - (0 : Nat)) : Nat) : Int) - pa)))) then (k2) else (bif (decide (n1 ≥ (-2147483648 : Int))) then (bif (!(decide (n1 < (2147483648 : Int)))) then (k4) else (bif ((decide ((((List.length xs) - (0 : Nat)) * (1 : Nat)) ≤ (140737488355328 : Nat))) && (decide (((List.length xs) - (0 : Nat)) ≤ (140737488355328 : Nat)))) then (bif ((decide ((0 : Int) ≤ pa)) && (decide ((Int.toNat pa) ≤ ((List.length xs) - (0 : Nat))))) then (k5 (((List.take (Int.toNat pa) xs) ++ (List.take (min (4 : Nat) ((List.length xs) - (Int.toNat pa))) ([(IntKind.wrap .u8 (Int.fdiv (IntKind.wrap .u64 n1) (2 ^ 0))), (IntKind.wrap .u8 (Int.fdiv (IntKind.wrap .u64 n1) (2 ^ 8))), (IntKind.wrap .u8 (Int.fdiv (IntKind.wrap .u64 n1) (2 ^ 16))), (IntKind.wrap .u8 (Int.fdiv (IntKind.wrap .u64 n1) (2 ^ 24))), (IntKind.wrap .u8 (Int.fdiv (IntKind.wrap .u64 n1) (2 ^ 32))), (IntKind.wrap .u8 (Int.fdiv (IntKind.wrap .u64 n1) (2 ^ 40))), (IntKind.wrap .u8 (Int.fdiv (IntKind.wrap .u64 n1) (2 ^ 48))), (IntKind.wrap .u8 (Int.fdiv (IntKind.wrap .u64 n1) (2 ^ 56)))] : List Int))) ++ (List.drop ((Int.toNat pa) + (min (4 : Nat) ((List.length xs) - (Int.toNat pa)))) xs))) else False) else False)) else (k4)))))) (fun (xs8 : List Int) => (bif (decide (pa < (0 : Int))) then (k2) else (bif (decide (pa > ((((List.length xs) - (0 : Nat)) : Nat) : Int))) then (k2) else (bif (decide ((8 : Int) > (IntKind.wrap .i64 (((((List.length xs) - (0 : Nat)) : Nat) : Int) - pa)))) then (k2) else (bif ((decide ((((List.length xs) - (0 : Nat)) * (1 : Nat)) ≤ (140737488355328 : Nat))) && (decide (((List.length xs) - (0 : Nat)) ≤ (140737488355328 : Nat)))) then (bif ((decide ((0 : Int) ≤ pa)) && (decide ((Int.toNat pa) ≤ ((List.length xs) - (0 : Nat))))) then (k5 (((List.take (Int.toNat pa) xs) ++ (List.take (min (8 : Nat) ((List.length xs) - (Int.toNat pa))) ([(IntKind.wrap .u8 (Int.fdiv (IntKind.wrap .u64 n1) (2 ^ 0))), (IntKind.wrap .u8 (Int.fdiv (IntKind.wrap .u64 n1) (2 ^ 8))), (IntKind.wrap .u8 (Int.fdiv (IntKind.wrap .u64 n1) (2 ^ 16))), (IntKind.wrap .u8 (Int.fdiv (IntKind.wrap .u64 n1) (2 ^ 24))), (IntKind.wrap .u8 (Int.fdiv (IntKind.wrap .u64 n1) (2 ^ 32))), (IntKind.wrap .u8 (Int.fdiv (IntKind.wrap .u64 n1) (2 ^ 40))), (IntKind.wrap .u8 (Int.fdiv (IntKind.wrap .u64 n1) (2 ^ 48))), (IntKind.wrap .u8 (Int.fdiv (IntKind.wrap .u64 n1) (2 ^ 56)))] : List Int))) ++ (List.drop ((Int.toNat pa) + (min (8 : Nat) ((List.length xs) - (Int.toNat pa)))) xs))) else False) else False)))))))))
theorem F26_ok (f54 : Y54) (f23l : Y23l) (pa : Int) (t : Int) (ps : Int) (pad : Int) (pp : Int) (pg : Int) (ptp : Int) (xs : List Int) (K : V → Mem → Prop) : cbody Try.prog (T54 f54 (T23l f23l C0)) (fun _ => none) 1000 (fnOf Try.prog 26) [(.sl 0 (0 : Nat) (none : Option Nat) (none : Option Nat)), (.I .i64 pa), (.I .i64 t), (.agg [(.I .i64 ps), (.I .i64 pad), (.I .i64 pp), (.I .i64 pg), (.I .i64 ptp)])] [⟨[.ints .u8 xs], 5, false, false⟩] K =
    F26 f54 f23l pa t ps pad pp pg ptp xs (K (.tup [.nils, (.I .i64 (6 : Int))]) [⟨[.ints .u8 xs], 5, false, false⟩]) (K (.tup [.nils, (.I .i64 (200 : Int))]) [⟨[.ints .u8 xs], 5, false, false⟩]) (K (.tup [.nils, (.I .i64 (11 : Int))]) [⟨[.ints .u8 xs], 5, false, false⟩]) (K (.tup [.nils, (.I .i64 (201 : Int))]) [⟨[.ints .u8 xs], 5, false, false⟩]) (fun (u0 : List Int) => K (.tup [(.sl 1 (0 : Nat) (none : Option Nat) (none : Option Nat)), (.I .i64 (0 : Int))]) [⟨[.ints .u8 xs], 5, false, false⟩, ⟨[.ints .u8 u0], 5, false, true⟩]) := by kernel_rfl
def G26 : Y26 := F26 G54 G23l
def VT26 (f : Y26) (F : Prop) (args : List V) (m : Mem) (K : V → Mem → Prop) : Prop :=
  (seeCons args F fun a1 q2 => (seeV (.sl 0 (0 : Nat) (none : Option Nat) (none : Option Nat)) a1 F (seeCons q2 F fun a3 q4 => (seeI .i64 a3 F fun pa => (seeCons q4 F fun a5 q6 => (seeI .i64 a5 F fun t => (seeCons q6 F fun a7 q8 => (seeAgg a7 F fun vs9 => (seeCons vs9 F fun a10 q11 => (seeI .i64 a10 F fun ps => (seeCons q11 F fun a12 q13 => (seeI .i64 a12 F fun pad => (seeCons q13 F fun a14 q15 => (seeI .i64 a14 F fun pp => (seeCons q15 F fun a16 q17 => (seeI .i64 a16 F fun pg => (seeCons q17 F fun a18 q19 => (seeI .i64 a18 F fun ptp => (seeNil q19 F (seeNil q8 F (seeCons m F fun a20 q21 => (seeBlk 5 false false a20 F fun cs22 => (seeCons cs22 F fun a23 q24 => (seeInts .u8 a23 F fun xs => (seeNil q24 F (seeNil q21 F (f pa t ps pad pp pg ptp xs (K (.tup [.nils, (.I .i64 (6 : Int))]) [⟨[.ints .u8 xs], 5, false, false⟩]) (K (.tup [.nils, (.I .i64 (200 : Int))]) [⟨[.ints .u8 xs], 5, false, false⟩]) (K (.tup [.nils, (.I .i64 (11 : Int))]) [⟨[.ints .u8 xs], 5, false, false⟩]) (K (.tup [.nils, (.I .i64 (201 : Int))]) [⟨[.ints .u8 xs], 5, false, false⟩]) (fun (u0 : List Int) => K (.tup [(.sl 1 (0 : Nat) (none : Option Nat) (none : Option Nat)), (.I .i64 (0 : Int))]) [⟨[.ints .u8 xs], 5, false, false⟩, ⟨[.ints .u8 u0], 5, false, true⟩]))))))))))))))))))))))))))))
def T26 (f : Y26) (C : CC) : CC := fun g args m K =>
  match Nat.beq g 26 with
  | true => VT26 f (C g args m K) args m K
  | false => C g args m K
set_option maxRecDepth 100000 in
theorem T26_ok {C : CC} (hC : CallsOk Try.prog C) : CallsOk Try.prog (T26 G26 C) := by
  intro g args m K E w cargs hS ha h
  unfold T26 at h
  split at h
  · rename_i hg
    obtain rfl := Nat.eq_of_beq_eq_true hg
    unfold VT26 at h
    replace h := seeCons_use h
    rcases h with h | ⟨a1, q2, rfl, h⟩
    · exact hC _ _ _ _ _ _ _ hS ha h
    replace h := seeV_use h
    rcases h with h | ⟨rfl, h⟩
    · exact hC _ _ _ _ _ _ _ hS ha h
    replace h := seeCons_use h
    rcases h with h | ⟨a3, q4, rfl, h⟩
    · exact hC _ _ _ _ _ _ _ hS ha h
    replace h := seeI_use h
    rcases h with h | ⟨pa, rfl, h⟩
    · exact hC _ _ _ _ _ _ _ hS ha h
    replace h := seeCons_use h
    rcases h with h | ⟨a5, q6, rfl, h⟩
    · exact hC _ _ _ _ _ _ _ hS ha h
    replace h := seeI_use h
    rcases h with h | ⟨t, rfl, h⟩
    · exact hC _ _ _ _ _ _ _ hS ha h
    replace h := seeCons_use h
    rcases h with h | ⟨a7, q8, rfl, h⟩
    · exact hC _ _ _ _ _ _ _ hS ha h
    replace h := seeAgg_use h
    rcases h with h | ⟨vs9, rfl, h⟩
    · exact hC _ _ _ _ _ _ _ hS ha h
    replace h := seeCons_use h
    rcases h with h | ⟨a10, q11, rfl, h⟩
    · exact hC _ _ _ _ _ _ _ hS ha h
    replace h := seeI_use h
    rcases h with h | ⟨ps, rfl, h⟩
    · exact hC _ _ _ _ _ _ _ hS ha h
    replace h := seeCons_use h
    rcases h with h | ⟨a12, q13, rfl, h⟩
    · exact hC _ _ _ _ _ _ _ hS ha h
    replace h := seeI_use h
    rcases h with h | ⟨pad, rfl, h⟩
    · exact hC _ _ _ _ _ _ _ hS ha h
    replace h := seeCons_use h
    rcases h with h | ⟨a14, q15, rfl, h⟩
    · exact hC _ _ _ _ _ _ _ hS ha h
    replace h := seeI_use h
    rcases h with h | ⟨pp, rfl, h⟩
    · exact hC _ _ _ _ _ _ _ hS ha h
    replace h := seeCons_use h
    rcases h with h | ⟨a16, q17, rfl, h⟩
    · exact hC _ _ _ _ _ _ _ hS ha h
    replace h := seeI_use h
    rcases h with h | ⟨pg, rfl, h⟩
    · exact hC _ _ _ _ _ _ _ hS ha h
    replace h := seeCons_use h
    rcases h with h | ⟨a18, q19, rfl, h⟩
    · exact hC _ _ _ _ _ _ _ hS ha h
    replace h := seeI_use h
    rcases h with h | ⟨ptp, rfl, h⟩
    · exact hC _ _ _ _ _ _ _ hS ha h
    replace h := seeNil_use h
    rcases h with h | ⟨rfl, h⟩
    · exact hC _ _ _ _ _ _ _ hS ha h
    replace h := seeNil_use h
    rcases h with h | ⟨rfl, h⟩
    · exact hC _ _ _ _ _ _ _ hS ha h
    replace h := seeCons_use h
    rcases h with h | ⟨a20, q21, rfl, h⟩
    · exact hC _ _ _ _ _ _ _ hS ha h
    replace h := seeBlk_use h
    rcases h with h | ⟨cs22, rfl, h⟩
    · exact hC _ _ _ _ _ _ _ hS ha h
    replace h := seeCons_use h
    rcases h with h | ⟨a23, q24, rfl, h⟩
    · exact hC _ _ _ _ _ _ _ hS ha h
    replace h := seeInts_use h
    rcases h with h | ⟨xs, rfl, h⟩
    · exact hC _ _ _ _ _ _ _ hS ha h
    replace h := seeNil_use h
    rcases h with h | ⟨rfl, h⟩
    · exact hC _ _ _ _ _ _ _ hS ha h
    replace h := seeNil_use h
    rcases h with h | ⟨rfl, h⟩
    · exact hC _ _ _ _ _ _ _ hS ha h
    exact cbody_use named (T54_ok (T23l_ok C0_ok)) at26 (l := 1) rfl (LoopsOk.none _ _) (F26_ok G54 G23l pa t ps pad pp pg ptp xs K) hS ha h
  · exact hC _ _ _ _ _ _ _ hS ha h
theorem at27 : Try.prog.funcs[27]? = some (fnOf Try.prog 27) := by kernel_rfl
abbrev Y27 : Type := Int → Int → Int → Int → Int → Int → Int → List Int → (Prop) → (Prop) → (Prop) → (Prop) → (List Int → Prop) → (Prop) → Prop
set_option maxHeartbeats 4000000 in
set_option maxRecDepth 100000 in
def F27 (f32a : Y32a) (f35 : Y35) (f33l : Y33l) (pa : Int) (t : Int) (ps : Int) (pad : Int) (pp : Int) (pg : Int) (ptp : Int) (xs : List Int) (k1 : Prop) (k2 : Prop) (k3 : Prop) (k4 : Prop) (k5 : List Int → Prop) (k6 : Prop) : Prop :=
  (bif (decide (((((List.length xs) - (0 : Nat)) : Nat) : Int) > (1048576 : Int))) then (k1) else (f33l t ps pad pp pg ptp ((k2)) (fun (n1 : Int) => (f32a t ((bif (decide (pa < (0 : Int))) then (k3) else (bif (decide (pa > (IntKind.wrap .i64 (((((List.length xs) - (0 : Nat)) : Nat) : Int) - (8 : Int))))) then (k3) else (f35 t n1 (fun (b2 : Bool) (n3 : Int) => (bif (!b2) then (k4) else (bif ((decide ((((0 : Nat) + ((List.length xs) - (0 : Nat))) * (1 : Nat)) ≤ (140737488355328 : Nat))) && (decide (((0 : Nat) + ((List.length xs) - (0 : Nat))) ≤ (140737488355328 : Nat)))) then (bif ((decide ((0 : Int) ≤ (IntKind.wrap .i64 (pa + (0 : Int))))) && (decide ((IntKind.wrap .i64 (pa + (0 : Int))) < ((((List.length xs) - (0 : Nat)) : Nat) : Int)))) then (bif ((decide ((0 : Int) ≤ (IntKind.wrap .i64 (pa + (1 : Int))))) && (decide ((IntKind.wrap .i64 (pa + (1 : Int))) < ((((List.length (List.set xs (Int.toNat (IntKind.wrap .i64 (pa + (0 : Int)))) (IntKind.wrap .u8 (IntKind.wrap .u64 n1)))) - (0 : Nat)) : Nat) : Int)))) then (bif ((decide ((0 : Int) ≤ (IntKind.wrap .i64 (pa + (2 : Int))))) && (decide ((IntKind.wrap .i64 (pa + (2 : Int))) < ((((List.length (List.set (List.set xs (Int.toNat (IntKind.wrap .i64 (pa + (0 : Int)))) (IntKind.wrap .u8 (IntKind.wrap .u64 n1))) (Int.toNat (IntKind.wrap .i64 (pa + (1 : Int)))) (IntKind.wrap .u8 (Int.fdiv (IntKind.wrap .u64 n1) (2 ^ 8))))) - (0 : Nat)) : Nat) : Int)))) then (bif ((decide ((0 : Int) ≤ (IntKind.wrap .i64 (pa + (3 : Int))))) && (decide ((IntKind.wrap .i64 (pa + (3 : Int))) < ((((List.length (List.set (List.set (List.set xs (Int.toNat (IntKind.wrap .i64 (pa + (0 : Int)))) (IntKind.wrap .u8 (IntKind.wrap .u64 n1))) (Int.toNat (IntKind.wrap .i64 (pa + (1 : Int)))) (IntKind.wrap .u8 (Int.fdiv (IntKind.wrap .u64 n1) (2 ^ 8)))) (Int.toNat (IntKind.wrap .i64 (pa + (2 : Int)))) (IntKind.wrap .u8 (Int.fdiv (Int.fdiv (IntKind.wrap .u64 n1) (2 ^ 8)) (2 ^ 8))))) - (0 : Nat)) : Nat) : Int)))) then (bif ((decide ((0 : Int) ≤ (IntKind.wrap .i64 (pa + (4 : Int))))) && (decide ((IntKind.wrap .i64 (pa + (4 : Int))) < ((((List.length (List.set (List.set (List.set (List.set xs (Int.toNat (IntKind.wrap .i64 (pa + (0 : Int)))) (IntKind.wrap .u8 (IntKind.wrap .u64 n1))) (Int.toNat (IntKind.wrap .i64 (pa + (1 : Int)))) (IntKind.wrap .u8 (Int.fdiv (IntKind.wrap .u64 n1) (2 ^ 8)))) (Int.toNat (IntKind.wrap .i64 (pa + (2 : Int)))) (IntKind.wrap .u8 (Int.fdiv (Int.fdiv (IntKind.wrap .u64 n1) (2 ^ 8)) (2 ^ 8)))) (Int.toNat (IntKind.wrap .i64 (pa + (3 : Int)))) (IntKind.wrap .u8 (Int.fdiv (Int.fdiv (Int.fdiv (IntKind.wrap .u64 n1) (2 ^ 8)) (2 ^ 8)) (2 ^ 8))))) - (0 : Nat)) : Nat) : Int)))) then (bif ((decide ((0 : Int) ≤ (IntKind.wrap .i64 (pa + (5 : Int))))) && (decide ((IntKind.wrap .i64 (pa + (5 : Int))) < ((((List.length (List.set (List.set (List.set (List.set (List.set xs (Int.toNat (IntKind.wrap .i64 (pa + (0 : Int)))) (IntKind.wrap .u8 (IntKind.wrap .u64 n1))) (Int.toNat (IntKind.wrap .i64 (pa + (1 : Int)))) (IntKind.wrap .u8 (Int.fdiv (IntKind.wrap .u64 n1) (2 ^ 8)))) (Int.toNat (IntKind.wrap .i64 (pa + (2 : Int)))) (IntKind.wrap .u8 (Int.fdiv (Int.fdiv (IntKind.wrap .u64 n1) (2 ^ 8)) (2 ^ 8)))) (Int.toNat (IntKind.wrap .i64 (pa + (3 : Int)))) (IntKind.wrap .u8 (Int.fdiv (Int.fdiv (Int.fdiv (IntKind.wrap .u64 n1) (2 ^ 8)) (2 ^ 8)) (2 ^ 8)))) (Int.toNat (IntKind.wrap .i64 (pa + (4 : Int)))) (IntKind.wrap .u8 (Int.fdiv (Int.fdiv (Int.fdiv (Int.fdiv (IntKind.wrap .u64 n1) (2 ^ 8)) (2 ^ 8)) (2 ^ 8)) (2 ^ 8))))) - (0 : Nat)) : Nat) : Int)))) then (bif ((decide ((0 : Int) ≤ (IntKind.wrap .i64 (pa + (6 : Int))))) && (decide ((IntKind.wrap .i64 (pa + (6 : Int))) < ((((List.length (List.set (List.set (List.set (List.set (List.set (List.set xs (Int.toNat (IntKind.wrap .i64 (pa + (0 : Int)))) (IntKind.wrap .u8 (IntKind.wrap .u64 n1))) (Int.toNat (IntKind.wrap .i64 (pa + (1 : Int)))) (IntKind.wrap .u8 (Int.fdiv (IntKind.wrap .u64 n1) (2 ^ 8)))) (Int.toNat (IntKind.wrap .i64 (pa + (2 : Int)))) (IntKind.wrap .u8 (Int.fdiv (Int.fdiv (IntKind.wrap .u64 n1) (2 ^ 8)) (2 ^ 8)))) (Int.toNat (IntKind.wrap .i64 (pa + (3 : Int)))) (IntKind.wrap .u8 (Int.fdiv (Int.fdiv (Int.fdiv (IntKind.wrap .u64 n1) (2 ^ 8)) (2 ^ 8)) (2 ^ 8)))) (Int.toNat (IntKind.wrap .i64 (pa + (4 : Int)))) (IntKind.wrap .u8 (Int.fdiv (Int.fdiv (Int.fdiv (Int.fdiv (IntKind.wrap .u64 n1) (2 ^ 8)) (2 ^ 8)) (2 ^ 8)) (2 ^ 8)))) (Int.toNat (IntKind.wrap .i64 (pa + (5 : Int)))) (IntKind.wrap .u8 (Int.fdiv (Int.fdiv (Int.fdiv (Int.fdiv (Int.fdiv (IntKind.wrap .u64 n1) (2 ^ 8)) (2 ^ 8)) (2 ^ 8)) (2 ^ 8)) (2 ^ 8))))) - (0 : Nat)) : Nat) : Int)))) then (bif ((decide ((0 : Int) ≤ (IntKind.wrap .i64 (pa + (7 : Int))))) && (decide ((IntKind.wrap .i64 (pa + (7 : Int))) < ((((List.length (List.set (List.set (List.set (List.set (List.set (List.set (List.set xs (Int.toNat (IntKind.wrap .i64 (pa + (0 : Int)))) (IntKind.wrap .u8 (IntKind.wrap .u64 n1))) (Int.toNat (IntKind.wrap .i64 (pa + (1 : Int)))) (IntKind.wrap .u8 (Int.fdiv (IntKind.wrap .u64 n1) (2 ^ 8)))) (Int.toNat (IntKind.wrap .i64 (pa + (2 : Int)))) (IntKind.wrap .u8 (Int.fdiv (Int.fdiv (IntKind.wrap .u64 n1) (2 ^ 8)) (2 ^ 8)))) (Int.toNat (IntKind.wrap .i64 (pa + (3 : Int)))) (IntKind.wrap .u8 (Int.fdiv (Int.fdiv (Int.fdiv (IntKind.wrap .u64 n1) (2 ^ 8)) (2 ^ 8)) (2 ^ 8)))) (Int.toNat (IntKind.wrap .i64 (pa + (4 : Int)))) (IntKind.wrap .u8 (Int.fdiv (Int.fdiv (Int.fdiv (Int.fdiv (IntKind.wrap .u64 n1) (2 ^ 8)) (2 ^ 8)) (2 ^ 8)) (2 ^ 8)))) (Int.toNat (IntKind.wrap .i64 (pa + (5 : Int)))) (IntKind.wrap .u8 (Int.fdiv (Int.fdiv (Int.fdiv (Int.fdiv (Int.fdiv (IntKind.wrap .u64 n1) (2 ^ 8)) (2 ^ 8)) (2 ^ 8)) (2 ^ 8)) (2 ^ 8)))) (Int.toNat (IntKind.wrap .i64 (pa + (6 : Int)))) (IntKind.wrap .u8 (Int.fdiv (Int.fdiv (Int.fdiv (Int.fdiv (Int.fdiv (Int.fdiv (IntKind.wrap .u64 n1) (2 ^ 8)) (2 ^ 8)) (2 ^ 8)) (2 ^ 8)) (2 ^ 8)) (2 ^ 8))))) - (0 : Nat)) : Nat) : Int)))) then (k5 (List.set (List.set (List.set (List.set (List.set (List.set (List.set (List.set xs (Int.toNat (IntKind.wrap .i64 (pa + (0 : Int)))) (IntKind.wrap .u8 (IntKind.wrap .u64 n1))) (Int.toNat (IntKind.wrap .i64 (pa + (1 : Int)))) (IntKind.wrap .u8 (Int.fdiv (IntKind.wrap .u64 n1) (2 ^ 8)))) (Int.toNat (IntKind.wrap .i64 (pa + (2 : Int)))) (IntKind.wrap .u8 (Int.fdiv (Int.fdiv (IntKind.wrap .u64 n1) (2 ^ 8)) (2 ^ 8)))) (Int.toNat (IntKind.wrap .i64 (pa + (3 : Int)))) (IntKind.wrap .u8 (Int.fdiv (Int.fdiv (Int.fdiv (IntKind.wrap .u64 n1) (2 ^ 8)) (2 ^ 8)) (2 ^ 8)))) (Int.toNat (IntKind.wrap .i64 (pa + (4 : Int)))) (IntKind.wrap .u8 (Int.fdiv (Int.fdiv (Int.fdiv (Int.fdiv (IntKind.wrap .u64 n1) (2 ^ 8)) (2 ^ 8)) (2 ^ 8)) (2 ^ 8)))) (Int.toNat (IntKind.wrap .i64 (pa + (5 : Int)))) (IntKind.wrap .u8 (Int.fdiv (Int.fdiv (Int.fdiv (Int.fdiv (Int.fdiv (IntKind.wrap .u64 n1) (2 ^ 8)) (2 ^ 8)) (2 ^ 8)) (2 ^ 8)) (2 ^ 8)))) (Int.toNat (IntKind.wrap .i64 (pa + (6 : Int)))) (IntKind.wrap .u8 (Int.fdiv (Int.fdiv (Int.fdiv (Int.fdiv (Int.fdiv (Int.fdiv (IntKind.wrap .u64 n1) (2 ^ 8)) (2 ^ 8)) (2 ^ 8)) (2 ^ 8)) (2 ^ 8)) (2 ^ 8)))) (Int.toNat (IntKind.wrap .i64 (pa + (7 : Int)))) (IntKind.wrap .u8 (Int.fdiv (Int.fdiv (Int.fdiv (Int.fdiv (Int.fdiv (Int.fdiv (Int.fdiv (IntKind.wrap .u64 n1) (2 ^ 8)) (2 ^ 8)) (2 ^ 8)) (2 ^ 8)) (2 ^ 8)) (2 ^ 8)) (2 ^ 8))))) else False) else False) else False) else False) else False) else False) else False) else False) else False))))))) ((bif (decide (pa < (0 : Int))) then (k3) else (bif (decide (pa > (IntKind.wrap .i64 (((((List.length xs) - (0 : Nat)) : Nat) : Int) - (4 : Int))))) then (k3) else (f35 t n1 (fun (b4 : Bool) (n5 : Int) => (bif (!b4) then (k4) else (bif ((decide ((((0 : Nat) + ((List.length xs) - (0 : Nat))) * (1 : Nat)) ≤ (140737488355328 : Nat))) && (decide (((0 : Nat) + ((List.length xs) - (0 : Nat))) ≤ (140737488355328 : Nat)))) then (bif ((decide ((0 : Int) ≤ (IntKind.wrap .i64 (pa + (0 : Int))))) && (decide ((IntKind.wrap .i64 (pa + (0 : Int))) < ((((List.length xs) - (0 : Nat)) : Nat) : Int)))) then (bif ((decide ((0 : Int) ≤ (IntKind.wrap .i64 (pa + (1 : Int))))) && (decide ((IntKind.wrap .i64 (pa + (1 : Int))) < ((((List.length (List.set xs (Int.toNat (IntKind.wrap .i64 (pa + (0 : Int)))) (IntKind.wrap .u8 (IntKind.wrap .u64 n1)))) - (0 : Nat)) : Nat) : Int)))) then (bif ((decide ((0 : Int) ≤ (IntKind.wrap .i64 (pa + (2 : Int))))) && (decide ((IntKind.wrap .i64 (pa + (2 : Int))) < ((((List.length (List.set (List.set xs (Int.toNat (IntKind.wrap .i64 (pa + (0 : Int)))) (IntKind.wrap .u8 (IntKind.wrap .u64 n1))) (Int.toNat (IntKind.wrap .i64 (pa + (1 : Int)))) (IntKind.wrap .u8 (Int.fdiv (IntKind.wrap .u64 n1) (2 ^ 8))))) - (0 : Nat)) : Nat) : Int)))) then (bif ((decide ((0 : Int) ≤ (IntKind.wrap .i64 (pa + (3 : Int))))) && (decide ((IntKind.wrap .i64 (pa + (3 : Int))) < ((((List.length (List.set (List.set (List.set xs (Int.toNat (IntKind.wrap .i64 (pa + (0 : Int)))) (IntKind.wrap .u8 (IntKind.wrap .u64 n1))) (Int.toNat (IntKind.wrap .i64 (pa + (1 : Int)))) (IntKind.wrap .u8 (Int.fdiv (IntKind.wrap .u64 n1) (2 ^ 8)))) (Int.toNat (IntKind.wrap .i64 (pa + (2 : Int)))) (IntKind.wrap .u8 (Int.fdiv (Int.fdiv (IntKind.wrap .u64 n1) (2 ^ 8)) (2 ^ 8))))) - (0 : Nat)) : Nat) : Int)))) then (k5 (List.set (List.set (List.set (List.set xs (Int.toNat (IntKind.wrap .i64 (pa + (0 : Int)))) (IntKind.wrap .u8 (IntKind.wrap .u64 n1))) (Int.toNat (IntKind.wrap .i64 (pa + (1 : Int)))) (IntKind.wrap .u8 (Int.fdiv (IntKind.wrap .u64 n1) (2 ^ 8)))) (Int.toNat (IntKind.wrap .i64 (pa + (2 : Int)))) (IntKind.wrap .u8 (Int.fdiv (Int.fdiv (IntKind.wrap .u64 n1) (2 ^ 8)) (2 ^ 8)))) (Int.toNat (IntKind.wrap .i64 (pa + (3 : Int)))) (IntKind.wrap .u8 (Int.fdiv (Int.fdiv (Int.fdiv (IntKind.wrap .u64 n1) (2 ^ 8)) (2 ^ 8)) (2 ^ 8))))) else False) else False) else False) else False) else False))))))) ((bif (decide (pa < (0 : Int))) then (k3) else (bif (decide (pa > (IntKind.wrap .i64 (((((List.length xs) - (0 : Nat)) : Nat) : Int) - (0 : Int))))) then (k3) else (f35 t n1 (fun (b6 : Bool) (n7 : Int) => (bif (!b6) then (k4) else (bif ((decide ((((0 : Nat) + ((List.length xs) - (0 : Nat))) * (1 : Nat)) ≤ (140737488355328 : Nat))) && (decide (((0 : Nat) + ((List.length xs) - (0 : Nat))) ≤ (140737488355328 : Nat)))) then (k6) else False))))))))) ((k3))))
theorem F27_ok (f32a : Y32a) (f35 : Y35) (f33l : Y33l) (pa : Int) (t : Int) (ps : Int) (pad : Int) (pp : Int) (pg : Int) (ptp : Int) (xs : List Int) (K : V → Mem → Prop) : cbody Try.prog (T32a f32a (T35 f35 (T33l f33l C0))) (fun _ => none) 1000 (fnOf Try.prog 27) [(.sl 0 (0 : Nat) (none : Option Nat) (none : Option Nat)), (.I .i64 pa), (.I .i64 t), (.agg [(.I .i64 ps), (.I .i64 pad), (.I .i64 pp), (.I .i64 pg), (.I .i64 ptp)])] [⟨[.ints .u8 xs], 5, true, false⟩] K =
    F27 f32a f35 f33l pa t ps pad pp pg ptp xs (K (.tup [.nils, (.I .i64 (6 : Int))]) [⟨[.ints .u8 xs], 5, true, false⟩]) (K (.tup [.nils, (.I .i64 (11 : Int))]) [⟨[.ints .u8 xs], 5, true, false⟩]) (K (.tup [.nils, (.I .i64 (200 : Int))]) [⟨[.ints .u8 xs], 5, true, false⟩]) (K (.tup [.nils, (.I .i64 (201 : Int))]) [⟨[.ints .u8 xs], 5, true, false⟩]) (fun (u0 : List Int) => K (.tup [(.sl 1 (0 : Nat) (none : Option Nat) (none : Option Nat)), (.I .i64 (0 : Int))]) [⟨[.ints .u8 xs], 5, true, false⟩, ⟨[.ints .u8 u0], 5, false, true⟩]) (K (.tup [(.sl 1 (0 : Nat) (none : Option Nat) (none : Option Nat)), (.I .i64 (0 : Int))]) [⟨[.ints .u8 xs], 5, true, false⟩, ⟨[.ints .u8 xs], 5, false, true⟩]) := by kernel_rfl
def G27 : Y27 := F27 G32a G35 G33l
def VT27 (f : Y27) (F : Prop) (args : List V) (m : Mem) (K : V → Mem → Prop) : Prop :=
  (seeCons args F fun a1 q2 => (seeV (.sl 0 (0 : Nat) (none : Option Nat) (none : Option Nat)) a1 F (seeCons q2 F fun a3 q4 => (seeI .i64 a3 F fun pa => (seeCons q4 F fun a5 q6 => (seeI .i64 a5 F fun t => (seeCons q6 F fun a7 q8 => (seeAgg a7 F fun vs9 => (seeCons vs9 F fun a10 q11 => (seeI .i64 a10 F fun ps => (seeCons q11 F fun a12 q13 => (seeI .i64 a12 F fun pad => (seeCons q13 F fun a14 q15 => (seeI .i64 a14 F fun pp => (seeCons q15 F fun a16 q17 => (seeI .i64 a16 F fun pg => (seeCons q17 F fun a18 q19 => (seeI .i64 a18 F fun ptp => (seeNil q19 F (seeNil q8 F (seeCons m F fun a20 q21 => (seeBlk 5 true false a20 F fun cs22 => (seeCons cs22 F fun a23 q24 => (seeInts .u8 a23 F fun xs => (seeNil q24 F (seeNil q21 F (f pa t ps pad pp pg ptp xs (K (.tup [.nils, (.I .i64 (6 : Int))]) [⟨[.ints .u8 xs], 5, true, false⟩]) (K (.tup [.nils, (.I .i64 (11 : Int))]) [⟨[.ints .u8 xs], 5, true, false⟩]) (K (.tup [.nils, (.I .i64 (200 : Int))]) [⟨[.ints .u8 xs], 5, true, false⟩]) (K (.tup [.nils, (.I .i64 (201 : Int))]) [⟨[.ints .u8 xs], 5, true, false⟩]) (fun (u0 : List Int) => K (.tup [(.sl 1 (0 : Nat) (none : Option Nat) (none : Option Nat)), (.I .i64 (0 : Int))]) [⟨[.ints .u8 xs], 5, true, false⟩, ⟨[.ints .u8 u0], 5, false, true⟩]) (K (.tup [(.sl 1 (0 : Nat) (none : Option Nat) (none : Option Nat)), (.I .i64 (0 : Int))]) [⟨[.ints .u8 xs], 5, true, false⟩, ⟨[.ints .u8 xs], 5, false, true⟩]))))))))))))))))))))))))))))
def T27 (f : Y27) (C : CC) : CC := fun g args m K =>
  match Nat.beq g 27 with
  | true => VT27 f (C g args m K) args m K
  | false => C g args m K
set_option maxRecDepth 100000 in
theorem T27_ok {C : CC} (hC : CallsOk Try.prog C) : CallsOk Try.prog (T27 G27 C) := by
  intro g args m K E w cargs hS ha h
  unfold T27 at h
  split at h
  · rename_i hg
    obtain rfl := Nat.eq_of_beq_eq_true hg
    unfold VT27 at h
    replace h := seeCons_use h
    rcases h with h | ⟨a1, q2, rfl, h⟩
    · exact hC _ _ _ _ _ _ _ hS ha h
    replace h := seeV_use h
    rcases h with h | ⟨rfl, h⟩
    · exact hC _ _ _ _ _ _ _ hS ha h
    replace h := seeCons_use h
    rcases h with h | ⟨a3, q4, rfl, h⟩
    · exact hC _ _ _ _ _ _ _ hS ha h
    replace h := seeI_use h
    rcases h with h | ⟨pa, rfl, h⟩
    · exact hC _ _ _ _ _ _ _ hS ha h
    replace h := seeCons_use h
    rcases h with h | ⟨a5, q6, rfl, h⟩
    · exact hC _ _ _ _ _ _ _ hS ha h
    replace h := seeI_use h
    rcases h with h | ⟨t, rfl, h⟩
    · exact hC _ _ _ _ _ _ _ hS ha h
    replace h := seeCons_use h
    rcases h with h | ⟨a7, q8, rfl, h⟩
    · exact hC _ _ _ _ _ _ _ hS ha h
    replace h := seeAgg_use h
    rcases h with h | ⟨vs9, rfl, h⟩
    · exact hC _ _ _ _ _ _ _ hS ha h
    replace h := seeCons_use h
    rcases h with h | ⟨a10, q11, rfl, h⟩
    · exact hC _ _ _ _ _ _ _ hS ha h
    replace h := seeI_use h
    rcases h with h | ⟨ps, rfl, h⟩
    · exact hC _ _ _ _ _ _ _ hS ha h
    replace h := seeCons_use h
    rcases h with h | ⟨a12, q13, rfl, h⟩
    · exact hC _ _ _ _ _ _ _ hS ha h
    replace h := seeI_use h
    rcases h with h | ⟨pad, rfl, h⟩
    · exact hC _ _ _ _ _ _ _ hS ha h
    replace h := seeCons_use h
    rcases h with h | ⟨a14, q15, rfl, h⟩
    · exact hC _ _ _ _ _ _ _ hS ha h
    replace h := seeI_use h
    rcases h with h | ⟨pp, rfl, h⟩
    · exact hC _ _ _ _ _ _ _ hS ha h
    replace h := seeCons_use h
    rcases h with h | ⟨a16, q17, rfl, h⟩
    · exact hC _ _ _ _ _ _ _ hS ha h
    replace h := seeI_use h
    rcases h with h | ⟨pg, rfl, h⟩
    · exact hC _ _ _ _ _ _ _ hS ha h
    replace h := seeCons_use h
    rcases h with h | ⟨a18, q19, rfl, h⟩
    · exact hC _ _ _ _ _ _ _ hS ha h
    replace h := seeI_use h
    rcases h with h | ⟨ptp, rfl, h⟩
    · exact hC _ _ _ _ _ _ _ hS ha h
    replace h := seeNil_use h
    rcases h with h | ⟨rfl, h⟩
    · exact hC _ _ _ _ _ _ _ hS ha h
    replace h := seeNil_use h
    rcases h with h | ⟨rfl, h⟩
    · exact hC _ _ _ _ _ _ _ hS ha h
    replace h := seeCons_use h
    rcases h with h | ⟨a20, q21, rfl, h⟩
    · exact hC _ _ _ _ _ _ _ hS ha h
    replace h := seeBlk_use h
    rcases h with h | ⟨cs22, rfl, h⟩
    · exact hC _ _ _ _ _ _ _ hS ha h
    replace h := seeCons_use h
    rcases h with h | ⟨a23, q24, rfl, h⟩
    · exact hC _ _ _ _ _ _ _ hS ha h
    replace h := seeInts_use h
    rcases h with h | ⟨xs, rfl, h⟩
    · exact hC _ _ _ _ _ _ _ hS ha h
    replace h := seeNil_use h
    rcases h with h | ⟨rfl, h⟩
    · exact hC _ _ _ _ _ _ _ hS ha h
    replace h := seeNil_use h
    rcases h with h | ⟨rfl, h⟩
    · exact hC _ _ _ _ _ _ _ hS ha h
    exact cbody_use named (T32a_ok (T35_ok (T33l_ok C0_ok))) at27 (l := 1) rfl (LoopsOk.none _ _) (F27_ok G32a G35 G33l pa t ps pad pp pg ptp xs K) hS ha h
  · exact hC _ _ _ _ _ _ _ hS ha h
theorem at29 : Try.prog.funcs[29]? = some (fnOf Try.prog 29) := by kernel_rfl
abbrev Y29 : Type := Int → List Int → (Prop) → (List Int → Prop) → Prop
set_option maxHeartbeats 4000000 in
set_option maxRecDepth 100000 in
def F29  (pa : Int) (xs : List Int) (k1 : Prop) (k2 : List Int → Prop) : Prop :=
  (bif (decide (pa < (3 : Int))) then (k1) else (bif (decide (pa > (IntKind.wrap .i64 (((((List.length xs) - (0 : Nat)) : Nat) : Int) - (4 : Int))))) then (k1) else (bif ((decide ((0 : Int) ≤ (IntKind.wrap .i64 (pa - (2 : Int))))) && (decide ((IntKind.wrap .i64 (pa - (2 : Int))) < ((((List.length xs) - (0 : Nat)) : Nat) : Int)))) then (bif ((List.getD xs (Int.toNat (IntKind.wrap .i64 (pa - (2 : Int)))) (0 : Int)) != (139 : Int)) then (k1) else (bif ((decide ((0 : Int) ≤ (IntKind.wrap .i64 (pa - (1 : Int))))) && (decide ((IntKind.wrap .i64 (pa - (1 : Int))) < ((((List.length xs) - (0 : Nat)) : Nat) : Int)))) then (bif ((ibits .and .u8 (List.getD xs (Int.toNat (IntKind.wrap .i64 (pa - (1 : Int)))) (0 : Int)) (199 : Int)) != (5 : Int)) then (k1) else (bif ((decide ((0 : Int) ≤ (IntKind.wrap .i64 (pa - (3 : Int))))) && (decide ((IntKind.wrap .i64 (pa - (3 : Int))) < ((((List.length xs) - (0 : Nat)) : Nat) : Int)))) then (bif ((List.getD xs (Int.toNat (IntKind.wrap .i64 (pa - (3 : Int)))) (0 : Int)) != (72 : Int)) then (bif ((decide ((0 : Int) ≤ (IntKind.wrap .i64 (pa - (3 : Int))))) && (decide ((IntKind.wrap .i64 (pa - (3 : Int))) < ((((List.length xs) - (0 : Nat)) : Nat) : Int)))) then (bif ((List.getD xs (Int.toNat (IntKind.wrap .i64 (pa - (3 : Int)))) (0 : Int)) != (76 : Int)) then (k1) else (bif ((decide ((((List.length xs) - (0 : Nat)) * (1 : Nat)) ≤ (140737488355328 : Nat))) && (decide (((List.length xs) - (0 : Nat)) ≤ (140737488355328 : Nat)))) then (bif ((decide ((0 : Int) ≤ (IntKind.wrap .i64 (pa - (2 : Int))))) && (decide ((IntKind.wrap .i64 (pa - (2 : Int))) < ((((List.length xs) - (0 : Nat)) : Nat) : Int)))) then (k2 (List.set xs (Int.toNat (IntKind.wrap .i64 (pa - (2 : Int)))) (141 : Int))) else False) else False)) else False) else (bif ((decide ((((List.length xs) - (0 : Nat)) * (1 : Nat)) ≤ (140737488355328 : Nat))) && (decide (((List.length xs) - (0 : Nat)) ≤ (140737488355328 : Nat)))) then (bif ((decide ((0 : Int) ≤ (IntKind.wrap .i64 (pa - (2 : Int))))) && (decide ((IntKind.wrap .i64 (pa - (2 : Int))) < ((((List.length xs) - (0 : Nat)) : Nat) : Int)))) then (k2 (List.set xs (Int.toNat (IntKind.wrap .i64 (pa - (2 : Int)))) (141 : Int))) else False) else False)) else False)) else False)) else False)))
theorem F29_ok  (pa : Int) (xs : List Int) (K : V → Mem → Prop) : cbody Try.prog C0 (fun _ => none) 1000 (fnOf Try.prog 29) [(.sl 0 (0 : Nat) (none : Option Nat) (none : Option Nat)), (.I .i64 pa)] [⟨[.ints .u8 xs], 5, false, false⟩] K =
    F29  pa xs (K (.tup [(.I .u8 (0 : Int)), .nils, (.B false)]) [⟨[.ints .u8 xs], 5, false, false⟩]) (fun (u0 : List Int) => K (.tup [(.I .u8 (141 : Int)), (.sl 1 (0 : Nat) (none : Option Nat) (none : Option Nat)), (.B true)]) [⟨[.ints .u8 xs], 5, false, false⟩, ⟨[.ints .u8 u0], 5, false, true⟩]) := by kernel_rfl
def G29 : Y29 := F29 
def VT29 (f : Y29) (F : Prop) (args : List V) (m : Mem) (K : V → Mem → Prop) : Prop :=
  (seeCons args F fun a1 q2 => (seeV (.sl 0 (0 : Nat) (none : Option Nat) (none : Option Nat)) a1 F (seeCons q2 F fun a3 q4 => (seeI .i64 a3 F fun pa => (seeNil q4 F (seeCons m F fun a5 q6 => (seeBlk 5 false false a5 F fun cs7 => (seeCons cs7 F fun a8 q9 => (seeInts .u8 a8 F fun xs => (seeNil q9 F (seeNil q6 F (f pa xs (K (.tup [(.I .u8 (0 : Int)), .nils, (.B false)]) [⟨[.ints .u8 xs], 5, false, false⟩]) (fun (u0 : List Int) => K (.tup [(.I .u8 (141 : Int)), (.sl 1 (0 : Nat) (none : Option Nat) (none : Option Nat)), (.B true)]) [⟨[.ints .u8 xs], 5, false, false⟩, ⟨[.ints .u8 u0], 5, false, true⟩])))))))))))))
def T29 (f : Y29) (C : CC) : CC := fun g args m K =>
  match Nat.beq g 29 with
  | true => VT29 f (C g args m K) args m K
  | false => C g args m K
set_option maxRecDepth 100000 in
theorem T29_ok {C : CC} (hC : CallsOk Try.prog C) : CallsOk Try.prog (T29 G29 C) := by
  intro g args m K E w cargs hS ha h
  unfold T29 at h
  split at h
  · rename_i hg
    obtain rfl := Nat.eq_of_beq_eq_true hg
    unfold VT29 at h
    replace h := seeCons_use h
    rcases h with h | ⟨a1, q2, rfl, h⟩
    · exact hC _ _ _ _ _ _ _ hS ha h
    replace h := seeV_use h
    rcases h with h | ⟨rfl, h⟩
    · exact hC _ _ _ _ _ _ _ hS ha h
    replace h := seeCons_use h
    rcases h with h | ⟨a3, q4, rfl, h⟩
    · exact hC _ _ _ _ _ _ _ hS ha h
    replace h := seeI_use h
    rcases h with h | ⟨pa, rfl, h⟩
    · exact hC _ _ _ _ _ _ _ hS ha h
    replace h := seeNil_use h
    rcases h with h | ⟨rfl, h⟩
    · exact hC _ _ _ _ _ _ _ hS ha h
    replace h := seeCons_use h
    rcases h with h | ⟨a5, q6, rfl, h⟩
    · exact hC _ _ _ _ _ _ _ hS ha h
    replace h := seeBlk_use h
    rcases h with h | ⟨cs7, rfl, h⟩
    · exact hC _ _ _ _ _ _ _ hS ha h
    replace h := seeCons_use h
    rcases h with h | ⟨a8, q9, rfl, h⟩
    · exact hC _ _ _ _ _ _ _ hS ha h
    replace h := seeInts_use h
    rcases h with h | ⟨xs, rfl, h⟩
    · exact hC _ _ _ _ _ _ _ hS ha h
    replace h := seeNil_use h
    rcases h with h | ⟨rfl, h⟩
    · exact hC _ _ _ _ _ _ _ hS ha h
    replace h := seeNil_use h
    rcases h with h | ⟨rfl, h⟩
    · exact hC _ _ _ _ _ _ _ hS ha h
    exact cbody_use named C0_ok at29 (l := 1) rfl (LoopsOk.none _ _) (F29_ok  pa xs K) hS ha h
  · exact hC _ _ _ _ _ _ _ hS ha h
theorem at30 : Try.prog.funcs[30]? = some (fnOf Try.prog 30) := by kernel_rfl
abbrev Y30 : Type := Int → List Int → (Prop) → (List Int → Prop) → Prop
set_option maxHeartbeats 4000000 in
set_option maxRecDepth 100000 in
def F30  (pa : Int) (xs : List Int) (k1 : Prop) (k2 : List Int → Prop) : Prop :=
  (bif (decide (pa < (3 : Int))) then (k1) else (bif (decide (pa > (IntKind.wrap .i64 (((((List.length xs) - (0 : Nat)) : Nat) : Int) - (4 : Int))))) then (k1) else (bif ((decide ((0 : Int) ≤ (IntKind.wrap .i64 (pa - (2 : Int))))) && (decide ((IntKind.wrap .i64 (pa - (2 : Int))) < ((((List.length xs) - (0 : Nat)) : Nat) : Int)))) then (bif ((List.getD xs (Int.toNat (IntKind.wrap .i64 (pa - (2 : Int)))) (0 : Int)) != (139 : Int)) then (k1) else (bif ((decide ((0 : Int) ≤ (IntKind.wrap .i64 (pa - (1 : Int))))) && (decide ((IntKind.wrap .i64 (pa - (1 : Int))) < ((((List.length xs) - (0 : Nat)) : Nat) : Int)))) then (bif ((ibits .and .u8 (List.getD xs (Int.toNat (IntKind.wrap .i64 (pa - (1 : Int)))) (0 : Int)) (199 : Int)) != (5 : Int)) then (k1) else (bif ((decide ((0 : Int) ≤ (IntKind.wrap .i64 (pa - (3 : Int))))) && (decide ((IntKind.wrap .i64 (pa - (3 : Int))) < ((((List.length xs) - (0 : Nat)) : Nat) : Int)))) then (bif ((List.getD xs (Int.toNat (IntKind.wrap .i64 (pa - (3 : Int)))) (0 : Int)) != (72 : Int)) then (bif ((decide ((0 : Int) ≤ (IntKind.wrap .i64 (pa - (3 : Int))))) && (decide ((IntKind.wrap .i64 (pa - (3 : Int))) < ((((List.length xs) - (0 : Nat)) : Nat) : Int)))) then (bif ((List.getD xs (Int.toNat (IntKind.wrap .i64 (pa - (3 : Int)))) (0 : Int)) != (76 : Int)) then (k1) else (bif ((decide ((((0 : Nat) + ((List.length xs) - (0 : Nat))) * (1 : Nat)) ≤ (140737488355328 : Nat))) && (decide (((0 : Nat) + ((List.length xs) - (0 : Nat))) ≤ (140737488355328 : Nat)))) then (bif ((decide ((0 : Int) ≤ (IntKind.wrap .i64 (pa - (2 : Int))))) && (decide ((IntKind.wrap .i64 (pa - (2 : Int))) < ((((List.length xs) - (0 : Nat)) : Nat) : Int)))) then (k2 (List.set xs (Int.toNat (IntKind.wrap .i64 (pa - (2 : Int)))) (141 : Int))) else False) else False)) else False) else (bif ((decide ((((0 : Nat) + ((List.length xs) - (0 : Nat))) * (1 : Nat)) ≤ (140737488355328 : Nat))) && (decide (((0 : Nat) + ((List.length xs) - (0 : Nat))) ≤ (140737488355328 : Nat)))) then (bif ((decide ((0 : Int) ≤ (IntKind.wrap .i64 (pa - (2 : Int))))) && (decide ((IntKind.wrap .i64 (pa - (2 : Int))) < ((((List.length xs) - (0 : Nat)) : Nat) : Int)))) then (k2 (List.set xs (Int.toNat (IntKind.wrap .i64 (pa - (2 : Int)))) (141 : Int))) else False) else False)) else False)) else False)) else False)))
theorem F30_ok  (pa : Int) (xs : List Int) (K : V → Mem → Prop) : cbody Try.prog C0 (fun _ => none) 1000 (fnOf Try.prog 30) [(.sl 0 (0 : Nat) (none : Option Nat) (none : Option Nat)), (.I .i64 pa)] [⟨[.ints .u8 xs], 5, true, false⟩] K =
    F30  pa xs (K (.tup [(.I .u8 (0 : Int)), .nils, (.B false)]) [⟨[.ints .u8 xs], 5, true, false⟩]) (fun (u0 : List Int) => K (.tup [(.I .u8 (141 : Int)), (.sl 1 (0 : Nat) (none : Option Nat) (none : Option Nat)), (.B true)]) [⟨[.ints .u8 xs], 5, true, false⟩, ⟨[.ints .u8 u0], 5, false, true⟩]) := by kernel_rfl
def G30 : Y30 := F30 
def VT30 (f : Y30) (F : Prop) (args : List V) (m : Mem) (K : V → Mem → Prop) : Prop :=
  (seeCons args F fun a1 q2 => (seeV (.sl 0 (0 : Nat) (none : Option Nat) (none : Option Nat)) a1 F (seeCons q2 F fun a3 q4 => (seeI .i64 a3 F fun pa => (seeNil q4 F (seeCons m F fun a5 q6 => (seeBlk 5 true false a5 F fun cs7 => (seeCons cs7 F fun a8 q9 => (seeInts .u8 a8 F fun xs => (seeNil q9 F (seeNil q6 F (f pa xs (K (.tup [(.I .u8 (0 : Int)), .nils, (.B false)]) [⟨[.ints .u8 xs], 5, true, false⟩]) (fun (u0 : List Int) => K (.tup [(.I .u8 (141 : Int)), (.sl 1 (0 : Nat) (none : Option Nat) (none : Option Nat)), (.B true)]) [⟨[.ints .u8 xs], 5, true, false⟩, ⟨[.ints .u8 u0], 5, false, true⟩])))))))))))))
def T30 (f : Y30) (C : CC) : CC := fun g args m K =>
  match Nat.beq g 30 with
  | true => VT30 f (C g args m K) args m K
  | false => C g args m K
set_option maxRecDepth 100000 in
theorem T30_ok {C : CC} (hC : CallsOk Try.prog C) : CallsOk Try.prog (T30 G30 C) := by
  intro g args m K E w cargs hS ha h
  unfold T30 at h
  split at h
  · rename_i hg
    obtain rfl := Nat.eq_of_beq_eq_true hg
    unfold VT30 at h
    replace h := seeCons_use h
    rcases h with h | ⟨a1, q2, rfl, h⟩
    · exact hC _ _ _ _ _ _ _ hS ha h
    replace h := seeV_use h
    rcases h with h | ⟨rfl, h⟩
    · exact hC _ _ _ _ _ _ _ hS ha h
    replace h := seeCons_use h
    rcases h with h | ⟨a3, q4, rfl, h⟩
    · exact hC _ _ _ _ _ _ _ hS ha h
    replace h := seeI_use h
    rcases h with h | ⟨pa, rfl, h⟩
    · exact hC _ _ _ _ _ _ _ hS ha h
    replace h := seeNil_use h
    rcases h with h | ⟨rfl, h⟩
    · exact hC _ _ _ _ _ _ _ hS ha h
    replace h := seeCons_use h
    rcases h with h | ⟨a5, q6, rfl, h⟩
    · exact hC _ _ _ _ _ _ _ hS ha h
    replace h := seeBlk_use h
    rcases h with h | ⟨cs7, rfl, h⟩
    · exact hC _ _ _ _ _ _ _ hS ha h
    replace h := seeCons_use h
    rcases h with h | ⟨a8, q9, rfl, h⟩
    · exact hC _ _ _ _ _ _ _ hS ha h
    replace h := seeInts_use h
    rcases h with h | ⟨xs, rfl, h⟩
    · exact hC _ _ _ _ _ _ _ hS ha h
    replace h := seeNil_use h
    rcases h with h | ⟨rfl, h⟩
    · exact hC _ _ _ _ _ _ _ hS ha h
    replace h := seeNil_use h
    rcases h with h | ⟨rfl, h⟩
    · exact hC _ _ _ _ _ _ _ hS ha h
    exact cbody_use named C0_ok at30 (l := 1) rfl (LoopsOk.none _ _) (F30_ok  pa xs K) hS ha h
  · exact hC _ _ _ _ _ _ _ hS ha h
abbrev YL8_9 : Type := Code → List Int → List Int → (Prop) → Prop
set_option maxHeartbeats 4000000 in
set_option maxRecDepth 100000 in
def HL8_9  (rec : Prop) (xs_m_0_0 : List Int) (xs_m_1_0 : List Int) (k1 : Prop) : Prop :=
  (k1)
def RL8_9  : Nat → List Int → List Int → (Prop) → Prop
  | 0, _, _, _ => False
  | n + 1, xs_m_0_0, xs_m_1_0, k1 => HL8_9  (RL8_9  n xs_m_0_0 xs_m_1_0 k1) xs_m_0_0 xs_m_1_0 k1
noncomputable def XL8_9 : Code := sub [true, true, true, true, true, true, true, false, true, false, false] (bodyOf Try.prog 8)
theorem HL8_9_ok  (n : Nat) (xs_m_0_0 : List Int) (xs_m_1_0 : List Int) (K : Ex → Env → Mem → Prop) : cround 1 [0, 9, 10, 15, 20] [0, 9, 15] (fun ρ m K => cexec Try.prog C0 (fun _ => none) 1 1000 XL8_9 ρ m K) (n + 1) (selE 127 [(0, (.sl 0 (0 : Nat) (none : Option Nat) (none : Option Nat))), (9, (.sl 1 (0 : Nat) (none : Option Nat) (none : Option Nat))), (10, .nils), (15, .nils), (20, (.I .i64 (0 : Int)))]) [⟨[.ints .u8 xs_m_0_0], 5, true, false⟩, ⟨[.ints .u8 xs_m_1_0], 5, false, true⟩] K =
    HL8_9  (cround 1 [0, 9, 10, 15, 20] [0, 9, 15] (fun ρ m K => cexec Try.prog C0 (fun _ => none) 1 1000 XL8_9 ρ m K) n (selE 127 [(0, (.sl 0 (0 : Nat) (none : Option Nat) (none : Option Nat))), (9, (.sl 1 (0 : Nat) (none : Option Nat) (none : Option Nat))), (10, .nils), (15, .nils), (20, (.I .i64 (0 : Int)))]) [⟨[.ints .u8 xs_m_0_0], 5, true, false⟩, ⟨[.ints .u8 xs_m_1_0], 5, false, true⟩] K) xs_m_0_0 xs_m_1_0 (K (.exit 0) (selE 127 [(0, (.sl 0 (0 : Nat) (none : Option Nat) (none : Option Nat))), (9, (.sl 1 (0 : Nat) (none : Option Nat) (none : Option Nat))), (15, .nils)]) [⟨[.ints .u8 xs_m_0_0], 5, true, false⟩, ⟨[.ints .u8 xs_m_1_0], 5, false, true⟩]) := by kernel_rfl
theorem RL8_9_ok  (K : Ex → Env → Mem → Prop) : ∀ (n : Nat) (xs_m_0_0 : List Int) (xs_m_1_0 : List Int), cround 1 [0, 9, 10, 15, 20] [0, 9, 15] (fun ρ m K => cexec Try.prog C0 (fun _ => none) 1 1000 XL8_9 ρ m K) n (selE 127 [(0, (.sl 0 (0 : Nat) (none : Option Nat) (none : Option Nat))), (9, (.sl 1 (0 : Nat) (none : Option Nat) (none : Option Nat))), (10, .nils), (15, .nils), (20, (.I .i64 (0 : Int)))]) [⟨[.ints .u8 xs_m_0_0], 5, true, false⟩, ⟨[.ints .u8 xs_m_1_0], 5, false, true⟩] K = RL8_9  n xs_m_0_0 xs_m_1_0 (K (.exit 0) (selE 127 [(0, (.sl 0 (0 : Nat) (none : Option Nat) (none : Option Nat))), (9, (.sl 1 (0 : Nat) (none : Option Nat) (none : Option Nat))), (15, .nils)]) [⟨[.ints .u8 xs_m_0_0], 5, true, false⟩, ⟨[.ints .u8 xs_m_1_0], 5, false, true⟩])
  | 0, xs_m_0_0, xs_m_1_0 => rfl
  | n + 1, xs_m_0_0, xs_m_1_0 => by
    have ih := RL8_9_ok  K n
    rw [HL8_9_ok  n xs_m_0_0 xs_m_1_0 K]
    show HL8_9  _ xs_m_0_0 xs_m_1_0 (K (.exit 0) (selE 127 [(0, (.sl 0 (0 : Nat) (none : Option Nat) (none : Option Nat))), (9, (.sl 1 (0 : Nat) (none : Option Nat) (none : Option Nat))), (15, .nils)]) [⟨[.ints .u8 xs_m_0_0], 5, true, false⟩, ⟨[.ints .u8 xs_m_1_0], 5, false, true⟩]) = HL8_9  _ xs_m_0_0 xs_m_1_0 (K (.exit 0) (selE 127 [(0, (.sl 0 (0 : Nat) (none : Option Nat) (none : Option Nat))), (9, (.sl 1 (0 : Nat) (none : Option Nat) (none : Option Nat))), (15, .nils)]) [⟨[.ints .u8 xs_m_0_0], 5, true, false⟩, ⟨[.ints .u8 xs_m_1_0], 5, false, true⟩])
    refine congrArg (fun r => HL8_9  r xs_m_0_0 xs_m_1_0 (K (.exit 0) (selE 127 [(0, (.sl 0 (0 : Nat) (none : Option Nat) (none : Option Nat))), (9, (.sl 1 (0 : Nat) (none : Option Nat) (none : Option Nat))), (15, .nils)]) [⟨[.ints .u8 xs_m_0_0], 5, true, false⟩, ⟨[.ints .u8 xs_m_1_0], 5, false, true⟩])) ?_
    exact ih xs_m_0_0 xs_m_1_0
def GL8_9 : YL8_9 := fun x xs_m_0_0 xs_m_1_0 k1 => x = XL8_9 ∧ ∃ n, RL8_9  n xs_m_0_0 xs_m_1_0 k1
def VL8_9 (l : YL8_9) (F : Prop) (x : Code) (ρ : Env) (m : Mem) (K : Ex → Env → Mem → Prop) : Prop :=
  match ρ.has (127 - 1) with
  | true => (seeV (.sl 0 (0 : Nat) (none : Option Nat) (none : Option Nat)) (ρ.get 0) F (seeV (.sl 1 (0 : Nat) (none : Option Nat) (none : Option Nat)) (ρ.get 9) F (seeV .nils (ρ.get 10) F (seeV .nils (ρ.get 15) F (seeV (.I .i64 (0 : Int)) (ρ.get 20) F (seeCons m F fun a6 q7 => (seeBlk 5 true false a6 F fun cs8 => (seeCons cs8 F fun a9 q10 => (seeInts .u8 a9 F fun xs_m_0_0 => (seeNil q10 F (seeCons q7 F fun a11 q12 => (seeBlk 5 false true a11 F fun cs13 => (seeCons cs13 F fun a14 q15 => (seeInts .u8 a14 F fun xs_m_1_0 => (seeNil q15 F (seeNil q12 F (l x xs_m_0_0 xs_m_1_0 (K (.exit 0) (selE 127 [(0, (.sl 0 (0 : Nat) (none : Option Nat) (none : Option Nat))), (9, (.sl 1 (0 : Nat) (none : Option Nat) (none : Option Nat))), (15, .nils)]) [⟨[.ints .u8 xs_m_0_0], 5, true, false⟩, ⟨[.ints .u8 xs_m_1_0], 5, false, true⟩]))))))))))))))))))
  | false => False
def WL8_9 (l : YL8_9) (W : Masks) : Masks := fun r =>
  match Nat.beq r 9 with
  | true => some fun x ρ m K => VL8_9 l (match W r with | some lf => lf x ρ m K | none => False) x (tidyE 1 [0, 9, 10, 15, 20] ρ m) (tidyM 1 [0, 9, 10, 15, 20] ρ m) K
  | false => W r
set_option maxRecDepth 100000 in
theorem WL8_9_ok {W : Masks} (hW : LoopsOk Try.prog 1 W) : LoopsOk Try.prog 1 (WL8_9 GL8_9 W) := by
  intro r lf h
  unfold WL8_9 at h
  split at h
  · cases h
    intro x E0 m0 w0 ds hS0 ha ρ m K E a w Q hS hρ hd h hQ
    have fb : (match W r with | some lf => lf x ρ m K | none => False) → (Code.loop x).wp Try.prog Q a w := fun h => by
      split at h
      · rename_i lf hlf
        exact hW r lf hlf x hS0 ha ρ m K E a w Q hS hρ hd h hQ
      · cases h
    obtain ⟨E2, hS2, hρ2⟩ := tidy_rel hS0 hS hρ [0, 9, 10, 15, 20]
    rw [ha] at hS2 hρ2
    unfold VL8_9 at h
    split at h
    · rename_i hlen
      replace h := seeV_use h
      rcases h with h | ⟨e1, h⟩
      · exact fb h
      replace h := seeV_use h
      rcases h with h | ⟨e2, h⟩
      · exact fb h
      replace h := seeV_use h
      rcases h with h | ⟨e3, h⟩
      · exact fb h
      replace h := seeV_use h
      rcases h with h | ⟨e4, h⟩
      · exact fb h
      replace h := seeV_use h
      rcases h with h | ⟨e5, h⟩
      · exact fb h
      replace h := seeCons_use h
      rcases h with h | ⟨a6, q7, eqm, h⟩
      · exact fb h
      replace h := seeBlk_use h
      rcases h with h | ⟨cs8, rfl, h⟩
      · exact fb h
      replace h := seeCons_use h
      rcases h with h | ⟨a9, q10, rfl, h⟩
      · exact fb h
      replace h := seeInts_use h
      rcases h with h | ⟨xs_m_0_0, rfl, h⟩
      · exact fb h
      replace h := seeNil_use h
      rcases h with h | ⟨rfl, h⟩
      · exact fb h
      replace h := seeCons_use h
      rcases h with h | ⟨a11, q12, rfl, h⟩
      · exact fb h
      replace h := seeBlk_use h
      rcases h with h | ⟨cs13, rfl, h⟩
      · exact fb h
      replace h := seeCons_use h
      rcases h with h | ⟨a14, q15, rfl, h⟩
      · exact fb h
      replace h := seeInts_use h
      rcases h with h | ⟨xs_m_1_0, rfl, h⟩
      · exact fb h
      replace h := seeNil_use h
      rcases h with h | ⟨rfl, h⟩
      · exact fb h
      replace h := seeNil_use h
      rcases h with h | ⟨rfl, h⟩
      · exact fb h
      obtain ⟨rfl, n, h⟩ := h
      exact loop_use named C0_ok (LoopsOk.none _ _) (RL8_9_ok  K n _ _) h hS0 ha hlen ⟨e1, e2, e3, e4, e5, trivial⟩ (eqm ▸ hS2) hρ2 hd hQ
    · cases h
  · exact hW r lf h
abbrev YL8_13 : Type := Code → List Int → List Int → (Prop) → Prop
set_option maxHeartbeats 4000000 in
set_option maxRecDepth 100000 in
def HL8_13  (rec : Prop) (xs_m_0_0 : List Int) (xs_m_1_0 : List Int) (k1 : Prop) : Prop :=
  (k1)
def RL8_13  : Nat → List Int → List Int → (Prop) → Prop
  | 0, _, _, _ => False
  | n + 1, xs_m_0_0, xs_m_1_0, k1 => HL8_13  (RL8_13  n xs_m_0_0 xs_m_1_0 k1) xs_m_0_0 xs_m_1_0 k1
noncomputable def XL8_13 : Code := sub [true, true, true, true, true, true, true, true, false, true, false, false] (bodyOf Try.prog 8)
theorem HL8_13_ok  (n : Nat) (xs_m_0_0 : List Int) (xs_m_1_0 : List Int) (K : Ex → Env → Mem → Prop) : cround 1 [0, 9, 15, 21] [0, 9] (fun ρ m K => cexec Try.prog C0 (fun _ => none) 1 1000 XL8_13 ρ m K) (n + 1) (selE 127 [(0, (.sl 0 (0 : Nat) (none : Option Nat) (none : Option Nat))), (9, (.sl 1 (0 : Nat) (none : Option Nat) (none : Option Nat))), (15, .nils), (21, (.I .i64 (0 : Int)))]) [⟨[.ints .u8 xs_m_0_0], 5, true, false⟩, ⟨[.ints .u8 xs_m_1_0], 5, false, true⟩] K =
    HL8_13  (cround 1 [0, 9, 15, 21] [0, 9] (fun ρ m K => cexec Try.prog C0 (fun _ => none) 1 1000 XL8_13 ρ m K) n (selE 127 [(0, (.sl 0 (0 : Nat) (none : Option Nat) (none : Option Nat))), (9, (.sl 1 (0 : Nat) (none : Option Nat) (none : Option Nat))), (15, .nils), (21, (.I .i64 (0 : Int)))]) [⟨[.ints .u8 xs_m_0_0], 5, true, false⟩, ⟨[.ints .u8 xs_m_1_0], 5, false, true⟩] K) xs_m_0_0 xs_m_1_0 (K (.exit 2) (selE 127 [(0, (.sl 0 (0 : Nat) (none : Option Nat) (none : Option Nat))), (9, (.sl 1 (0 : Nat) (none : Option Nat) (none : Option Nat)))]) [⟨[.ints .u8 xs_m_0_0], 5, true, false⟩, ⟨[.ints .u8 xs_m_1_0], 5, false, true⟩]) := by kernel_rfl
theorem RL8_13_ok  (K : Ex → Env → Mem → Prop) : ∀ (n : Nat) (xs_m_0_0 : List Int) (xs_m_1_0 : List Int), cround 1 [0, 9, 15, 21] [0, 9] (fun ρ m K => cexec Try.prog C0 (fun _ => none) 1 1000 XL8_13 ρ m K) n (selE 127 [(0, (.sl 0 (0 : Nat) (none : Option Nat) (none : Option Nat))), (9, (.sl 1 (0 : Nat) (none : Option Nat) (none : Option Nat))), (15, .nils), (21, (.I .i64 (0 : Int)))]) [⟨[.ints .u8 xs_m_0_0], 5, true, false⟩, ⟨[.ints .u8 xs_m_1_0], 5, false, true⟩] K = RL8_13  n xs_m_0_0 xs_m_1_0 (K (.exit 2) (selE 127 [(0, (.sl 0 (0 : Nat) (none : Option Nat) (none : Option Nat))), (9, (.sl 1 (0 : Nat) (none : Option Nat) (none : Option Nat)))]) [⟨[.ints .u8 xs_m_0_0], 5, true, false⟩, ⟨[.ints .u8 xs_m_1_0], 5, false, true⟩])
  | 0, xs_m_0_0, xs_m_1_0 => rfl
  | n + 1, xs_m_0_0, xs_m_1_0 => by
    have ih := RL8_13_ok  K n
    rw [HL8_13_ok  n xs_m_0_0 xs_m_1_0 K]
    show HL8_13  _ xs_m_0_0 xs_m_1_0 (K (.exit 2) (selE 127 [(0, (.sl 0 (0 : Nat) (none : Option Nat) (none : Option Nat))), (9, (.sl 1 (0 : Nat) (none : Option Nat) (none : Option Nat)))]) [⟨[.ints .u8 xs_m_0_0], 5, true, false⟩, ⟨[.ints .u8 xs_m_1_0], 5, false, true⟩]) = HL8_13  _ xs_m_0_0 xs_m_1_0 (K (.exit 2) (selE 127 [(0, (.sl 0 (0 : Nat) (none : Option Nat) (none : Option Nat))), (9, (.sl 1 (0 : Nat) (none : Option Nat) (none : Option Nat)))]) [⟨[.ints .u8 xs_m_0_0], 5, true, false⟩, ⟨[.ints .u8 xs_m_1_0], 5, false, true⟩])
    refine congrArg (fun r => HL8_13  r xs_m_0_0 xs_m_1_0 (K (.exit 2) (selE 127 [(0, (.sl 0 (0 : Nat) (none : Option Nat) (none : Option Nat))), (9, (.sl 1 (0 : Nat) (none : Option Nat) (none : Option Nat)))]) [⟨[.ints .u8 xs_m_0_0], 5, true, false⟩, ⟨[.ints .u8 xs_m_1_0], 5, false, true⟩])) ?_
    exact ih xs_m_0_0 xs_m_1_0
def GL8_13 : YL8_13 := fun x xs_m_0_0 xs_m_1_0 k1 => x = XL8_13 ∧ ∃ n, RL8_13  n xs_m_0_0 xs_m_1_0 k1
def VL8_13 (l : YL8_13) (F : Prop) (x : Code) (ρ : Env) (m : Mem) (K : Ex → Env → Mem → Prop) : Prop :=
  match ρ.has (127 - 1) with
  | true => (seeV (.sl 0 (0 : Nat) (none : Option Nat) (none : Option Nat)) (ρ.get 0) F (seeV (.sl 1 (0 : Nat) (none : Option Nat) (none : Option Nat)) (ρ.get 9) F (seeV .nils (ρ.get 15) F (seeV (.I .i64 (0 : Int)) (ρ.get 21) F (seeCons m F fun a5 q6 => (seeBlk 5 true false a5 F fun cs7 => (seeCons cs7 F fun a8 q9 => (seeInts .u8 a8 F fun xs_m_0_0 => (seeNil q9 F (seeCons q6 F fun a10 q11 => (seeBlk 5 false true a10 F fun cs12 => (seeCons cs12 F fun a13 q14 => (seeInts .u8 a13 F fun xs_m_1_0 => (seeNil q14 F (seeNil q11 F (l x xs_m_0_0 xs_m_1_0 (K (.exit 2) (selE 127 [(0, (.sl 0 (0 : Nat) (none : Option Nat) (none : Option Nat))), (9, (.sl 1 (0 : Nat) (none : Option Nat) (none : Option Nat)))]) [⟨[.ints .u8 xs_m_0_0], 5, true, false⟩, ⟨[.ints .u8 xs_m_1_0], 5, false, true⟩])))))))))))))))))
  | false => False
def WL8_13 (l : YL8_13) (W : Masks) : Masks := fun r =>
  match Nat.beq r 13 with
  | true => some fun x ρ m K => VL8_13 l (match W r with | some lf => lf x ρ m K | none => False) x (tidyE 1 [0, 9, 15, 21] ρ m) (tidyM 1 [0, 9, 15, 21] ρ m) K
  | false => W r
set_option maxRecDepth 100000 in
theorem WL8_13_ok {W : Masks} (hW : LoopsOk Try.prog 1 W) : LoopsOk Try.prog 1 (WL8_13 GL8_13 W) := by
  intro r lf h
  unfold WL8_13 at h
  split at h
  · cases h
    intro x E0 m0 w0 ds hS0 ha ρ m K E a w Q hS hρ hd h hQ
    have fb : (match W r with | some lf => lf x ρ m K | none => False) → (Code.loop x).wp Try.prog Q a w := fun h => by
      split at h
      · rename_i lf hlf
        exact hW r lf hlf x hS0 ha ρ m K E a w Q hS hρ hd h hQ
      · cases h
    obtain ⟨E2, hS2, hρ2⟩ := tidy_rel hS0 hS hρ [0, 9, 15, 21]
    rw [ha] at hS2 hρ2
    unfold VL8_13 at h
    split at h
    · rename_i hlen
      replace h := seeV_use h
      rcases h with h | ⟨e1, h⟩
      · exact fb h
      replace h := seeV_use h
      rcases h with h | ⟨e2, h⟩
      · exact fb h
      replace h := seeV_use h
      rcases h with h | ⟨e3, h⟩
      · exact fb h
      replace h := seeV_use h
      rcases h with h | ⟨e4, h⟩
      · exact fb h
      replace h := seeCons_use h
      rcases h with h | ⟨a5, q6, eqm, h⟩
      · exact fb h
      replace h := seeBlk_use h
      rcases h with h | ⟨cs7, rfl, h⟩
      · exact fb h
      replace h := seeCons_use h
      rcases h with h | ⟨a8, q9, rfl, h⟩
      · exact fb h
      replace h := seeInts_use h
      rcases h with h | ⟨xs_m_0_0, rfl, h⟩
      · exact fb h
      replace h := seeNil_use h
      rcases h with h | ⟨rfl, h⟩
      · exact fb h
      replace h := seeCons_use h
      rcases h with h | ⟨a10, q11, rfl, h⟩
      · exact fb h
      replace h := seeBlk_use h
      rcases h with h | ⟨cs12, rfl, h⟩
      · exact fb h
      replace h := seeCons_use h
      rcases h with h | ⟨a13, q14, rfl, h⟩
      · exact fb h
      replace h := seeInts_use h
      rcases h with h | ⟨xs_m_1_0, rfl, h⟩
      · exact fb h
      replace h := seeNil_use h
      rcases h with h | ⟨rfl, h⟩
      · exact fb h
      replace h := seeNil_use h
      rcases h with h | ⟨rfl, h⟩
      · exact fb h
      obtain ⟨rfl, n, h⟩ := h
      exact loop_use named C0_ok (LoopsOk.none _ _) (RL8_13_ok  K n _ _) h hS0 ha hlen ⟨e1, e2, e3, e4, trivial⟩ (eqm ▸ hS2) hρ2 hd hQ
    · cases h
  · exact hW r lf h
abbrev YL8_9b : Type := Code → List Int → List Int → List Int → (Prop) → Prop
set_option maxHeartbeats 4000000 in
set_option maxRecDepth 100000 in
def HL8_9b  (rec : Prop) (xs_m_0_0 : List Int) (xs_m_1_0 : List Int) (xs_m_2_0 : List Int) (k1 : Prop) : Prop :=
  (k1)
def RL8_9b  : Nat → List Int → List Int → List Int → (Prop) → Prop
  | 0, _, _, _, _ => False
  | n + 1, xs_m_0_0, xs_m_1_0, xs_m_2_0, k1 => HL8_9b  (RL8_9b  n xs_m_0_0 xs_m_1_0 xs_m_2_0 k1) xs_m_0_0 xs_m_1_0 xs_m_2_0 k1
noncomputable def XL8_9b : Code := sub [true, true, true, true, true, true, true, false, true, false, false] (bodyOf Try.prog 8)
theorem HL8_9b_ok  (n : Nat) (xs_m_0_0 : List Int) (xs_m_1_0 : List Int) (xs_m_2_0 : List Int) (K : Ex → Env → Mem → Prop) : cround 1 [0, 9, 10, 15, 20] [0, 9, 15] (fun ρ m K => cexec Try.prog C0 (fun _ => none) 1 1000 XL8_9b ρ m K) (n + 1) (selE 127 [(0, (.sl 0 (0 : Nat) (none : Option Nat) (none : Option Nat))), (9, (.sl 1 (0 : Nat) (none : Option Nat) (none : Option Nat))), (10, .nils), (15, (.sl 2 (0 : Nat) (none : Option Nat) (none : Option Nat))), (20, (.I .i64 (0 : Int)))]) [⟨[.ints .u8 xs_m_0_0], 5, true, false⟩, ⟨[.ints .u8 xs_m_1_0], 5, false, true⟩, ⟨[.ints .u8 xs_m_2_0], 5, false, true⟩] K =
    HL8_9b  (cround 1 [0, 9, 10, 15, 20] [0, 9, 15] (fun ρ m K => cexec Try.prog C0 (fun _ => none) 1 1000 XL8_9b ρ m K) n (selE 127 [(0, (.sl 0 (0 : Nat) (none : Option Nat) (none : Option Nat))), (9, (.sl 1 (0 : Nat) (none : Option Nat) (none : Option Nat))), (10, .nils), (15, (.sl 2 (0 : Nat) (none : Option Nat) (none : Option Nat))), (20, (.I .i64 (0 : Int)))]) [⟨[.ints .u8 xs_m_0_0], 5, true, false⟩, ⟨[.ints .u8 xs_m_1_0], 5, false, true⟩, ⟨[.ints .u8 xs_m_2_0], 5, false, true⟩] K) xs_m_0_0 xs_m_1_0 xs_m_2_0 (K (.exit 0) (selE 127 [(0, (.sl 0 (0 : Nat) (none : Option Nat) (none : Option Nat))), (9, (.sl 1 (0 : Nat) (none : Option Nat) (none : Option Nat))), (15, (.sl 2 (0 : Nat) (none : Option Nat) (none : Option Nat)))]) [⟨[.ints .u8 xs_m_0_0], 5, true, false⟩, ⟨[.ints .u8 xs_m_1_0], 5, false, true⟩, ⟨[.ints .u8 xs_m_2_0], 5, false, true⟩]) := by kernel_rfl
theorem RL8_9b_ok  (K : Ex → Env → Mem → Prop) : ∀ (n : Nat) (xs_m_0_0 : List Int) (xs_m_1_0 : List Int) (xs_m_2_0 : List Int), cround 1 [0, 9, 10, 15, 20] [0, 9, 15] (fun ρ m K => cexec Try.prog C0 (fun _ => none) 1 1000 XL8_9b ρ m K) n (selE 127 [(0, (.sl 0 (0 : Nat) (none : Option Nat) (none : Option Nat))), (9, (.sl 1 (0 : Nat) (none : Option Nat) (none : Option Nat))), (10, .nils), (15, (.sl 2 (0 : Nat) (none : Option Nat) (none : Option Nat))), (20, (.I .i64 (0 : Int)))]) [⟨[.ints .u8 xs_m_0_0], 5, true, false⟩, ⟨[.ints .u8 xs_m_1_0], 5, false, true⟩, ⟨[.ints .u8 xs_m_2_0], 5, false, true⟩] K = RL8_9b  n xs_m_0_0 xs_m_1_0 xs_m_2_0 (K (.exit 0) (selE 127 [(0, (.sl 0 (0 : Nat) (none : Option Nat) (none : Option Nat))), (9, (.sl 1 (0 : Nat) (none : Option Nat) (none : Option Nat))), (15, (.sl 2 (0 : Nat) (none : Option Nat) (none : Option Nat)))]) [⟨[.ints .u8 xs_m_0_0], 5, true, false⟩, ⟨[.ints .u8 xs_m_1_0], 5, false, true⟩, ⟨[.ints .u8 xs_m_2_0], 5, false, true⟩])
  | 0, xs_m_0_0, xs_m_1_0, xs_m_2_0 => rfl
  | n + 1, xs_m_0_0, xs_m_1_0, xs_m_2_0 => by
    have ih := RL8_9b_ok  K n
    rw [HL8_9b_ok  n xs_m_0_0 xs_m_1_0 xs_m_2_0 K]
    show HL8_9b  _ xs_m_0_0 xs_m_1_0 xs_m_2_0 (K (.exit 0) (selE 127 [(0, (.sl 0 (0 : Nat) (none : Option Nat) (none : Option Nat))), (9, (.sl 1 (0 : Nat) (none : Option Nat) (none : Option Nat))), (15, (.sl 2 (0 : Nat) (none : Option Nat) (none : Option Nat)))]) [⟨[.ints .u8 xs_m_0_0], 5, true, false⟩, ⟨[.ints .u8 xs_m_1_0], 5, false, true⟩, ⟨[.ints .u8 xs_m_2_0], 5, false, true⟩]) = HL8_9b  _ xs_m_0_0 xs_m_1_0 xs_m_2_0 (K (.exit 0) (selE 127 [(0, (.sl 0 (0 : Nat) (none : Option Nat) (none : Option Nat))), (9, (.sl 1 (0 : Nat) (none : Option Nat) (none : Option Nat))), (15, (.sl 2 (0 : Nat) (none : Option Nat) (none : Option Nat)))]) [⟨[.ints .u8 xs_m_0_0], 5, true, false⟩, ⟨[.ints .u8 xs_m_1_0], 5, false, true⟩, ⟨[.ints .u8 xs_m_2_0], 5, false, true⟩])
    refine congrArg (fun r => HL8_9b  r xs_m_0_0 xs_m_1_0 xs_m_2_0 (K (.exit 0) (selE 127 [(0, (.sl 0 (0 : Nat) (none : Option Nat) (none : Option Nat))), (9, (.sl 1 (0 : Nat) (none : Option Nat) (none : Option Nat))), (15, (.sl 2 (0 : Nat) (none : Option Nat) (none : Option Nat)))]) [⟨[.ints .u8 xs_m_0_0], 5, true, false⟩, ⟨[.ints .u8 xs_m_1_0], 5, false, true⟩, ⟨[.ints .u8 xs_m_2_0], 5, false, true⟩])) ?_
    exact ih xs_m_0_0 xs_m_1_0 xs_m_2_0
def GL8_9b : YL8_9b := fun x xs_m_0_0 xs_m_1_0 xs_m_2_0 k1 => x = XL8_9b ∧ ∃ n, RL8_9b  n xs_m_0_0 xs_m_1_0 xs_m_2_0 k1
def VL8_9b (l : YL8_9b) (F : Prop) (x : Code) (ρ : Env) (m : Mem) (K : Ex → Env → Mem → Prop) : Prop :=
  match ρ.has (127 - 1) with
  | true => (seeV (.sl 0 (0 : Nat) (none : Option Nat) (none : Option Nat)) (ρ.get 0) F (seeV (.sl 1 (0 : Nat) (none : Option Nat) (none : Option Nat)) (ρ.get 9) F (seeV .nils (ρ.get 10) F (seeV (.sl 2 (0 : Nat) (none : Option Nat) (none : Option Nat)) (ρ.get 15) F (seeV (.I .i64 (0 : Int)) (ρ.get 20) F (seeCons m F fun a6 q7 => (seeBlk 5 true false a6 F fun cs8 => (seeCons cs8 F fun a9 q10 => (seeInts .u8 a9 F fun xs_m_0_0 => (seeNil q10 F (seeCons q7 F fun a11 q12 => (seeBlk 5 false true a11 F fun cs13 => (seeCons cs13 F fun a14 q15 => (seeInts .u8 a14 F fun xs_m_1_0 => (seeNil q15 F (seeCons q12 F fun a16 q17 => (seeBlk 5 false true a16 F fun cs18 => (seeCons cs18 F fun a19 q20 => (seeInts .u8 a19 F fun xs_m_2_0 => (seeNil q20 F (seeNil q17 F (l x xs_m_0_0 xs_m_1_0 xs_m_2_0 (K (.exit 0) (selE 127 [(0, (.sl 0 (0 : Nat) (none : Option Nat) (none : Option Nat))), (9, (.sl 1 (0 : Nat) (none : Option Nat) (none : Option Nat))), (15, (.sl 2 (0 : Nat) (none : Option Nat) (none : Option Nat)))]) [⟨[.ints .u8 xs_m_0_0], 5, true, false⟩, ⟨[.ints .u8 xs_m_1_0], 5, false, true⟩, ⟨[.ints .u8 xs_m_2_0], 5, false, true⟩])))))))))))))))))))))))
  | false => False
def WL8_9b (l : YL8_9b) (W : Masks) : Masks := fun r =>
  match Nat.beq r 9 with
  | true => some fun x ρ m K => VL8_9b l (match W r with | some lf => lf x ρ m K | none => False) x (tidyE 1 [0, 9, 10, 15, 20] ρ m) (tidyM 1 [0, 9, 10, 15, 20] ρ m) K
  | false => W r
set_option maxRecDepth 100000 in
theorem WL8_9b_ok {W : Masks} (hW : LoopsOk Try.prog 1 W) : LoopsOk Try.prog 1 (WL8_9b GL8_9b W) := by
  intro r lf h
  unfold WL8_9b at h
  split at h
  · cases h
    intro x E0 m0 w0 ds hS0 ha ρ m K E a w Q hS hρ hd h hQ
    have fb : (match W r with | some lf => lf x ρ m K | none => False) → (Code.loop x).wp Try.prog Q a w := fun h => by
      split at h
      · rename_i lf hlf
        exact hW r lf hlf x hS0 ha ρ m K E a w Q hS hρ hd h hQ
      · cases h
    obtain ⟨E2, hS2, hρ2⟩ := tidy_rel hS0 hS hρ [0, 9, 10, 15, 20]
    rw [ha] at hS2 hρ2
    unfold VL8_9b at h
    split at h
    · rename_i hlen
      replace h := seeV_use h
      rcases h with h | ⟨e1, h⟩
      · exact fb h
      replace h := seeV_use h
      rcases h with h | ⟨e2, h⟩
      · exact fb h
      replace h := seeV_use h
      rcases h with h | ⟨e3, h⟩
      · exact fb h
      replace h := seeV_use h
      rcases h with h | ⟨e4, h⟩
      · exact fb h
      replace h := seeV_use h
      rcases h with h | ⟨e5, h⟩
      · exact fb h
      replace h := seeCons_use h
      rcases h with h | ⟨a6, q7, eqm, h⟩
      · exact fb h
      replace h := seeBlk_use h
      rcases h with h | ⟨cs8, rfl, h⟩
      · exact fb h
      replace h := seeCons_use h
      rcases h with h | ⟨a9, q10, rfl, h⟩
      · exact fb h
      replace h := seeInts_use h
      rcases h with h | ⟨xs_m_0_0, rfl, h⟩
      · exact fb h
      replace h := seeNil_use h
      rcases h with h | ⟨rfl, h⟩
      · exact fb h
      replace h := seeCons_use h
      rcases h with h | ⟨a11, q12, rfl, h⟩
      · exact fb h
      replace h := seeBlk_use h
      rcases h with h | ⟨cs13, rfl, h⟩
      · exact fb h
      replace h := seeCons_use h
      rcases h with h | ⟨a14, q15, rfl, h⟩
      · exact fb h
      replace h := seeInts_use h
      rcases h with h | ⟨xs_m_1_0, rfl, h⟩
      · exact fb h
      replace h := seeNil_use h
      rcases h with h | ⟨rfl, h⟩
      · exact fb h
      replace h := seeCons_use h
      rcases h with h | ⟨a16, q17, rfl, h⟩
      · exact fb h
      replace h := seeBlk_use h
      rcases h with h | ⟨cs18, rfl, h⟩
      · exact fb h
      replace h := seeCons_use h
      rcases h with h | ⟨a19, q20, rfl, h⟩
      · exact fb h
      replace h := seeInts_use h
      rcases h with h | ⟨xs_m_2_0, rfl, h⟩
      · exact fb h
      replace h := seeNil_use h
      rcases h with h | ⟨rfl, h⟩
      · exact fb h
      replace h := seeNil_use h
      rcases h with h | ⟨rfl, h⟩
      · exact fb h
      obtain ⟨rfl, n, h⟩ := h
      exact loop_use named C0_ok (LoopsOk.none _ _) (RL8_9b_ok  K n _ _ _) h hS0 ha hlen ⟨e1, e2, e3, e4, e5, trivial⟩ (eqm ▸ hS2) hρ2 hd hQ
    · cases h
  · exact hW r lf h
abbrev YL8_13b : Type := Code → Int → List Int → List Int → List Int → (Prop) → Prop
set_option maxHeartbeats 4000000 in
set_option maxRecDepth 100000 in
def HL8_13b  (rec : Int → List Int → Prop) (i_21 : Int) (xs_m_0_0 : List Int) (xs_m_1_0 : List Int) (xs_m_2_0 : List Int) (k1 : Prop) : Prop :=
  (bif (decide (i_21 < ((((List.length xs_m_2_0) - (0 : Nat)) : Nat) : Int))) then (bif ((decide ((0 : Int) ≤ i_21)) && (decide (i_21 < ((((List.length xs_m_2_0) - (0 : Nat)) : Nat) : Int)))) then (bif ((decide ((0 : Int) ≤ i_21)) && (decide (i_21 < ((((List.length xs_m_2_0) - (0 : Nat)) : Nat) : Int)))) then (rec (IntKind.wrap .i64 (i_21 + (1 : Int))) (List.set xs_m_2_0 (Int.toNat i_21) (IntKind.wrap .u8 ((List.getD xs_m_2_0 (Int.toNat i_21) (0 : Int)) + (1 : Int))))) else False) else False) else (k1))
def RL8_13b  : Nat → Int → List Int → List Int → List Int → (Prop) → Prop
  | 0, _, _, _, _, _ => False
  | n + 1, i_21, xs_m_0_0, xs_m_1_0, xs_m_2_0, k1 => HL8_13b  (fun (i_21 : Int) (xs_m_2_0 : List Int) => RL8_13b  n i_21 xs_m_0_0 xs_m_1_0 xs_m_2_0 k1) i_21 xs_m_0_0 xs_m_1_0 xs_m_2_0 k1
noncomputable def XL8_13b : Code := sub [true, true, true, true, true, true, true, true, false, true, false, false] (bodyOf Try.prog 8)
theorem HL8_13b_ok  (n : Nat) (i_21 : Int) (xs_m_0_0 : List Int) (xs_m_1_0 : List Int) (xs_m_2_0 : List Int) (K : Ex → Env → Mem → Prop) : cround 1 [0, 9, 15, 21] [0, 9] (fun ρ m K => cexec Try.prog C0 (fun _ => none) 1 1000 XL8_13b ρ m K) (n + 1) (selE 127 [(0, (.sl 0 (0 : Nat) (none : Option Nat) (none : Option Nat))), (9, (.sl 1 (0 : Nat) (none : Option Nat) (none : Option Nat))), (15, (.sl 2 (0 : Nat) (none : Option Nat) (none : Option Nat))), (21, (.I .i64 i_21))]) [⟨[.ints .u8 xs_m_0_0], 5, true, false⟩, ⟨[.ints .u8 xs_m_1_0], 5, false, true⟩, ⟨[.ints .u8 xs_m_2_0], 5, false, true⟩] K =
    HL8_13b  (fun (i_21 : Int) (xs_m_2_0 : List Int) => cround 1 [0, 9, 15, 21] [0, 9] (fun ρ m K => cexec Try.prog C0 (fun _ => none) 1 1000 XL8_13b ρ m K) n (selE 127 [(0, (.sl 0 (0 : Nat) (none : Option Nat) (none : Option Nat))), (9, (.sl 1 (0 : Nat) (none : Option Nat) (none : Option Nat))), (15, (.sl 2 (0 : Nat) (none : Option Nat) (none : Option Nat))), (21, (.I .i64 i_21))]) [⟨[.ints .u8 xs_m_0_0], 5, true, false⟩, ⟨[.ints .u8 xs_m_1_0], 5, false, true⟩, ⟨[.ints .u8 xs_m_2_0], 5, false, true⟩] K) i_21 xs_m_0_0 xs_m_1_0 xs_m_2_0 (K (.exit 2) (selE 127 [(0, (.sl 0 (0 : Nat) (none : Option Nat) (none : Option Nat))), (9, (.sl 1 (0 : Nat) (none : Option Nat) (none : Option Nat)))]) [⟨[.ints .u8 xs_m_0_0], 5, true, false⟩, ⟨[.ints .u8 xs_m_1_0], 5, false, true⟩]) := by kernel_rfl
theorem RL8_13b_ok  (K : Ex → Env → Mem → Prop) : ∀ (n : Nat) (i_21 : Int) (xs_m_0_0 : List Int) (xs_m_1_0 : List Int) (xs_m_2_0 : List Int), cround 1 [0, 9, 15, 21] [0, 9] (fun ρ m K => cexec Try.prog C0 (fun _ => none) 1 1000 XL8_13b ρ m K) n (selE 127 [(0, (.sl 0 (0 : Nat) (none : Option Nat) (none : Option Nat))), (9, (.sl 1 (0 : Nat) (none : Option Nat) (none : Option Nat))), (15, (.sl 2 (0 : Nat) (none : Option Nat) (none : Option Nat))), (21, (.I .i64 i_21))]) [⟨[.ints .u8 xs_m_0_0], 5, true, false⟩, ⟨[.ints .u8 xs_m_1_0], 5, false, true⟩, ⟨[.ints .u8 xs_m_2_0], 5, false, true⟩] K = RL8_13b  n i_21 xs_m_0_0 xs_m_1_0 xs_m_2_0 (K (.exit 2) (selE 127 [(0, (.sl 0 (0 : Nat) (none : Option Nat) (none : Option Nat))), (9, (.sl 1 (0 : Nat) (none : Option Nat) (none : Option Nat)))]) [⟨[.ints .u8 xs_m_0_0], 5, true, false⟩, ⟨[.ints .u8 xs_m_1_0], 5, false, true⟩])
  | 0, i_21, xs_m_0_0, xs_m_1_0, xs_m_2_0 => rfl
  | n + 1, i_21, xs_m_0_0, xs_m_1_0, xs_m_2_0 => by
    have ih := RL8_13b_ok  K n
    rw [HL8_13b_ok  n i_21 xs_m_0_0 xs_m_1_0 xs_m_2_0 K]
    show HL8_13b  _ i_21 xs_m_0_0 xs_m_1_0 xs_m_2_0 (K (.exit 2) (selE 127 [(0, (.sl 0 (0 : Nat) (none : Option Nat) (none : Option Nat))), (9, (.sl 1 (0 : Nat) (none : Option Nat) (none : Option Nat)))]) [⟨[.ints .u8 xs_m_0_0], 5, true, false⟩, ⟨[.ints .u8 xs_m_1_0], 5, false, true⟩]) = HL8_13b  _ i_21 xs_m_0_0 xs_m_1_0 xs_m_2_0 (K (.exit 2) (selE 127 [(0, (.sl 0 (0 : Nat) (none : Option Nat) (none : Option Nat))), (9, (.sl 1 (0 : Nat) (none : Option Nat) (none : Option Nat)))]) [⟨[.ints .u8 xs_m_0_0], 5, true, false⟩, ⟨[.ints .u8 xs_m_1_0], 5, false, true⟩])
    refine congrArg (fun r => HL8_13b  r i_21 xs_m_0_0 xs_m_1_0 xs_m_2_0 (K (.exit 2) (selE 127 [(0, (.sl 0 (0 : Nat) (none : Option Nat) (none : Option Nat))), (9, (.sl 1 (0 : Nat) (none : Option Nat) (none : Option Nat)))]) [⟨[.ints .u8 xs_m_0_0], 5, true, false⟩, ⟨[.ints .u8 xs_m_1_0], 5, false, true⟩])) ?_
    funext i_21 xs_m_2_0
    exact ih i_21 xs_m_0_0 xs_m_1_0 xs_m_2_0
def GL8_13b : YL8_13b := fun x i_21 xs_m_0_0 xs_m_1_0 xs_m_2_0 k1 => x = XL8_13b ∧ ∃ n, RL8_13b  n i_21 xs_m_0_0 xs_m_1_0 xs_m_2_0 k1
def VL8_13b (l : YL8_13b) (F : Prop) (x : Code) (ρ : Env) (m : Mem) (K : Ex → Env → Mem → Prop) : Prop :=
  match ρ.has (127 - 1) with
  | true => (seeV (.sl 0 (0 : Nat) (none : Option Nat) (none : Option Nat)) (ρ.get 0) F (seeV (.sl 1 (0 : Nat) (none : Option Nat) (none : Option Nat)) (ρ.get 9) F (seeV (.sl 2 (0 : Nat) (none : Option Nat) (none : Option Nat)) (ρ.get 15) F (seeI .i64 (ρ.get 21) F fun i_21 => (seeCons m F fun a5 q6 => (seeBlk 5 true false a5 F fun cs7 => (seeCons cs7 F fun a8 q9 => (seeInts .u8 a8 F fun xs_m_0_0 => (seeNil q9 F (seeCons q6 F fun a10 q11 => (seeBlk 5 false true a10 F fun cs12 => (seeCons cs12 F fun a13 q14 => (seeInts .u8 a13 F fun xs_m_1_0 => (seeNil q14 F (seeCons q11 F fun a15 q16 => (seeBlk 5 false true a15 F fun cs17 => (seeCons cs17 F fun a18 q19 => (seeInts .u8 a18 F fun xs_m_2_0 => (seeNil q19 F (seeNil q16 F (l x i_21 xs_m_0_0 xs_m_1_0 xs_m_2_0 (K (.exit 2) (selE 127 [(0, (.sl 0 (0 : Nat) (none : Option Nat) (none : Option Nat))), (9, (.sl 1 (0 : Nat) (none : Option Nat) (none : Option Nat)))]) [⟨[.ints .u8 xs_m_0_0], 5, true, false⟩, ⟨[.ints .u8 xs_m_1_0], 5, false, true⟩]))))))))))))))))))))))
  | false => False
def WL8_13b (l : YL8_13b) (W : Masks) : Masks := fun r =>
  match Nat.beq r 13 with
  | true => some fun x ρ m K => VL8_13b l (match W r with | some lf => lf x ρ m K | none => False) x (tidyE 1 [0, 9, 15, 21] ρ m) (tidyM 1 [0, 9, 15, 21] ρ m) K
  | false => W r
set_option maxRecDepth 100000 in
theorem WL8_13b_ok {W : Masks} (hW : LoopsOk Try.prog 1 W) : LoopsOk Try.prog 1 (WL8_13b GL8_13b W) := by
  intro r lf h
  unfold WL8_13b at h
  split at h
  · cases h
    intro x E0 m0 w0 ds hS0 ha ρ m K E a w Q hS hρ hd h hQ
    have fb : (match W r with | some lf => lf x ρ m K | none => False) → (Code.loop x).wp Try.prog Q a w := fun h => by
      split at h
      · rename_i lf hlf
        exact hW r lf hlf x hS0 ha ρ m K E a w Q hS hρ hd h hQ
      · cases h
    obtain ⟨E2, hS2, hρ2⟩ := tidy_rel hS0 hS hρ [0, 9, 15, 21]
    rw [ha] at hS2 hρ2
    unfold VL8_13b at h
    split at h
    · rename_i hlen
      replace h := seeV_use h
      rcases h with h | ⟨e1, h⟩
      · exact fb h
      replace h := seeV_use h
      rcases h with h | ⟨e2, h⟩
      · exact fb h
      replace h := seeV_use h
      rcases h with h | ⟨e3, h⟩
      · exact fb h
      replace h := seeI_use h
      rcases h with h | ⟨i_21, e4, h⟩
      · exact fb h
      replace h := seeCons_use h
      rcases h with h | ⟨a5, q6, eqm, h⟩
      · exact fb h
      replace h := seeBlk_use h
      rcases h with h | ⟨cs7, rfl, h⟩
      · exact fb h
      replace h := seeCons_use h
      rcases h with h | ⟨a8, q9, rfl, h⟩
      · exact fb h
      replace h := seeInts_use h
      rcases h with h | ⟨xs_m_0_0, rfl, h⟩
      · exact fb h
      replace h := seeNil_use h
      rcases h with h | ⟨rfl, h⟩
      · exact fb h
      replace h := seeCons_use h
      rcases h with h | ⟨a10, q11, rfl, h⟩
      · exact fb h
      replace h := seeBlk_use h
      rcases h with h | ⟨cs12, rfl, h⟩
      · exact fb h
      replace h := seeCons_use h
      rcases h with h | ⟨a13, q14, rfl, h⟩
      · exact fb h
      replace h := seeInts_use h
      rcases h with h | ⟨xs_m_1_0, rfl, h⟩
      · exact fb h
      replace h := seeNil_use h
      rcases h with h | ⟨rfl, h⟩
      · exact fb h
      replace h := seeCons_use h
      rcases h with h | ⟨a15, q16, rfl, h⟩
      · exact fb h
      replace h := seeBlk_use h
      rcases h with h | ⟨cs17, rfl, h⟩
      · exact fb h
      replace h := seeCons_use h
      rcases h with h | ⟨a18, q19, rfl, h⟩
      · exact fb h
      replace h := seeInts_use h
      rcases h with h | ⟨xs_m_2_0, rfl, h⟩
      · exact fb h
      replace h := seeNil_use h
      rcases h with h | ⟨rfl, h⟩
      · exact fb h
      replace h := seeNil_use h
      rcases h with h | ⟨rfl, h⟩
      · exact fb h
      obtain ⟨rfl, n, h⟩ := h
      exact loop_use named C0_ok (LoopsOk.none _ _) (RL8_13b_ok  K n _ _ _ _) h hS0 ha hlen ⟨e1, e2, e3, e4, trivial⟩ (eqm ▸ hS2) hρ2 hd hQ
    · cases h
  · exact hW r lf h
abbrev YL8_9c : Type := Code → Int → List Int → List Int → List Int → (Prop) → Prop
set_option maxHeartbeats 4000000 in
set_option maxRecDepth 100000 in
def HL8_9c  (rec : Int → List Int → Prop) (i_20 : Int) (xs_m_0_0 : List Int) (xs_m_1_0 : List Int) (xs_m_2_0 : List Int) (k1 : Prop) : Prop :=
  (bif (decide (i_20 < ((((List.length xs_m_2_0) - (0 : Nat)) : Nat) : Int))) then (bif ((decide ((0 : Int) ≤ i_20)) && (decide (i_20 < ((((List.length xs_m_2_0) - (0 : Nat)) : Nat) : Int)))) then (bif ((decide ((0 : Int) ≤ i_20)) && (decide (i_20 < ((((List.length xs_m_2_0) - (0 : Nat)) : Nat) : Int)))) then (rec (IntKind.wrap .i64 (i_20 + (1 : Int))) (List.set xs_m_2_0 (Int.toNat i_20) (IntKind.wrap .u8 ((List.getD xs_m_2_0 (Int.toNat i_20) (0 : Int)) + (1 : Int))))) else False) else False) else (k1))
def RL8_9c  : Nat → Int → List Int → List Int → List Int → (Prop) → Prop
  | 0, _, _, _, _, _ => False
  | n + 1, i_20, xs_m_0_0, xs_m_1_0, xs_m_2_0, k1 => HL8_9c  (fun (i_20 : Int) (xs_m_2_0 : List Int) => RL8_9c  n i_20 xs_m_0_0 xs_m_1_0 xs_m_2_0 k1) i_20 xs_m_0_0 xs_m_1_0 xs_m_2_0 k1
noncomputable def XL8_9c : Code := sub [true, true, true, true, true, true, true, false, true, false, false] (bodyOf Try.prog 8)
theorem HL8_9c_ok  (n : Nat) (i_20 : Int) (xs_m_0_0 : List Int) (xs_m_1_0 : List Int) (xs_m_2_0 : List Int) (K : Ex → Env → Mem → Prop) : cround 1 [0, 9, 10, 15, 20] [0, 9, 15] (fun ρ m K => cexec Try.prog C0 (fun _ => none) 1 1000 XL8_9c ρ m K) (n + 1) (selE 127 [(0, (.sl 0 (0 : Nat) (none : Option Nat) (none : Option Nat))), (9, (.sl 1 (0 : Nat) (none : Option Nat) (none : Option Nat))), (10, (.sl 2 (0 : Nat) (none : Option Nat) (none : Option Nat))), (15, .nils), (20, (.I .i64 i_20))]) [⟨[.ints .u8 xs_m_0_0], 5, true, false⟩, ⟨[.ints .u8 xs_m_1_0], 5, false, true⟩, ⟨[.ints .u8 xs_m_2_0], 5, false, true⟩] K =
    HL8_9c  (fun (i_20 : Int) (xs_m_2_0 : List Int) => cround 1 [0, 9, 10, 15, 20] [0, 9, 15] (fun ρ m K => cexec Try.prog C0 (fun _ => none) 1 1000 XL8_9c ρ m K) n (selE 127 [(0, (.sl 0 (0 : Nat) (none : Option Nat) (none : Option Nat))), (9, (.sl 1 (0 : Nat) (none : Option Nat) (none : Option Nat))), (10, (.sl 2 (0 : Nat) (none : Option Nat) (none : Option Nat))), (15, .nils), (20, (.I .i64 i_20))]) [⟨[.ints .u8 xs_m_0_0], 5, true, false⟩, ⟨[.ints .u8 xs_m_1_0], 5, false, true⟩, ⟨[.ints .u8 xs_m_2_0], 5, false, true⟩] K) i_20 xs_m_0_0 xs_m_1_0 xs_m_2_0 (K (.exit 0) (selE 127 [(0, (.sl 0 (0 : Nat) (none : Option Nat) (none : Option Nat))), (9, (.sl 1 (0 : Nat) (none : Option Nat) (none : Option Nat))), (15, .nils)]) [⟨[.ints .u8 xs_m_0_0], 5, true, false⟩, ⟨[.ints .u8 xs_m_1_0], 5, false, true⟩]) := by kernel_rfl
theorem RL8_9c_ok  (K : Ex → Env → Mem → Prop) : ∀ (n : Nat) (i_20 : Int) (xs_m_0_0 : List Int) (xs_m_1_0 : List Int) (xs_m_2_0 : List Int), cround 1 [0, 9, 10, 15, 20] [0, 9, 15] (fun ρ m K => cexec Try.prog C0 (fun _ => none) 1 1000 XL8_9c ρ m K) n (selE 127 [(0, (.sl 0 (0 : Nat) (none : Option Nat) (none : Option Nat))), (9, (.sl 1 (0 : Nat) (none : Option Nat) (none : Option Nat))), (10, (.sl 2 (0 : Nat) (none : Option Nat) (none : Option Nat))), (15, .nils), (20, (.I .i64 i_20))]) [⟨[.ints .u8 xs_m_0_0], 5, true, false⟩, ⟨[.ints .u8 xs_m_1_0], 5, false, true⟩, ⟨[.ints .u8 xs_m_2_0], 5, false, true⟩] K = RL8_9c  n i_20 xs_m_0_0 xs_m_1_0 xs_m_2_0 (K (.exit 0) (selE 127 [(0, (.sl 0 (0 : Nat) (none : Option Nat) (none : Option Nat))), (9, (.sl 1 (0 : Nat) (none : Option Nat) (none : Option Nat))), (15, .nils)]) [⟨[.ints .u8 xs_m_0_0], 5, true, false⟩, ⟨[.ints .u8 xs_m_1_0], 5, false, true⟩])
  | 0, i_20, xs_m_0_0, xs_m_1_0, xs_m_2_0 => rfl
  | n + 1, i_20, xs_m_0_0, xs_m_1_0, xs_m_2_0 => by
    have ih := RL8_9c_ok  K n
    rw [HL8_9c_ok  n i_20 xs_m_0_0 xs_m_1_0 xs_m_2_0 K]
    show HL8_9c  _ i_20 xs_m_0_0 xs_m_1_0 xs_m_2_0 (K (.exit 0) (selE 127 [(0, (.sl 0 (0 : Nat) (none : Option Nat) (none : Option Nat))), (9, (.sl 1 (0 : Nat) (none : Option Nat) (none : Option Nat))), (15, .nils)]) [⟨[.ints .u8 xs_m_0_0], 5, true, false⟩, ⟨[.ints .u8 xs_m_1_0], 5, false, true⟩]) = HL8_9c  _ i_20 xs_m_0_0 xs_m_1_0 xs_m_2_0 (K (.exit 0) (selE 127 [(0, (.sl 0 (0 : Nat) (none : Option Nat) (none : Option Nat))), (9, (.sl 1 (0 : Nat) (none : Option Nat) (none : Option Nat))), (15, .nils)]) [⟨[.ints .u8 xs_m_0_0], 5, true, false⟩, ⟨[.ints .u8 xs_m_1_0], 5, false, true⟩])
    refine congrArg (fun r => HL8_9c  r i_20 xs_m_0_0 xs_m_1_0 xs_m_2_0 (K (.exit 0) (selE 127 [(0, (.sl 0 (0 : Nat) (none : Option Nat) (none : Option Nat))), (9, (.sl 1 (0 : Nat) (none : Option Nat) (none : Option Nat))), (15, .nils)]) [⟨[.ints .u8 xs_m_0_0], 5, true, false⟩, ⟨[.ints .u8 xs_m_1_0], 5, false, true⟩])) ?_
    funext i_20 xs_m_2_0
    exact ih i_20 xs_m_0_0 xs_m_1_0 xs_m_2_0
def GL8_9c : YL8_9c := fun x i_20 xs_m_0_0 xs_m_1_0 xs_m_2_0 k1 => x = XL8_9c ∧ ∃ n, RL8_9c  n i_20 xs_m_0_0 xs_m_1_0 xs_m_2_0 k1
def VL8_9c (l : YL8_9c) (F : Prop) (x : Code) (ρ : Env) (m : Mem) (K : Ex → Env → Mem → Prop) : Prop :=
  match ρ.has (127 - 1) with
  | true => (seeV (.sl 0 (0 : Nat) (none : Option Nat) (none : Option Nat)) (ρ.get 0) F (seeV (.sl 1 (0 : Nat) (none : Option Nat) (none : Option Nat)) (ρ.get 9) F (seeV (.sl 2 (0 : Nat) (none : Option Nat) (none : Option Nat)) (ρ.get 10) F (seeV .nils (ρ.get 15) F (seeI .i64 (ρ.get 20) F fun i_20 => (seeCons m F fun a6 q7 => (seeBlk 5 true false a6 F fun cs8 => (seeCons cs8 F fun a9 q10 => (seeInts .u8 a9 F fun xs_m_0_0 => (seeNil q10 F (seeCons q7 F fun a11 q12 => (seeBlk 5 false true a11 F fun cs13 => (seeCons cs13 F fun a14 q15 => (seeInts .u8 a14 F fun xs_m_1_0 => (seeNil q15 F (seeCons q12 F fun a16 q17 => (seeBlk 5 false true a16 F fun cs18 => (seeCons cs18 F fun a19 q20 => (seeInts .u8 a19 F fun xs_m_2_0 => (seeNil q20 F (seeNil q17 F (l x i_20 xs_m_0_0 xs_m_1_0 xs_m_2_0 (K (.exit 0) (selE 127 [(0, (.sl 0 (0 : Nat) (none : Option Nat) (none : Option Nat))), (9, (.sl 1 (0 : Nat) (none : Option Nat) (none : Option Nat))), (15, .nils)]) [⟨[.ints .u8 xs_m_0_0], 5, true, false⟩, ⟨[.ints .u8 xs_m_1_0], 5, false, true⟩])))))))))))))))))))))))
  | false => False
def WL8_9c (l : YL8_9c) (W : Masks) : Masks := fun r =>
  match Nat.beq r 9 with
  | true => some fun x ρ m K => VL8_9c l (match W r with | some lf => lf x ρ m K | none => False) x (tidyE 1 [0, 9, 10, 15, 20] ρ m) (tidyM 1 [0, 9, 10, 15, 20] ρ m) K
  | false => W r
set_option maxRecDepth 100000 in
theorem WL8_9c_ok {W : Masks} (hW : LoopsOk Try.prog 1 W) : LoopsOk Try.prog 1 (WL8_9c GL8_9c W) := by
  intro r lf h
  unfold WL8_9c at h
  split at h
  · cases h
    intro x E0 m0 w0 ds hS0 ha ρ m K E a w Q hS hρ hd h hQ
    have fb : (match W r with | some lf => lf x ρ m K | none => False) → (Code.loop x).wp Try.prog Q a w := fun h => by
      split at h
      · rename_i lf hlf
        exact hW r lf hlf x hS0 ha ρ m K E a w Q hS hρ hd h hQ
      · cases h
    obtain ⟨E2, hS2, hρ2⟩ := tidy_rel hS0 hS hρ [0, 9, 10, 15, 20]
    rw [ha] at hS2 hρ2
    unfold VL8_9c at h
    split at h
    · rename_i hlen
      replace h := seeV_use h
      rcases h with h | ⟨e1, h⟩
      · exact fb h
      replace h := seeV_use h
      rcases h with h | ⟨e2, h⟩
      · exact fb h
      replace h := seeV_use h
      rcases h with h | ⟨e3, h⟩
      · exact fb h
      replace h := seeV_use h
      rcases h with h | ⟨e4, h⟩
      · exact fb h
      replace h := seeI_use h
      rcases h with h | ⟨i_20, e5, h⟩
      · exact fb h
      replace h := seeCons_use h
      rcases h with h | ⟨a6, q7, eqm, h⟩
      · exact fb h
      replace h := seeBlk_use h
      rcases h with h | ⟨cs8, rfl, h⟩
      · exact fb h
      replace h := seeCons_use h
      rcases h with h | ⟨a9, q10, rfl, h⟩
      · exact fb h
      replace h := seeInts_use h
      rcases h with h | ⟨xs_m_0_0, rfl, h⟩
      · exact fb h
      replace h := seeNil_use h
      rcases h with h | ⟨rfl, h⟩
      · exact fb h
      replace h := seeCons_use h
      rcases h with h | ⟨a11, q12, rfl, h⟩
      · exact fb h
      replace h := seeBlk_use h
      rcases h with h | ⟨cs13, rfl, h⟩
      · exact fb h
      replace h := seeCons_use h
      rcases h with h | ⟨a14, q15, rfl, h⟩
      · exact fb h
      replace h := seeInts_use h
      rcases h with h | ⟨xs_m_1_0, rfl, h⟩
      · exact fb h
      replace h := seeNil_use h
      rcases h with h | ⟨rfl, h⟩
      · exact fb h
      replace h := seeCons_use h
      rcases h with h | ⟨a16, q17, rfl, h⟩
      · exact fb h
      replace h := seeBlk_use h
      rcases h with h | ⟨cs18, rfl, h⟩
      · exact fb h
      replace h := seeCons_use h
      rcases h with h | ⟨a19, q20, rfl, h⟩
      · exact fb h
      replace h := seeInts_use h
      rcases h with h | ⟨xs_m_2_0, rfl, h⟩
      · exact fb h
      replace h := seeNil_use h
      rcases h with h | ⟨rfl, h⟩
      · exact fb h
      replace h := seeNil_use h
      rcases h with h | ⟨rfl, h⟩
      · exact fb h
      obtain ⟨rfl, n, h⟩ := h
      exact loop_use named C0_ok (LoopsOk.none _ _) (RL8_9c_ok  K n _ _ _ _) h hS0 ha hlen ⟨e1, e2, e3, e4, e5, trivial⟩ (eqm ▸ hS2) hρ2 hd hQ
    · cases h
  · exact hW r lf h
abbrev YL8_9d : Type := Code → Int → List Int → List Int → List Int → List Int → (Prop) → Prop
set_option maxHeartbeats 4000000 in
set_option maxRecDepth 100000 in
def HL8_9d  (rec : Int → List Int → Prop) (i_20 : Int) (xs_m_0_0 : List Int) (xs_m_1_0 : List Int) (xs_m_2_0 : List Int) (xs_m_3_0 : List Int) (k1 : Prop) : Prop :=
  (bif (decide (i_20 < ((((List.length xs_m_2_0) - (0 : Nat)) : Nat) : Int))) then (bif ((decide ((0 : Int) ≤ i_20)) && (decide (i_20 < ((((List.length xs_m_2_0) - (0 : Nat)) : Nat) : Int)))) then (bif ((decide ((0 : Int) ≤ i_20)) && (decide (i_20 < ((((List.length xs_m_2_0) - (0 : Nat)) : Nat) : Int)))) then (rec (IntKind.wrap .i64 (i_20 + (1 : Int))) (List.set xs_m_2_0 (Int.toNat i_20) (IntKind.wrap .u8 ((List.getD xs_m_2_0 (Int.toNat i_20) (0 : Int)) + (1 : Int))))) else False) else False) else (k1))
def RL8_9d  : Nat → Int → List Int → List Int → List Int → List Int → (Prop) → Prop
  | 0, _, _, _, _, _, _ => False
  | n + 1, i_20, xs_m_0_0, xs_m_1_0, xs_m_2_0, xs_m_3_0, k1 => HL8_9d  (fun (i_20 : Int) (xs_m_2_0 : List Int) => RL8_9d  n i_20 xs_m_0_0 xs_m_1_0 xs_m_2_0 xs_m_3_0 k1) i_20 xs_m_0_0 xs_m_1_0 xs_m_2_0 xs_m_3_0 k1
noncomputable def XL8_9d : Code := sub [true, true, true, true, true, true, true, false, true, false, false] (bodyOf Try.prog 8)
theorem HL8_9d_ok  (n : Nat) (i_20 : Int) (xs_m_0_0 : List Int) (xs_m_1_0 : List Int) (xs_m_2_0 : List Int) (xs_m_3_0 : List Int) (K : Ex → Env → Mem → Prop) : cround 1 [0, 9, 10, 15, 20] [0, 9, 15] (fun ρ m K => cexec Try.prog C0 (fun _ => none) 1 1000 XL8_9d ρ m K) (n + 1) (selE 127 [(0, (.sl 0 (0 : Nat) (none : Option Nat) (none : Option Nat))), (9, (.sl 1 (0 : Nat) (none : Option Nat) (none : Option Nat))), (10, (.sl 2 (0 : Nat) (none : Option Nat) (none : Option Nat))), (15, (.sl 3 (0 : Nat) (none : Option Nat) (none : Option Nat))), (20, (.I .i64 i_20))]) [⟨[.ints .u8 xs_m_0_0], 5, true, false⟩, ⟨[.ints .u8 xs_m_1_0], 5, false, true⟩, ⟨[.ints .u8 xs_m_2_0], 5, false, true⟩, ⟨[.ints .u8 xs_m_3_0], 5, false, true⟩] K =
    HL8_9d  (fun (i_20 : Int) (xs_m_2_0 : List Int) => cround 1 [0, 9, 10, 15, 20] [0, 9, 15] (fun ρ m K => cexec Try.prog C0 (fun _ => none) 1 1000 XL8_9d ρ m K) n (selE 127 [(0, (.sl 0 (0 : Nat) (none : Option Nat) (none : Option Nat))), (9, (.sl 1 (0 : Nat) (none : Option Nat) (none : Option Nat))), (10, (.sl 2 (0 : Nat) (none : Option Nat) (none : Option Nat))), (15, (.sl 3 (0 : Nat) (none : Option Nat) (none : Option Nat))), (20, (.I .i64 i_20))]) [⟨[.ints .u8 xs_m_0_0], 5, true, false⟩, ⟨[.ints .u8 xs_m_1_0], 5, false, true⟩, ⟨[.ints .u8 xs_m_2_0], 5, false, true⟩, ⟨[.ints .u8 xs_m_3_0], 5, false, true⟩] K) i_20 xs_m_0_0 xs_m_1_0 xs_m_2_0 xs_m_3_0 (K (.exit 0) (selE 127 [(0, (.sl 0 (0 : Nat) (none : Option Nat) (none : Option Nat))), (9, (.sl 1 (0 : Nat) (none : Option Nat) (none : Option Nat))), (15, (.sl 2 (0 : Nat) (none : Option Nat) (none : Option Nat)))]) [⟨[.ints .u8 xs_m_0_0], 5, true, false⟩, ⟨[.ints .u8 xs_m_1_0], 5, false, true⟩, ⟨[.ints .u8 xs_m_3_0], 5, false, true⟩]) := by kernel_rfl
theorem RL8_9d_ok  (K : Ex → Env → Mem → Prop) : ∀ (n : Nat) (i_20 : Int) (xs_m_0_0 : List Int) (xs_m_1_0 : List Int) (xs_m_2_0 : List Int) (xs_m_3_0 : List Int), cround 1 [0, 9, 10, 15, 20] [0, 9, 15] (fun ρ m K => cexec Try.prog C0 (fun _ => none) 1 1000 XL8_9d ρ m K) n (selE 127 [(0, (.sl 0 (0 : Nat) (none : Option Nat) (none : Option Nat))), (9, (.sl 1 (0 : Nat) (none : Option Nat) (none : Option Nat))), (10, (.sl 2 (0 : Nat) (none : Option Nat) (none : Option Nat))), (15, (.sl 3 (0 : Nat) (none : Option Nat) (none : Option Nat))), (20, (.I .i64 i_20))]) [⟨[.ints .u8 xs_m_0_0], 5, true, false⟩, ⟨[.ints .u8 xs_m_1_0], 5, false, true⟩, ⟨[.ints .u8 xs_m_2_0], 5, false, true⟩, ⟨[.ints .u8 xs_m_3_0], 5, false, true⟩] K = RL8_9d  n i_20 xs_m_0_0 xs_m_1_0 xs_m_2_0 xs_m_3_0 (K (.exit 0) (selE 127 [(0, (.sl 0 (0 : Nat) (none : Option Nat) (none : Option Nat))), (9, (.sl 1 (0 : Nat) (none : Option Nat) (none : Option Nat))), (15, (.sl 2 (0 : Nat) (none : Option Nat) (none : Option Nat)))]) [⟨[.ints .u8 xs_m_0_0], 5, true, false⟩, ⟨[.ints .u8 xs_m_1_0], 5, false, true⟩, ⟨[.ints .u8 xs_m_3_0], 5, false, true⟩])
  | 0, i_20, xs_m_0_0, xs_m_1_0, xs_m_2_0, xs_m_3_0 => rfl
  | n + 1, i_20, xs_m_0_0, xs_m_1_0, xs_m_2_0, xs_m_3_0 => by
    have ih := RL8_9d_ok  K n
    rw [HL8_9d_ok  n i_20 xs_m_0_0 xs_m_1_0 xs_m_2_0 xs_m_3_0 K]
    show HL8_9d  _ i_20 xs_m_0_0 xs_m_1_0 xs_m_2_0 xs_m_3_0 (K (.exit 0) (selE 127 [(0, (.sl 0 (0 : Nat) (none : Option Nat) (none : Option Nat))), (9, (.sl 1 (0 : Nat) (none : Option Nat) (none : Option Nat))), (15, (.sl 2 (0 : Nat) (none : Option Nat) (none : Option Nat)))]) [⟨[.ints .u8 xs_m_0_0], 5, true, false⟩, ⟨[.ints .u8 xs_m_1_0], 5, false, true⟩, ⟨[.ints .u8 xs_m_3_0], 5, false, true⟩]) = HL8_9d  _ i_20 xs_m_0_0 xs_m_1_0 xs_m_2_0 xs_m_3_0 (K (.exit 0) (selE 127 [(0, (.sl 0 (0 : Nat) (none : Option Nat) (none : Option Nat))), (9, (.sl 1 (0 : Nat) (none : Option Nat) (none : Option Nat))), (15, (.sl 2 (0 : Nat) (none : Option Nat) (none : Option Nat)))]) [⟨[.ints .u8 xs_m_0_0], 5, true, false⟩, ⟨[.ints .u8 xs_m_1_0], 5, false, true⟩, ⟨[.ints .u8 xs_m_3_0], 5, false, true⟩])
    refine congrArg (fun r => HL8_9d  r i_20 xs_m_0_0 xs_m_1_0 xs_m_2_0 xs_m_3_0 (K (.exit 0) (selE 127 [(0, (.sl 0 (0 : Nat) (none : Option Nat) (none : Option Nat))), (9, (.sl 1 (0 : Nat) (none : Option Nat) (none : Option Nat))), (15, (.sl 2 (0 : Nat) (none : Option Nat) (none : Option Nat)))]) [⟨[.ints .u8 xs_m_0_0], 5, true, false⟩, ⟨[.ints .u8 xs_m_1_0], 5, false, true⟩, ⟨[.ints .u8 xs_m_3_0], 5, false, true⟩])) ?_
    funext i_20 xs_m_2_0
    exact ih i_20 xs_m_0_0 xs_m_1_0 xs_m_2_0 xs_m_3_0
def GL8_9d : YL8_9d := fun x i_20 xs_m_0_0 xs_m_1_0 xs_m_2_0 xs_m_3_0 k1 => x = XL8_9d ∧ ∃ n, RL8_9d  n i_20 xs_m_0_0 xs_m_1_0 xs_m_2_0 xs_m_3_0 k1
def VL8_9d (l : YL8_9d) (F : Prop) (x : Code) (ρ : Env) (m : Mem) (K : Ex → Env → Mem → Prop) : Prop :=
  match ρ.has (127 - 1) with
  | true => (seeV (.sl 0 (0 : Nat) (none : Option Nat) (none : Option Nat)) (ρ.get 0) F (seeV (.sl 1 (0 : Nat) (none : Option Nat) (none : Option Nat)) (ρ.get 9) F (seeV (.sl 2 (0 : Nat) (none : Option Nat) (none : Option Nat)) (ρ.get 10) F (seeV (.sl 3 (0 : Nat) (none : Option Nat) (none : Option Nat)) (ρ.get 15) F (seeI .i64 (ρ.get 20) F fun i_20 => (seeCons m F fun a6 q7 => (seeBlk 5 true false a6 F fun cs8 => (seeCons cs8 F fun a9 q10 => (seeInts .u8 a9 F fun xs_m_0_0 => (seeNil q10 F (seeCons q7 F fun a11 q12 => (seeBlk 5 false true a11 F fun cs13 => (seeCons cs13 F fun a14 q15 => (seeInts .u8 a14 F fun xs_m_1_0 => (seeNil q15 F (seeCons q12 F fun a16 q17 => (seeBlk 5 false true a16 F fun cs18 => (seeCons cs18 F fun a19 q20 => (seeInts .u8 a19 F fun xs_m_2_0 => (seeNil q20 F (seeCons q17 F fun a21 q22 => (seeBlk 5 false true a21 F fun cs23 => (seeCons cs23 F fun a24 q25 => (seeInts .u8 a24 F fun xs_m_3_0 => (seeNil q25 F (seeNil q22 F (l x i_20 xs_m_0_0 xs_m_1_0 xs_m_2_0 xs_m_3_0 (K (.exit 0) (selE 127 [(0, (.sl 0 (0 : Nat) (none : Option Nat) (none : Option Nat))), (9, (.sl 1 (0 : Nat) (none : Option Nat) (none : Option Nat))), (15, (.sl 2 (0 : Nat) (none : Option Nat) (none : Option Nat)))]) [⟨[.ints .u8 xs_m_0_0], 5, true, false⟩, ⟨[.ints .u8 xs_m_1_0], 5, false, true⟩, ⟨[.ints .u8 xs_m_3_0], 5, false, true⟩]))))))))))))))))))))))))))))
  | false => False
def WL8_9d (l : YL8_9d) (W : Masks) : Masks := fun r =>
  match Nat.beq r 9 with
  | true => some fun x ρ m K => VL8_9d l (match W r with | some lf => lf x ρ m K | none => False) x (tidyE 1 [0, 9, 10, 15, 20] ρ m) (tidyM 1 [0, 9, 10, 15, 20] ρ m) K
  | false => W r
set_option maxRecDepth 100000 in
theorem WL8_9d_ok {W : Masks} (hW : LoopsOk Try.prog 1 W) : LoopsOk Try.prog 1 (WL8_9d GL8_9d W) := by
  intro r lf h
  unfold WL8_9d at h
  split at h
  · cases h
    intro x E0 m0 w0 ds hS0 ha ρ m K E a w Q hS hρ hd h hQ
    have fb : (match W r with | some lf => lf x ρ m K | none => False) → (Code.loop x).wp Try.prog Q a w := fun h => by
      split at h
      · rename_i lf hlf
        exact hW r lf hlf x hS0 ha ρ m K E a w Q hS hρ hd h hQ
      · cases h
    obtain ⟨E2, hS2, hρ2⟩ := tidy_rel hS0 hS hρ [0, 9, 10, 15, 20]
    rw [ha] at hS2 hρ2
    unfold VL8_9d at h
    split at h
    · rename_i hlen
      replace h := seeV_use h
      rcases h with h | ⟨e1, h⟩
      · exact fb h
      replace h := seeV_use h
      rcases h with h | ⟨e2, h⟩
      · exact fb h
      replace h := seeV_use h
      rcases h with h | ⟨e3, h⟩
      · exact fb h
      replace h := seeV_use h
      rcases h with h | ⟨e4, h⟩
      · exact fb h
      replace h := seeI_use h
      rcases h with h | ⟨i_20, e5, h⟩
      · exact fb h
      replace h := seeCons_use h
      rcases h with h | ⟨a6, q7, eqm, h⟩
      · exact fb h
      replace h := seeBlk_use h
      rcases h with h | ⟨cs8, rfl, h⟩
      · exact fb h
      replace h := seeCons_use h
      rcases h with h | ⟨a9, q10, rfl, h⟩
      · exact fb h
      replace h := seeInts_use h
      rcases h with h | ⟨xs_m_0_0, rfl, h⟩
      · exact fb h
      replace h := seeNil_use h
      rcases h with h | ⟨rfl, h⟩
      · exact fb h
      replace h := seeCons_use h
      rcases h with h | ⟨a11, q12, rfl, h⟩
      · exact fb h
      replace h := seeBlk_use h
      rcases h with h | ⟨cs13, rfl, h⟩
      · exact fb h
      replace h := seeCons_use h
      rcases h with h | ⟨a14, q15, rfl, h⟩
      · exact fb h
      replace h := seeInts_use h
      rcases h with h | ⟨xs_m_1_0, rfl, h⟩
      · exact fb h
      replace h := seeNil_use h
      rcases h with h | ⟨rfl, h⟩
      · exact fb h
      replace h := seeCons_use h
      rcases h with h | ⟨a16, q17, rfl, h⟩
      · exact fb h
      replace h := seeBlk_use h
      rcases h with h | ⟨cs18, rfl, h⟩
      · exact fb h
      replace h := seeCons_use h
      rcases h with h | ⟨a19, q20, rfl, h⟩
      · exact fb h
      replace h := seeInts_use h
      rcases h with h | ⟨xs_m_2_0, rfl, h⟩
      · exact fb h
      replace h := seeNil_use h
      rcases h with h | ⟨rfl, h⟩
      · exact fb h
      replace h := seeCons_use h
      rcases h with h | ⟨a21, q22, rfl, h⟩
      · exact fb h
      replace h := seeBlk_use h
      rcases h with h | ⟨cs23, rfl, h⟩
      · exact fb h
      replace h := seeCons_use h
      rcases h with h | ⟨a24, q25, rfl, h⟩
      · exact fb h
      replace h := seeInts_use h
      rcases h with h | ⟨xs_m_3_0, rfl, h⟩
      · exact fb h
      replace h := seeNil_use h
      rcases h with h | ⟨rfl, h⟩
      · exact fb h
      replace h := seeNil_use h
      rcases h with h | ⟨rfl, h⟩
      · exact fb h
      obtain ⟨rfl, n, h⟩ := h
      exact loop_use named C0_ok (LoopsOk.none _ _) (RL8_9d_ok  K n _ _ _ _ _) h hS0 ha hlen ⟨e1, e2, e3, e4, e5, trivial⟩ (eqm ▸ hS2) hρ2 hd hQ
    · cases h
  · exact hW r lf h
theorem at8 : Try.prog.funcs[8]? = some (fnOf Try.prog 8) := by kernel_rfl
abbrev Y8 : Type := Int → Int → Int → Int → Int → Int → Int → List Int → (Prop) → (Prop) → Prop
set_option maxHeartbeats 4000000 in
set_option maxRecDepth 100000 in
def F8 (f25 : Y25) (f24 : Y24) (f28 : Y28) (f26 : Y26) (f27 : Y27) (f29 : Y29) (f30 : Y30) (l8_9 : YL8_9) (l8_9b : YL8_9b) (l8_9c : YL8_9c) (l8_9d : YL8_9d) (l8_13 : YL8_13) (l8_13b : YL8_13b) (pa : Int) (t : Int) (ps : Int) (pad : Int) (pp : Int) (pg : Int) (ptp : Int) (xs : List Int) (k1 : Prop) (k2 : Prop) : Prop :=
  (bif ((decide ((((0 : Nat) + ((List.length xs) - (0 : Nat))) * (1 : Nat)) ≤ (140737488355328 : Nat))) && (decide (((0 : Nat) + ((List.length xs) - (0 : Nat))) ≤ (140737488355328 : Nat)))) then (f26 pa t ps pad pp pg ptp xs ((f28 ps pad pp pg ptp ((f27 pa t ps pad pp pg ptp xs ((f29 pa xs ((f30 pa xs ((f24 (6 : Int) ((bif (!(xs == xs)) then (k1) else (l8_9 XL8_9 xs xs ((l8_13 XL8_13 xs xs ((bif (xs == xs) then (f25 ((k2))) else (k1)))))))))) (fun (xs1 : List Int) => (f24 (6 : Int) ((k1)))))) (fun (xs2 : List Int) => (f30 pa xs ((f24 (6 : Int) ((k1)))) (fun (xs3 : List Int) => (f24 (6 : Int) ((bif (!(xs2 == xs3)) then (k1) else (bif (!(xs == xs)) then (k1) else (l8_9b XL8_9b xs xs xs2 ((l8_13b XL8_13b (0 : Int) xs xs xs2 ((bif (xs == xs) then (f25 ((k2))) else (k1))))))))))))))) ((f29 pa xs ((f30 pa xs ((f24 (6 : Int) ((k1)))) (fun (xs4 : List Int) => (f24 (6 : Int) ((k1)))))) (fun (xs5 : List Int) => (f30 pa xs ((f24 (6 : Int) ((k1)))) (fun (xs6 : List Int) => (f24 (6 : Int) ((k1)))))))) ((f29 pa xs ((f30 pa xs ((f24 (6 : Int) ((k1)))) (fun (xs7 : List Int) => (f24 (6 : Int) ((k1)))))) (fun (xs8 : List Int) => (f30 pa xs ((f24 (6 : Int) ((k1)))) (fun (xs9 : List Int) => (f24 (6 : Int) ((k1)))))))) ((f29 pa xs ((f30 pa xs ((f24 (6 : Int) ((k1)))) (fun (xs10 : List Int) => (f24 (6 : Int) ((k1)))))) (fun (xs11 : List Int) => (f30 pa xs ((f24 (6 : Int) ((k1)))) (fun (xs12 : List Int) => (f24 (6 : Int) ((k1)))))))) (fun (xs13 : List Int) => (f29 pa xs ((f30 pa xs ((bif (!(([] : List Int) == xs13)) then (k1) else (f24 (6 : Int) ((k1))))) (fun (xs14 : List Int) => (bif (!(([] : List Int) == xs13)) then (k1) else (f24 (6 : Int) ((k1))))))) (fun (xs15 : List Int) => (f30 pa xs ((bif (!(([] : List Int) == xs13)) then (k1) else (f24 (6 : Int) ((k1))))) (fun (xs16 : List Int) => (bif (!(([] : List Int) == xs13)) then (k1) else (f24 (6 : Int) ((k1))))))))) ((f29 pa xs ((f30 pa xs ((bif (!(([] : List Int) == xs)) then (k1) else (f24 (6 : Int) ((k1))))) (fun (xs17 : List Int) => (bif (!(([] : List Int) == xs)) then (k1) else (f24 (6 : Int) ((k1))))))) (fun (xs18 : List Int) => (f30 pa xs ((bif (!(([] : List Int) == xs)) then (k1) else (f24 (6 : Int) ((k1))))) (fun (xs19 : List Int) => (bif (!(([] : List Int) == xs)) then (k1) else (f24 (6 : Int) ((k1))))))))))))) ((f28 ps pad pp pg ptp ((f27 pa t ps pad pp pg ptp xs ((f29 pa xs ((f30 pa xs ((f24 (200 : Int) ((k1)))) (fun (xs20 : List Int) => (f24 (200 : Int) ((k1)))))) (fun (xs21 : List Int) => (f30 pa xs ((f24 (200 : Int) ((k1)))) (fun (xs22 : List Int) => (f24 (200 : Int) ((k1)))))))) ((f29 pa xs ((f30 pa xs ((f24 (200 : Int) ((k1)))) (fun (xs23 : List Int) => (f24 (200 : Int) ((k1)))))) (fun (xs24 : List Int) => (f30 pa xs ((f24 (200 : Int) ((k1)))) (fun (xs25 : List Int) => (f24 (200 : Int) ((k1)))))))) ((f29 pa xs ((f30 pa xs ((f24 (200 : Int) ((bif (!(xs == xs)) then (k1) else (l8_9 XL8_9 xs xs ((l8_13 XL8_13 xs xs ((bif (xs == xs) then (f25 ((k2))) else (k1)))))))))) (fun (xs26 : List Int) => (f24 (200 : Int) ((k1)))))) (fun (xs27 : List Int) => (f30 pa xs ((f24 (200 : Int) ((k1)))) (fun (xs28 : List Int) => (f24 (200 : Int) ((bif (!(xs27 == xs28)) then (k1) else (bif (!(xs == xs)) then (k1) else (l8_9b XL8_9b xs xs xs27 ((l8_13b XL8_13b (0 : Int) xs xs xs27 ((bif (xs == xs) then (f25 ((k2))) else (k1))))))))))))))) ((f29 pa xs ((f30 pa xs ((f24 (200 : Int) ((k1)))) (fun (xs29 : List Int) => (f24 (200 : Int) ((k1)))))) (fun (xs30 : List Int) => (f30 pa xs ((f24 (200 : Int) ((k1)))) (fun (xs31 : List Int) => (f24 (200 : Int) ((k1)))))))) (fun (xs32 : List Int) => (f29 pa xs ((f30 pa xs ((bif (!(([] : List Int) == xs32)) then (k1) else (f24 (200 : Int) ((k1))))) (fun (xs33 : List Int) => (bif (!(([] : List Int) == xs32)) then (k1) else (f24 (200 : Int) ((k1))))))) (fun (xs34 : List Int) => (f30 pa xs ((bif (!(([] : List Int) == xs32)) then (k1) else (f24 (200 : Int) ((k1))))) (fun (xs35 : List Int) => (bif (!(([] : List Int) == xs32)) then (k1) else (f24 (200 : Int) ((k1))))))))) ((f29 pa xs ((f30 pa xs ((bif (!(([] : List Int) == xs)) then (k1) else (f24 (200 : Int) ((k1))))) (fun (xs36 : List Int) => (bif (!(([] : List Int) == xs)) then (k1) else (f24 (200 : Int) ((k1))))))) (fun (xs37 : List Int) => (f30 pa xs ((bif (!(([] : List Int) == xs)) then (k1) else (f24 (200 : Int) ((k1))))) (fun (xs38 : List Int) => (bif (!(([] : List Int) == xs)) then (k1) else (f24 (200 : Int) ((k1))))))))))))) ((f28 ps pad pp pg ptp ((f27 pa t ps pad pp pg ptp xs ((f29 pa xs ((f30 pa xs ((f24 (11 : Int) ((k1)))) (fun (xs39 : List Int) => (f24 (11 : Int) ((k1)))))) (fun (xs40 : List Int) => (f30 pa xs ((f24 (11 : Int) ((k1)))) (fun (xs41 : List Int) => (f24 (11 : Int) ((k1)))))))) ((f29 pa xs ((f30 pa xs ((f24 (11 : Int) ((bif (!(xs == xs)) then (k1) else (l8_9 XL8_9 xs xs ((l8_13 XL8_13 xs xs ((bif (xs == xs) then (f25 ((k2))) else (k1)))))))))) (fun (xs42 : List Int) => (f24 (11 : Int) ((k1)))))) (fun (xs43 : List Int) => (f30 pa xs ((f24 (11 : Int) ((k1)))) (fun (xs44 : List Int) => (f24 (11 : Int) ((bif (!(xs43 == xs44)) then (k1) else (bif (!(xs == xs)) then (k1) else (l8_9b XL8_9b xs xs xs43 ((l8_13b XL8_13b (0 : Int) xs xs xs43 ((bif (xs == xs) then (f25 ((k2))) else (k1))))))))))))))) ((f29 pa xs ((f30 pa xs ((f24 (11 : Int) ((k1)))) (fun (xs45 : List Int) => (f24 (11 : Int) ((k1)))))) (fun (xs46 : List Int) => (f30 pa xs ((f24 (11 : Int) ((k1)))) (fun (xs47 : List Int) => (f24 (11 : Int) ((k1)))))))) ((f29 pa xs ((f30 pa xs ((f24 (11 : Int) ((k1)))) (fun (xs48 : List Int) => (f24 (11 : Int) ((k1)))))) (fun (xs49 : List Int) => (f30 pa xs ((f24 (11 : Int) ((k1)))) (fun (xs50 : List Int) => (f24 (11 : Int) ((k1)))))))) (fun (xs51 : List Int) => (f29 pa xs ((f30 pa xs ((bif (!(([] : List Int) == xs51)) then (k1) else (f24 (11 : Int) ((k1))))) (fun (xs52 : List Int) => (bif (!(([] : List Int) == xs51)) then (k1) else (f24 (11 : Int) ((k1))))))) (fun (xs53 : List Int) => (f30 pa xs ((bif (!(([] : List Int) == xs51)) then (k1) else (f24 (11 : Int) ((k1))))) (fun (xs54 : List Int) => (bif (!(([] : List Int) == xs51)) then (k1) else (f24 (11 : Int) ((k1))))))))) ((f29 pa xs ((f30 pa xs ((bif (!(([] : List Int) == xs)) then (k1) else (f24 (11 : Int) ((k1))))) (fun (xs55 : List Int) => (bif (!(([] : List Int) == xs)) then (k1) else (f24 (11 : Int) ((k1))))))) (fun (xs56 : List Int) => (f30 pa xs ((bif (!(([] : List Int) == xs)) then (k1) else (f24 (11 : Int) ((k1))))) (fun (xs57 : List Int) => (bif (!(([] : List Int) == xs)) then (k1) else (f24 (11 : Int) ((k1))))))))))))) ((f28 ps pad pp pg ptp ((f27 pa t ps pad pp pg ptp xs ((f29 pa xs ((f30 pa xs ((f24 (201 : Int) ((k1)))) (fun (xs58 : List Int) => (f24 (201 : Int) ((k1)))))) (fun (xs59 : List Int) => (f30 pa xs ((f24 (201 : Int) ((k1)))) (fun (xs60 : List Int) => (f24 (201 : Int) ((k1)))))))) ((f29 pa xs ((f30 pa xs ((f24 (201 : Int) ((k1)))) (fun (xs61 : List Int) => (f24 (201 : Int) ((k1)))))) (fun (xs62 : List Int) => (f30 pa xs ((f24 (201 : Int) ((k1)))) (fun (xs63 : List Int) => (f24 (201 : Int) ((k1)))))))) ((f29 pa xs ((f30 pa xs ((f24 (201 : Int) ((k1)))) (fun (xs64 : List Int) => (f24 (201 : Int) ((k1)))))) (fun (xs65 : List Int) => (f30 pa xs ((f24 (201 : Int) ((k1)))) (fun (xs66 : List Int) => (f24 (201 : Int) ((k1)))))))) ((f29 pa xs ((f30 pa xs ((f24 (201 : Int) ((bif (!(xs == xs)) then (k1) else (l8_9 XL8_9 xs xs ((l8_13 XL8_13 xs xs ((bif (xs == xs) then (f25 ((k2))) else (k1)))))))))) (fun (xs67 : List Int) => (f24 (201 : Int) ((k1)))))) (fun (xs68 : List Int) => (f30 pa xs ((f24 (201 : Int) ((k1)))) (fun (xs69 : List Int) => (f24 (201 : Int) ((bif (!(xs68 == xs69)) then (k1) else (bif (!(xs == xs)) then (k1) else (l8_9b XL8_9b xs xs xs68 ((l8_13b XL8_13b (0 : Int) xs xs xs68 ((bif (xs == xs) then (f25 ((k2))) else (k1))))))))))))))) (fun (xs70 : List Int) => (f29 pa xs ((f30 pa xs ((bif (!(([] : List Int) == xs70)) then (k1) else (f24 (201 : Int) ((k1))))) (fun (xs71 : List Int) => (bif (!(([] : List Int) == xs70)) then (k1) else (f24 (201 : Int) ((k1))))))) (fun (xs72 : List Int) => (f30 pa xs ((bif (!(([] : List Int) == xs70)) then (k1) else (f24 (201 : Int) ((k1))))) (fun (xs73 : List Int) => (bif (!(([] : List Int) == xs70)) then (k1) else (f24 (201 : Int) ((k1))))))))) ((f29 pa xs ((f30 pa xs ((bif (!(([] : List Int) == xs)) then (k1) else (f24 (201 : Int) ((k1))))) (fun (xs74 : List Int) => (bif (!(([] : List Int) == xs)) then (k1) else (f24 (201 : Int) ((k1))))))) (fun (xs75 : List Int) => (f30 pa xs ((bif (!(([] : List Int) == xs)) then (k1) else (f24 (201 : Int) ((k1))))) (fun (xs76 : List Int) => (bif (!(([] : List Int) == xs)) then (k1) else (f24 (201 : Int) ((k1))))))))))))) (fun (xs77 : List Int) => (f28 ps pad pp pg ptp ((f27 pa t ps pad pp pg ptp xs ((f29 pa xs ((f30 pa xs ((bif (!(xs77 == ([] : List Int))) then (k1) else (f24 (0 : Int) ((k1))))) (fun (xs78 : List Int) => (bif (!(xs77 == ([] : List Int))) then (k1) else (f24 (0 : Int) ((k1))))))) (fun (xs79 : List Int) => (f30 pa xs ((bif (!(xs77 == ([] : List Int))) then (k1) else (f24 (0 : Int) ((k1))))) (fun (xs80 : List Int) => (bif (!(xs77 == ([] : List Int))) then (k1) else (f24 (0 : Int) ((k1))))))))) ((f29 pa xs ((f30 pa xs ((bif (!(xs77 == ([] : List Int))) then (k1) else (f24 (0 : Int) ((k1))))) (fun (xs81 : List Int) => (bif (!(xs77 == ([] : List Int))) then (k1) else (f24 (0 : Int) ((k1))))))) (fun (xs82 : List Int) => (f30 pa xs ((bif (!(xs77 == ([] : List Int))) then (k1) else (f24 (0 : Int) ((k1))))) (fun (xs83 : List Int) => (bif (!(xs77 == ([] : List Int))) then (k1) else (f24 (0 : Int) ((k1))))))))) ((f29 pa xs ((f30 pa xs ((bif (!(xs77 == ([] : List Int))) then (k1) else (f24 (0 : Int) ((k1))))) (fun (xs84 : List Int) => (bif (!(xs77 == ([] : List Int))) then (k1) else (f24 (0 : Int) ((k1))))))) (fun (xs85 : List Int) => (f30 pa xs ((bif (!(xs77 == ([] : List Int))) then (k1) else (f24 (0 : Int) ((k1))))) (fun (xs86 : List Int) => (bif (!(xs77 == ([] : List Int))) then (k1) else (f24 (0 : Int) ((k1))))))))) ((f29 pa xs ((f30 pa xs ((bif (!(xs77 == ([] : List Int))) then (k1) else (f24 (0 : Int) ((k1))))) (fun (xs87 : List Int) => (bif (!(xs77 == ([] : List Int))) then (k1) else (f24 (0 : Int) ((k1))))))) (fun (xs88 : List Int) => (f30 pa xs ((bif (!(xs77 == ([] : List Int))) then (k1) else (f24 (0 : Int) ((k1))))) (fun (xs89 : List Int) => (bif (!(xs77 == ([] : List Int))) then (k1) else (f24 (0 : Int) ((k1))))))))) (fun (xs90 : List Int) => (f29 pa xs ((f30 pa xs ((bif (!(xs77 == xs90)) then (k1) else (f24 (0 : Int) ((bif (!(xs == xs)) then (k1) else (l8_9c XL8_9c (0 : Int) xs xs xs77 ((l8_13 XL8_13 xs xs ((bif (xs == xs) then (f25 ((k2))) else (k1))))))))))) (fun (xs91 : List Int) => (bif (!(xs77 == xs90)) then (k1) else (f24 (0 : Int) ((k1))))))) (fun (xs92 : List Int) => (f30 pa xs ((bif (!(xs77 == xs90)) then (k1) else (f24 (0 : Int) ((k1))))) (fun (xs93 : List Int) => (bif (!(xs77 == xs90)) then (k1) else (f24 (0 : Int) ((bif (!(xs92 == xs93)) then (k1) else (bif (!(xs == xs)) then (k1) else (l8_9d XL8_9d (0 : Int) xs xs xs77 xs92 ((l8_13b XL8_13b (0 : Int) xs xs xs92 ((bif (xs == xs) then (f25 ((k2))) else (k1)))))))))))))))) ((f29 pa xs ((f30 pa xs ((bif (!(xs77 == xs)) then (k1) else (f24 (0 : Int) ((bif (!(xs == xs)) then (k1) else (l8_9c XL8_9c (0 : Int) xs xs xs77 ((l8_13 XL8_13 xs xs ((bif (xs == xs) then (f25 ((k2))) else (k1))))))))))) (fun (xs94 : List Int) => (bif (!(xs77 == xs)) then (k1) else (f24 (0 : Int) ((k1))))))) (fun (xs95 : List Int) => (f30 pa xs ((bif (!(xs77 == xs)) then (k1) else (f24 (0 : Int) ((k1))))) (fun (xs96 : List Int) => (bif (!(xs77 == xs)) then (k1) else (f24 (0 : Int) ((bif (!(xs95 == xs96)) then (k1) else (bif (!(xs == xs)) then (k1) else (l8_9d XL8_9d (0 : Int) xs xs xs77 xs95 ((l8_13b XL8_13b (0 : Int) xs xs xs95 ((bif (xs == xs) then (f25 ((k2))) else (k1))))))))))))))))))))) else False)
theorem F8_ok (f25 : Y25) (f24 : Y24) (f28 : Y28) (f26 : Y26) (f27 : Y27) (f29 : Y29) (f30 : Y30) (l8_9 : YL8_9) (l8_9b : YL8_9b) (l8_9c : YL8_9c) (l8_9d : YL8_9d) (l8_13 : YL8_13) (l8_13b : YL8_13b) (pa : Int) (t : Int) (ps : Int) (pad : Int) (pp : Int) (pg : Int) (ptp : Int) (xs : List Int) (K : V → Mem → Prop) : cbody Try.prog (T25 f25 (T24 f24 (T28 f28 (T26 f26 (T27 f27 (T29 f29 (T30 f30 C0))))))) (WL8_9 l8_9 (WL8_9b l8_9b (WL8_9c l8_9c (WL8_9d l8_9d (WL8_13 l8_13 (WL8_13b l8_13b (fun _ => none))))))) 1000 (fnOf Try.prog 8) [(.sl 0 (0 : Nat) (none : Option Nat) (none : Option Nat)), (.I .i64 pa), (.I .i64 t), (.agg [(.I .i64 ps), (.I .i64 pad), (.I .i64 pp), (.I .i64 pg), (.I .i64 ptp)])] [⟨[.ints .u8 xs], 5, true, false⟩] K =
    F8 f25 f24 f28 f26 f27 f29 f30 l8_9 l8_9b l8_9c l8_9d l8_13 l8_13b pa t ps pad pp pg ptp xs (K (.B false) [⟨[.ints .u8 xs], 5, true, false⟩]) (K (.B true) [⟨[.ints .u8 xs], 5, true, false⟩]) := by kernel_rfl
def G8 : Y8 := F8 G25 G24 G28 G26 G27 G29 G30 GL8_9 GL8_9b GL8_9c GL8_9d GL8_13 GL8_13b
def VT8 (f : Y8) (F : Prop) (args : List V) (m : Mem) (K : V → Mem → Prop) : Prop :=
  (seeCons args F fun a1 q2 => (seeV (.sl 0 (0 : Nat) (none : Option Nat) (none : Option Nat)) a1 F (seeCons q2 F fun a3 q4 => (seeI .i64 a3 F fun pa => (seeCons q4 F fun a5 q6 => (seeI .i64 a5 F fun t => (seeCons q6 F fun a7 q8 => (seeAgg a7 F fun vs9 => (seeCons vs9 F fun a10 q11 => (seeI .i64 a10 F fun ps => (seeCons q11 F fun a12 q13 => (seeI .i64 a12 F fun pad => (seeCons q13 F fun a14 q15 => (seeI .i64 a14 F fun pp => (seeCons q15 F fun a16 q17 => (seeI .i64 a16 F fun pg => (seeCons q17 F fun a18 q19 => (seeI .i64 a18 F fun ptp => (seeNil q19 F (seeNil q8 F (seeCons m F fun a20 q21 => (seeBlk 5 true false a20 F fun cs22 => (seeCons cs22 F fun a23 q24 => (seeInts .u8 a23 F fun xs => (seeNil q24 F (seeNil q21 F (f pa t ps pad pp pg ptp xs (K (.B false) [⟨[.ints .u8 xs], 5, true, false⟩]) (K (.B true) [⟨[.ints .u8 xs], 5, true, false⟩]))))))))))))))))))))))))))))
def T8 (f : Y8) (C : CC) : CC := fun g args m K =>
  match Nat.beq g 8 with
  | true => VT8 f (C g args m K) args m K
  | false => C g args m K
set_option maxRecDepth 100000 in
theorem T8_ok {C : CC} (hC : CallsOk Try.prog C) : CallsOk Try.prog (T8 G8 C) := by
  intro g args m K E w cargs hS ha h
  unfold T8 at h
  split at h
  · rename_i hg
    obtain rfl := Nat.eq_of_beq_eq_true hg
    unfold VT8 at h
    replace h := seeCons_use h
    rcases h with h | ⟨a1, q2, rfl, h⟩
    · exact hC _ _ _ _ _ _ _ hS ha h
    replace h := seeV_use h
    rcases h with h | ⟨rfl, h⟩
    · exact hC _ _ _ _ _ _ _ hS ha h
    replace h := seeCons_use h
    rcases h with h | ⟨a3, q4, rfl, h⟩
    · exact hC _ _ _ _ _ _ _ hS ha h
    replace h := seeI_use h
    rcases h with h | ⟨pa, rfl, h⟩
    · exact hC _ _ _ _ _ _ _ hS ha h
    replace h := seeCons_use h
    rcases h with h | ⟨a5, q6, rfl, h⟩
    · exact hC _ _ _ _ _ _ _ hS ha h
    replace h := seeI_use h
    rcases h with h | ⟨t, rfl, h⟩
    · exact hC _ _ _ _ _ _ _ hS ha h
    replace h := seeCons_use h
    rcases h with h | ⟨a7, q8, rfl, h⟩
    · exact hC _ _ _ _ _ _ _ hS ha h
    replace h := seeAgg_use h
    rcases h with h | ⟨vs9, rfl, h⟩
    · exact hC _ _ _ _ _ _ _ hS ha h
    replace h := seeCons_use h
    rcases h with h | ⟨a10, q11, rfl, h⟩
    · exact hC _ _ _ _ _ _ _ hS ha h
    replace h := seeI_use h
    rcases h with h | ⟨ps, rfl, h⟩
    · exact hC _ _ _ _ _ _ _ hS ha h
    replace h := seeCons_use h
    rcases h with h | ⟨a12, q13, rfl, h⟩
    · exact hC _ _ _ _ _ _ _ hS ha h
    replace h := seeI_use h
    rcases h with h | ⟨pad, rfl, h⟩
    · exact hC _ _ _ _ _ _ _ hS ha h
    replace h := seeCons_use h
    rcases h with h | ⟨a14, q15, rfl, h⟩
    · exact hC _ _ _ _ _ _ _ hS ha h
    replace h := seeI_use h
    rcases h with h | ⟨pp, rfl, h⟩
    · exact hC _ _ _ _ _ _ _ hS ha h
    replace h := seeCons_use h
    rcases h with h | ⟨a16, q17, rfl, h⟩
    · exact hC _ _ _ _ _ _ _ hS ha h
    replace h := seeI_use h
    rcases h with h | ⟨pg, rfl, h⟩
    · exact hC _ _ _ _ _ _ _ hS ha h
    replace h := seeCons_use h
    rcases h with h | ⟨a18, q19, rfl, h⟩
    · exact hC _ _ _ _ _ _ _ hS ha h
    replace h := seeI_use h
    rcases h with h | ⟨ptp, rfl, h⟩
    · exact hC _ _ _ _ _ _ _ hS ha h
    replace h := seeNil_use h
    rcases h with h | ⟨rfl, h⟩
    · exact hC _ _ _ _ _ _ _ hS ha h
    replace h := seeNil_use h
    rcases h with h | ⟨rfl, h⟩
    · exact hC _ _ _ _ _ _ _ hS ha h
    replace h := seeCons_use h
    rcases h with h | ⟨a20, q21, rfl, h⟩
    · exact hC _ _ _ _ _ _ _ hS ha h
    replace h := seeBlk_use h
    rcases h with h | ⟨cs22, rfl, h⟩
    · exact hC _ _ _ _ _ _ _ hS ha h
    replace h := seeCons_use h
    rcases h with h | ⟨a23, q24, rfl, h⟩
    · exact hC _ _ _ _ _ _ _ hS ha h
    replace h := seeInts_use h
    rcases h with h | ⟨xs, rfl, h⟩
    · exact hC _ _ _ _ _ _ _ hS ha h
    replace h := seeNil_use h
    rcases h with h | ⟨rfl, h⟩
    · exact hC _ _ _ _ _ _ _ hS ha h
    replace h := seeNil_use h
    rcases h with h | ⟨rfl, h⟩
    · exact hC _ _ _ _ _ _ _ hS ha h
    exact cbody_use named (T25_ok (T24_ok (T28_ok (T26_ok (T27_ok (T29_ok (T30_ok C0_ok))))))) at8 (l := 1) rfl (WL8_9_ok (WL8_9b_ok (WL8_9c_ok (WL8_9d_ok (WL8_13_ok (WL8_13b_ok (LoopsOk.none _ _))))))) (F8_ok G25 G24 G28 G26 G27 G29 G30 GL8_9 GL8_9b GL8_9c GL8_9d GL8_13 GL8_13b pa t ps pad pp pg ptp xs K) hS ha h
  · exact hC _ _ _ _ _ _ _ hS ha h
end Go.Proofs.Ytnndiicpiolddaa.app
